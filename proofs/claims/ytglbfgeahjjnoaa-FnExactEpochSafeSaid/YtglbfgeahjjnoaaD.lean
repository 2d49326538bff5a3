/- Each Go function does what its Lean function says. -/
import Derived.Test.YtglbfgeahjjnoaaT
import Derived.Test.YtglbfgeahjjnoaaProg
namespace Go.Sx
open Go.Proofs
set_option linter.unusedVariables false
set_option linter.unusedSimpArgs false

def tab : Tab := [(3, ⟨.int .i64, false, .basic⟩), (4, ⟨.bool, false, .basic⟩), (22, ⟨.slice (.int .i64), false, .slice 3⟩), (53, ⟨.slice (.bool), false, .slice 4⟩), (54, ⟨.slice (.prod (.int .i64) (.int .i64)), false, .slice 134⟩), (55, ⟨.slice (.prod (.int .i64) (.int .i64)), false, .slice 136⟩), (57, ⟨.prod (.int .i64) (.prod (.slice (.int .i64)) (.prod (.slice (.bool)) (.prod (.slice (.prod (.int .i64) (.int .i64))) (.prod (.slice (.prod (.int .i64) (.int .i64))) (.slice (.int .i64)))))), true, .struct [(0, 3), (1, 22), (2, 53), (3, 54), (4, 55), (5, 22)]⟩), (60, ⟨.slice (.prod (.int .i64) (.int .i64)), false, .slice 121⟩), (61, ⟨.slice (.prod (.int .i64) (.int .i64)), false, .slice 104⟩), (63, ⟨.prod (.int .i64) (.prod (.slice (.int .i64)) (.prod (.slice (.bool)) (.prod (.slice (.prod (.int .i64) (.int .i64))) (.prod (.slice (.prod (.int .i64) (.int .i64))) (.slice (.int .i64)))))), true, .struct [(0, 3), (1, 22), (2, 53), (3, 60), (4, 61), (5, 22)]⟩), (104, ⟨.prod (.int .i64) (.int .i64), true, .struct [(0, 3), (1, 3)]⟩), (121, ⟨.prod (.int .i64) (.int .i64), true, .struct [(0, 3), (1, 3)]⟩), (134, ⟨.prod (.int .i64) (.int .i64), true, .struct [(0, 3), (1, 3)]⟩), (136, ⟨.prod (.int .i64) (.int .i64), true, .struct [(0, 3), (1, 3)]⟩)]

theorem mixedOk : Try.prog.follows .mixedOrders = true := by kernel_rfl

theorem tabOk : TabOk Try.prog tab := tab_ok (show chkTab Try.prog tab tab = true by kernel_rfl)

noncomputable def T_laws_szIntS_sg (N : Nat) : Sig := Sig.of [.v (.slice (.int .i64)) false, .v (.int .i64) false] [.v (.int .i64) false] (fun d => T_laws_szIntS N d.1 d.2.1)

def T_laws_szIntS_ann : Nat → List Ghost
  | _ => []

noncomputable def T_laws_szIntS_ctx (N : Nat) : Ctx := []

theorem T_laws_szIntS_den (N : Nat) (a1 : List Int) (left2 : Int) :
    den (R := ODen (T_laws_szIntS_sg N).ps × RDen (T_laws_szIntS_sg N).rs) tab (T_laws_szIntS_ctx N) T_laws_szIntS_ann N (T_laws_szIntS_sg N) Try.f62 (a1, left2, ()) some =
    (bif decide ((isub .i64 left2 (ilen a1)) < (0 : Int)) then
    (some (α := ODen (T_laws_szIntS_sg N).ps × RDen (T_laws_szIntS_sg N).rs) ((), ((-1 : Int), ())))
    else
    (some (α := ODen (T_laws_szIntS_sg N).ps × RDen (T_laws_szIntS_sg N).rs) ((), (isub .i64 left2 (ilen a1), ())))) := by kernel_rfl

theorem T_laws_szIntS_ok (N : Nat) : chkBody Try.f62 (T_laws_szIntS_sg N).ps = true := by kernel_rfl

theorem T_laws_szIntS_callable : Callable Try.prog 62 := callable_of Try.func62 (show chkFn Try.f62 = true by kernel_rfl)

theorem T_laws_szIntS_good (N : Nat) : Good Try.prog 62 (T_laws_szIntS_sg N) :=
  good_body mixedOk tabOk ctx_nil Try.func62 (T_laws_szIntS_ok N) (fun d _ h => ⟨N, (T_laws_szIntS_den N d.1 d.2.1).trans h⟩)

noncomputable def T_laws_szBoolS_sg (N : Nat) : Sig := Sig.of [.v (.slice (.bool)) false, .v (.int .i64) false] [.v (.int .i64) false] (fun d => T_laws_szBoolS N d.1 d.2.1)

def T_laws_szBoolS_ann : Nat → List Ghost
  | _ => []

noncomputable def T_laws_szBoolS_ctx (N : Nat) : Ctx := []

theorem T_laws_szBoolS_den (N : Nat) (a1 : List Bool) (left2 : Int) :
    den (R := ODen (T_laws_szBoolS_sg N).ps × RDen (T_laws_szBoolS_sg N).rs) tab (T_laws_szBoolS_ctx N) T_laws_szBoolS_ann N (T_laws_szBoolS_sg N) Try.f63 (a1, left2, ()) some =
    (bif decide ((isub .i64 left2 (ilen a1)) < (0 : Int)) then
    (some (α := ODen (T_laws_szBoolS_sg N).ps × RDen (T_laws_szBoolS_sg N).rs) ((), ((-1 : Int), ())))
    else
    (some (α := ODen (T_laws_szBoolS_sg N).ps × RDen (T_laws_szBoolS_sg N).rs) ((), (isub .i64 left2 (ilen a1), ())))) := by kernel_rfl

theorem T_laws_szBoolS_ok (N : Nat) : chkBody Try.f63 (T_laws_szBoolS_sg N).ps = true := by kernel_rfl

theorem T_laws_szBoolS_callable : Callable Try.prog 63 := callable_of Try.func63 (show chkFn Try.f63 = true by kernel_rfl)

theorem T_laws_szBoolS_good (N : Nat) : Good Try.prog 63 (T_laws_szBoolS_sg N) :=
  good_body mixedOk tabOk ctx_nil Try.func63 (T_laws_szBoolS_ok N) (fun d _ h => ⟨N, (T_laws_szBoolS_den N d.1 d.2.1).trans h⟩)

noncomputable def T_laws_szEpBagS_sg (N : Nat) : Sig := Sig.of [.v (.slice (.prod (.int .i64) (.int .i64))) false, .v (.int .i64) false] [.v (.int .i64) false] (fun d => T_laws_szEpBagS N d.1 d.2.1)

def T_laws_szEpBagS_ann : Nat → List Ghost
  | _ => []

noncomputable def T_laws_szEpBagS_ctx (N : Nat) : Ctx := []

theorem T_laws_szEpBagS_den (N : Nat) (a1 : List (Int × Int)) (left2 : Int) :
    den (R := ODen (T_laws_szEpBagS_sg N).ps × RDen (T_laws_szEpBagS_sg N).rs) tab (T_laws_szEpBagS_ctx N) T_laws_szEpBagS_ann N (T_laws_szEpBagS_sg N) Try.f64 (a1, left2, ()) some =
    (bif decide ((isub .i64 left2 (ilen a1)) < (0 : Int)) then
    (some (α := ODen (T_laws_szEpBagS_sg N).ps × RDen (T_laws_szEpBagS_sg N).rs) ((), ((-1 : Int), ())))
    else
    (some (α := ODen (T_laws_szEpBagS_sg N).ps × RDen (T_laws_szEpBagS_sg N).rs) ((), (isub .i64 left2 (ilen a1), ())))) := by kernel_rfl

theorem T_laws_szEpBagS_ok (N : Nat) : chkBody Try.f64 (T_laws_szEpBagS_sg N).ps = true := by kernel_rfl

theorem T_laws_szEpBagS_callable : Callable Try.prog 64 := callable_of Try.func64 (show chkFn Try.f64 = true by kernel_rfl)

theorem T_laws_szEpBagS_good (N : Nat) : Good Try.prog 64 (T_laws_szEpBagS_sg N) :=
  good_body mixedOk tabOk ctx_nil Try.func64 (T_laws_szEpBagS_ok N) (fun d _ h => ⟨N, (T_laws_szEpBagS_den N d.1 d.2.1).trans h⟩)

noncomputable def T_laws_szEpHoldS_sg (N : Nat) : Sig := Sig.of [.v (.slice (.prod (.int .i64) (.int .i64))) false, .v (.int .i64) false] [.v (.int .i64) false] (fun d => T_laws_szEpHoldS N d.1 d.2.1)

def T_laws_szEpHoldS_ann : Nat → List Ghost
  | _ => []

noncomputable def T_laws_szEpHoldS_ctx (N : Nat) : Ctx := []

theorem T_laws_szEpHoldS_den (N : Nat) (a1 : List (Int × Int)) (left2 : Int) :
    den (R := ODen (T_laws_szEpHoldS_sg N).ps × RDen (T_laws_szEpHoldS_sg N).rs) tab (T_laws_szEpHoldS_ctx N) T_laws_szEpHoldS_ann N (T_laws_szEpHoldS_sg N) Try.f65 (a1, left2, ()) some =
    (bif decide ((isub .i64 left2 (ilen a1)) < (0 : Int)) then
    (some (α := ODen (T_laws_szEpHoldS_sg N).ps × RDen (T_laws_szEpHoldS_sg N).rs) ((), ((-1 : Int), ())))
    else
    (some (α := ODen (T_laws_szEpHoldS_sg N).ps × RDen (T_laws_szEpHoldS_sg N).rs) ((), (isub .i64 left2 (ilen a1), ())))) := by kernel_rfl

theorem T_laws_szEpHoldS_ok (N : Nat) : chkBody Try.f65 (T_laws_szEpHoldS_sg N).ps = true := by kernel_rfl

theorem T_laws_szEpHoldS_callable : Callable Try.prog 65 := callable_of Try.func65 (show chkFn Try.f65 = true by kernel_rfl)

theorem T_laws_szEpHoldS_good (N : Nat) : Good Try.prog 65 (T_laws_szEpHoldS_sg N) :=
  good_body mixedOk tabOk ctx_nil Try.func65 (T_laws_szEpHoldS_ok N) (fun d _ h => ⟨N, (T_laws_szEpHoldS_den N d.1 d.2.1).trans h⟩)

noncomputable def T_laws_szEpochs_sg (N : Nat) : Sig := Sig.of [.v (.prod (.int .i64) (.prod (.slice (.int .i64)) (.prod (.slice (.bool)) (.prod (.slice (.prod (.int .i64) (.int .i64))) (.prod (.slice (.prod (.int .i64) (.int .i64))) (.slice (.int .i64))))))) true, .v (.int .i64) false] [.v (.int .i64) false] (fun d => T_laws_szEpochs N d.1 d.2.1)

def T_laws_szEpochs_ann : Nat → List Ghost
  | _ => []

noncomputable def T_laws_szEpochs_ctx (N : Nat) : Ctx := [(62, T_laws_szIntS_sg N), (63, T_laws_szBoolS_sg N), (64, T_laws_szEpBagS_sg N), (65, T_laws_szEpHoldS_sg N)]

theorem T_laws_szEpochs_den (N : Nat) (a1 : Int × List Int × List Bool × List (Int × Int) × List (Int × Int) × List Int) (left2 : Int) :
    den (R := ODen (T_laws_szEpochs_sg N).ps × RDen (T_laws_szEpochs_sg N).rs) tab (T_laws_szEpochs_ctx N) T_laws_szEpochs_ann N (T_laws_szEpochs_sg N) Try.f29 (a1, left2, ()) some =
    ((T_laws_szIntS N a1.2.1 left2).bind fun o3 =>
    (bif decide (o3.2.1 < (0 : Int)) then
      (some (α := ODen (T_laws_szEpochs_sg N).ps × RDen (T_laws_szEpochs_sg N).rs) ((), ((-1 : Int), ())))
      else
      ((T_laws_szBoolS N a1.2.2.1 o3.2.1).bind fun o4 =>
        (bif decide (o4.2.1 < (0 : Int)) then
          (some (α := ODen (T_laws_szEpochs_sg N).ps × RDen (T_laws_szEpochs_sg N).rs) ((), ((-1 : Int), ())))
          else
          ((T_laws_szEpBagS N a1.2.2.2.1 o4.2.1).bind fun o5 =>
            (bif decide (o5.2.1 < (0 : Int)) then
              (some (α := ODen (T_laws_szEpochs_sg N).ps × RDen (T_laws_szEpochs_sg N).rs) ((), ((-1 : Int), ())))
              else
              ((T_laws_szEpHoldS N a1.2.2.2.2.1 o5.2.1).bind fun o6 =>
                (bif decide (o6.2.1 < (0 : Int)) then
                  (some (α := ODen (T_laws_szEpochs_sg N).ps × RDen (T_laws_szEpochs_sg N).rs) ((), ((-1 : Int), ())))
                  else
                  ((T_laws_szIntS N a1.2.2.2.2.2 o6.2.1).bind fun o7 =>
                    (bif decide (o7.2.1 < (0 : Int)) then
                      (some (α := ODen (T_laws_szEpochs_sg N).ps × RDen (T_laws_szEpochs_sg N).rs) ((), ((-1 : Int), ())))
                      else
                      (some (α := ODen (T_laws_szEpochs_sg N).ps × RDen (T_laws_szEpochs_sg N).rs) ((), (o7.2.1, ()))))))))))))) := by kernel_rfl

theorem T_laws_szEpochs_ok (N : Nat) : chkBody Try.f29 (T_laws_szEpochs_sg N).ps = true := by kernel_rfl

theorem T_laws_szEpochs_callable : Callable Try.prog 29 := callable_of Try.func29 (show chkFn Try.f29 = true by kernel_rfl)

theorem T_laws_szEpochs_good (N : Nat) : Good Try.prog 29 (T_laws_szEpochs_sg N) :=
  good_body mixedOk tabOk (ctx_cons (T_laws_szIntS_good N) T_laws_szIntS_callable (ctx_cons (T_laws_szBoolS_good N) T_laws_szBoolS_callable (ctx_cons (T_laws_szEpBagS_good N) T_laws_szEpBagS_callable (ctx_cons (T_laws_szEpHoldS_good N) T_laws_szEpHoldS_callable ctx_nil)))) Try.func29 (T_laws_szEpochs_ok N) (fun d _ h => ⟨N, (T_laws_szEpochs_den N d.1 d.2.1).trans h⟩)

noncomputable def T_laws_toIntS_sg (N : Nat) : Sig := Sig.of [.v (.slice (.int .i64)) false] [.v (.own (.int .i64)) false] (fun d => T_laws_toIntS N d.1)

def T_laws_toIntS_ann : Nat → List Ghost
  | 3 => [.canon [0, 3, 4, 11]]
  | 4 => [.canon [0, 3, 4]]
  | 5 => [.canon [0, 3, 4]]
  | 100003 => [.canon [0, 3, 4]]
  | _ => []

noncomputable def T_laws_toIntS_ctx (N : Nat) : Ctx := []

def T_laws_toIntS_lp0_sh (a2 : List Int) (i3 : Int) (l4 : List Int) : St := { env := [(0, .s (.one (.val (.slice (.int .i64)) (a2 : List Int)))), (3, .s (.one (.own 0))), (4, .s (.one (.val (.int .i64) (i3 : Int))))], objs := [(0, .arr (.int .i64) (l4 : List Int))], nx := 1 }

def T_laws_toIntS_lp0_e0 (a2 : List Int) (i5 : Int) (t6 : Bool) (l7 : List Int) : St := { env := [(0, .s (.one (.val (.slice (.int .i64)) (a2 : List Int)))), (3, .s (.one (.own 0))), (4, .s (.one (.val (.int .i64) (i5 : Int)))), (11, .s (.one (.val (.bool) (t6 : Bool))))], objs := [(0, .arr (.int .i64) (l7 : List Int))], nx := 1 }

noncomputable def T_laws_toIntS_lp0_m (N : Nat) {R : Type} (n : Nat) (st : St) (K : Ex → St → Option R) : Option R := loopN (roundG (T_laws_toIntS_ann 100003) fun st k => sx tab (T_laws_toIntS_ctx N) T_laws_toIntS_ann N (nthLoop Try.f11 0) st k) n st K

theorem T_laws_toIntS_lp0_step (N : Nat) {R : Type} (n : Nat) (K : Ex → St → Option R) (a2 : List Int) (i3 : Int) (l4 : List Int) :
    T_laws_toIntS_lp0_m N (n + 1) (T_laws_toIntS_lp0_sh a2 i3 l4) K =
    (bif decide (i3 < (ilen a2)) then
    (bif inb i3 (List.length a2) then
      (bif inb i3 (List.length l4) then
        (T_laws_toIntS_lp0_m N n (T_laws_toIntS_lp0_sh a2 (iadd .i64 i3 (1 : Int)) (List.set l4 (Int.toNat i3) (List.getD a2 (Int.toNat i3) (0 : Int)))) K) else none) else none)
    else
    (K (.exit 0) (T_laws_toIntS_lp0_e0 a2 i3 (decide (i3 < (ilen a2))) l4))) := by kernel_rfl

theorem T_laws_toIntS_lp0_eq (N : Nat) {R : Type} (a2 : List Int) (K : Ex → St → Option R) : ∀ (n : Nat) (i3 : Int) (l4 : List Int), T_laws_toIntS_lp0_m N n (T_laws_toIntS_lp0_sh a2 i3 l4) K = T_laws_toIntS_lp0 N a2 (fun i5 t6 l7 => (K (.exit 0) (T_laws_toIntS_lp0_e0 a2 i5 t6 l7))) n i3 l4
  | 0, _, _ => rfl
  | n + 1, i3, l4 => by rw [T_laws_toIntS_lp0_step, T_laws_toIntS_lp0]; (try simp only [T_laws_toIntS_lp0_eq N a2 K n])

theorem T_laws_toIntS_c1 (N : Nat) (a1 : List Int) (i8 : Int) (t9 : Bool) (l10 : List Int) :
    ((ctxK (R := ODen (T_laws_toIntS_sg N).ps × RDen (T_laws_toIntS_sg N).rs) tab (T_laws_toIntS_ctx N) T_laws_toIntS_ann N (theCode Try.f11) [1, 1, 0, 1, 0] (retK tab (T_laws_toIntS_sg N) Try.f11.results.toList some)) (.exit 0) (T_laws_toIntS_lp0_e0 a1 i8 t9 l10)) =
    (some (α := ODen (T_laws_toIntS_sg N).ps × RDen (T_laws_toIntS_sg N).rs) ((), (l10, ()))) := by kernel_rfl

theorem T_laws_toIntS_den (N : Nat) (a1 : List Int) :
    den (R := ODen (T_laws_toIntS_sg N).ps × RDen (T_laws_toIntS_sg N).rs) tab (T_laws_toIntS_ctx N) T_laws_toIntS_ann N (T_laws_toIntS_sg N) Try.f11 (a1, ()) some =
    (bif ((decide ((0 : Int) ≤ (ilen a1))) && (decide ((ilen a1) ≤ (ilen a1)))) && (room (Int.toNat (ilen a1))) then
    (T_laws_toIntS_lp0 N a1
      (fun i8 t9 l10 =>
        (some (α := ODen (T_laws_toIntS_sg N).ps × RDen (T_laws_toIntS_sg N).rs) ((), (l10, ()))))
       N (0 : Int) (List.replicate (Int.toNat (ilen a1)) (0 : Int))) else none) := by
  have h : den (R := ODen (T_laws_toIntS_sg N).ps × RDen (T_laws_toIntS_sg N).rs) tab (T_laws_toIntS_ctx N) T_laws_toIntS_ann N (T_laws_toIntS_sg N) Try.f11 (a1, ()) some =
    (bif ((decide ((0 : Int) ≤ (ilen a1))) && (decide ((ilen a1) ≤ (ilen a1)))) && (room (Int.toNat (ilen a1))) then
    (T_laws_toIntS_lp0_m N N (T_laws_toIntS_lp0_sh a1 (0 : Int) (List.replicate (Int.toNat (ilen a1)) (0 : Int))) (ctxK (R := ODen (T_laws_toIntS_sg N).ps × RDen (T_laws_toIntS_sg N).rs) tab (T_laws_toIntS_ctx N) T_laws_toIntS_ann N (theCode Try.f11) [1, 1, 0, 1, 0] (retK tab (T_laws_toIntS_sg N) Try.f11.results.toList some))) else none) := by kernel_rfl
  rw [h]
  (try simp only [T_laws_toIntS_lp0_eq, T_laws_toIntS_c1]) <;> rfl

theorem T_laws_toIntS_ok (N : Nat) : chkBody Try.f11 (T_laws_toIntS_sg N).ps = true := by kernel_rfl

theorem T_laws_toIntS_callable : Callable Try.prog 11 := callable_of Try.func11 (show chkFn Try.f11 = true by kernel_rfl)

theorem T_laws_toIntS_good (N : Nat) : Good Try.prog 11 (T_laws_toIntS_sg N) :=
  good_body mixedOk tabOk ctx_nil Try.func11 (T_laws_toIntS_ok N) (fun d _ h => ⟨N, (T_laws_toIntS_den N d.1).trans h⟩)

noncomputable def T_laws_toBoolS_sg (N : Nat) : Sig := Sig.of [.v (.slice (.bool)) false] [.v (.own (.bool)) false] (fun d => T_laws_toBoolS N d.1)

def T_laws_toBoolS_ann : Nat → List Ghost
  | 3 => [.canon [0, 3, 4, 11]]
  | 4 => [.canon [0, 3, 4]]
  | 5 => [.canon [0, 3, 4]]
  | 100003 => [.canon [0, 3, 4]]
  | _ => []

noncomputable def T_laws_toBoolS_ctx (N : Nat) : Ctx := []

def T_laws_toBoolS_lp0_sh (a2 : List Bool) (i3 : Int) (l4 : List Bool) : St := { env := [(0, .s (.one (.val (.slice (.bool)) (a2 : List Bool)))), (3, .s (.one (.own 0))), (4, .s (.one (.val (.int .i64) (i3 : Int))))], objs := [(0, .arr (.bool) (l4 : List Bool))], nx := 1 }

def T_laws_toBoolS_lp0_e0 (a2 : List Bool) (i5 : Int) (t6 : Bool) (l7 : List Bool) : St := { env := [(0, .s (.one (.val (.slice (.bool)) (a2 : List Bool)))), (3, .s (.one (.own 0))), (4, .s (.one (.val (.int .i64) (i5 : Int)))), (11, .s (.one (.val (.bool) (t6 : Bool))))], objs := [(0, .arr (.bool) (l7 : List Bool))], nx := 1 }

noncomputable def T_laws_toBoolS_lp0_m (N : Nat) {R : Type} (n : Nat) (st : St) (K : Ex → St → Option R) : Option R := loopN (roundG (T_laws_toBoolS_ann 100003) fun st k => sx tab (T_laws_toBoolS_ctx N) T_laws_toBoolS_ann N (nthLoop Try.f66 0) st k) n st K

theorem T_laws_toBoolS_lp0_step (N : Nat) {R : Type} (n : Nat) (K : Ex → St → Option R) (a2 : List Bool) (i3 : Int) (l4 : List Bool) :
    T_laws_toBoolS_lp0_m N (n + 1) (T_laws_toBoolS_lp0_sh a2 i3 l4) K =
    (bif decide (i3 < (ilen a2)) then
    (bif inb i3 (List.length a2) then
      (bif inb i3 (List.length l4) then
        (T_laws_toBoolS_lp0_m N n (T_laws_toBoolS_lp0_sh a2 (iadd .i64 i3 (1 : Int)) (List.set l4 (Int.toNat i3) (List.getD a2 (Int.toNat i3) false))) K) else none) else none)
    else
    (K (.exit 0) (T_laws_toBoolS_lp0_e0 a2 i3 (decide (i3 < (ilen a2))) l4))) := by kernel_rfl

theorem T_laws_toBoolS_lp0_eq (N : Nat) {R : Type} (a2 : List Bool) (K : Ex → St → Option R) : ∀ (n : Nat) (i3 : Int) (l4 : List Bool), T_laws_toBoolS_lp0_m N n (T_laws_toBoolS_lp0_sh a2 i3 l4) K = T_laws_toBoolS_lp0 N a2 (fun i5 t6 l7 => (K (.exit 0) (T_laws_toBoolS_lp0_e0 a2 i5 t6 l7))) n i3 l4
  | 0, _, _ => rfl
  | n + 1, i3, l4 => by rw [T_laws_toBoolS_lp0_step, T_laws_toBoolS_lp0]; (try simp only [T_laws_toBoolS_lp0_eq N a2 K n])

theorem T_laws_toBoolS_c1 (N : Nat) (a1 : List Bool) (i8 : Int) (t9 : Bool) (l10 : List Bool) :
    ((ctxK (R := ODen (T_laws_toBoolS_sg N).ps × RDen (T_laws_toBoolS_sg N).rs) tab (T_laws_toBoolS_ctx N) T_laws_toBoolS_ann N (theCode Try.f66) [1, 1, 0, 1, 0] (retK tab (T_laws_toBoolS_sg N) Try.f66.results.toList some)) (.exit 0) (T_laws_toBoolS_lp0_e0 a1 i8 t9 l10)) =
    (some (α := ODen (T_laws_toBoolS_sg N).ps × RDen (T_laws_toBoolS_sg N).rs) ((), (l10, ()))) := by kernel_rfl

theorem T_laws_toBoolS_den (N : Nat) (a1 : List Bool) :
    den (R := ODen (T_laws_toBoolS_sg N).ps × RDen (T_laws_toBoolS_sg N).rs) tab (T_laws_toBoolS_ctx N) T_laws_toBoolS_ann N (T_laws_toBoolS_sg N) Try.f66 (a1, ()) some =
    (bif ((decide ((0 : Int) ≤ (ilen a1))) && (decide ((ilen a1) ≤ (ilen a1)))) && (room (Int.toNat (ilen a1))) then
    (T_laws_toBoolS_lp0 N a1
      (fun i8 t9 l10 =>
        (some (α := ODen (T_laws_toBoolS_sg N).ps × RDen (T_laws_toBoolS_sg N).rs) ((), (l10, ()))))
       N (0 : Int) (List.replicate (Int.toNat (ilen a1)) false)) else none) := by
  have h : den (R := ODen (T_laws_toBoolS_sg N).ps × RDen (T_laws_toBoolS_sg N).rs) tab (T_laws_toBoolS_ctx N) T_laws_toBoolS_ann N (T_laws_toBoolS_sg N) Try.f66 (a1, ()) some =
    (bif ((decide ((0 : Int) ≤ (ilen a1))) && (decide ((ilen a1) ≤ (ilen a1)))) && (room (Int.toNat (ilen a1))) then
    (T_laws_toBoolS_lp0_m N N (T_laws_toBoolS_lp0_sh a1 (0 : Int) (List.replicate (Int.toNat (ilen a1)) false)) (ctxK (R := ODen (T_laws_toBoolS_sg N).ps × RDen (T_laws_toBoolS_sg N).rs) tab (T_laws_toBoolS_ctx N) T_laws_toBoolS_ann N (theCode Try.f66) [1, 1, 0, 1, 0] (retK tab (T_laws_toBoolS_sg N) Try.f66.results.toList some))) else none) := by kernel_rfl
  rw [h]
  (try simp only [T_laws_toBoolS_lp0_eq, T_laws_toBoolS_c1]) <;> rfl

theorem T_laws_toBoolS_ok (N : Nat) : chkBody Try.f66 (T_laws_toBoolS_sg N).ps = true := by kernel_rfl

theorem T_laws_toBoolS_callable : Callable Try.prog 66 := callable_of Try.func66 (show chkFn Try.f66 = true by kernel_rfl)

theorem T_laws_toBoolS_good (N : Nat) : Good Try.prog 66 (T_laws_toBoolS_sg N) :=
  good_body mixedOk tabOk ctx_nil Try.func66 (T_laws_toBoolS_ok N) (fun d _ h => ⟨N, (T_laws_toBoolS_den N d.1).trans h⟩)

noncomputable def T_laws_toEpBag_sg (N : Nat) : Sig := Sig.of [.v (.prod (.int .i64) (.int .i64)) true] [.v (.prod (.int .i64) (.int .i64)) true] (fun d => T_laws_toEpBag N d.1)

def T_laws_toEpBag_ann : Nat → List Ghost
  | _ => []

noncomputable def T_laws_toEpBag_ctx (N : Nat) : Ctx := []

theorem T_laws_toEpBag_den (N : Nat) (a1 : Int × Int) :
    den (R := ODen (T_laws_toEpBag_sg N).ps × RDen (T_laws_toEpBag_sg N).rs) tab (T_laws_toEpBag_ctx N) T_laws_toEpBag_ann N (T_laws_toEpBag_sg N) Try.f90 (a1, ()) some =
    (some (α := ODen (T_laws_toEpBag_sg N).ps × RDen (T_laws_toEpBag_sg N).rs) ((), (a1, ()))) := by kernel_rfl

theorem T_laws_toEpBag_ok (N : Nat) : chkBody Try.f90 (T_laws_toEpBag_sg N).ps = true := by kernel_rfl

theorem T_laws_toEpBag_callable : Callable Try.prog 90 := callable_of Try.func90 (show chkFn Try.f90 = true by kernel_rfl)

theorem T_laws_toEpBag_good (N : Nat) : Good Try.prog 90 (T_laws_toEpBag_sg N) :=
  good_body mixedOk tabOk ctx_nil Try.func90 (T_laws_toEpBag_ok N) (fun d _ h => ⟨N, (T_laws_toEpBag_den N d.1).trans h⟩)

noncomputable def T_laws_toEpBagS_sg (N : Nat) : Sig := Sig.of [.v (.slice (.prod (.int .i64) (.int .i64))) false] [.v (.own (.prod (.int .i64) (.int .i64))) false] (fun d => T_laws_toEpBagS N d.1)

def T_laws_toEpBagS_ann : Nat → List Ghost
  | 3 => [.canon [0, 3, 4, 11]]
  | 4 => [.canon [0, 3, 4]]
  | 5 => [.canon [0, 3, 4]]
  | 100003 => [.canon [0, 3, 4]]
  | _ => []

noncomputable def T_laws_toEpBagS_ctx (N : Nat) : Ctx := [(90, T_laws_toEpBag_sg N)]

def T_laws_toEpBagS_lp0_sh (a2 : List (Int × Int)) (i3 : Int) (l4 : List (Int × Int)) : St := { env := [(0, .s (.one (.val (.slice (.prod (.int .i64) (.int .i64))) (a2 : List (Int × Int))))), (3, .s (.one (.own 0))), (4, .s (.one (.val (.int .i64) (i3 : Int))))], objs := [(0, .arr (.prod (.int .i64) (.int .i64)) (l4 : List (Int × Int)))], nx := 1 }

def T_laws_toEpBagS_lp0_e0 (a2 : List (Int × Int)) (i6 : Int) (t7 : Bool) (l8 : List (Int × Int)) : St := { env := [(0, .s (.one (.val (.slice (.prod (.int .i64) (.int .i64))) (a2 : List (Int × Int))))), (3, .s (.one (.own 0))), (4, .s (.one (.val (.int .i64) (i6 : Int)))), (11, .s (.one (.val (.bool) (t7 : Bool))))], objs := [(0, .arr (.prod (.int .i64) (.int .i64)) (l8 : List (Int × Int)))], nx := 1 }

noncomputable def T_laws_toEpBagS_lp0_m (N : Nat) {R : Type} (n : Nat) (st : St) (K : Ex → St → Option R) : Option R := loopN (roundG (T_laws_toEpBagS_ann 100003) fun st k => sx tab (T_laws_toEpBagS_ctx N) T_laws_toEpBagS_ann N (nthLoop Try.f67 0) st k) n st K

theorem T_laws_toEpBagS_lp0_step (N : Nat) {R : Type} (n : Nat) (K : Ex → St → Option R) (a2 : List (Int × Int)) (i3 : Int) (l4 : List (Int × Int)) :
    T_laws_toEpBagS_lp0_m N (n + 1) (T_laws_toEpBagS_lp0_sh a2 i3 l4) K =
    (bif decide (i3 < (ilen a2)) then
    (bif inb i3 (List.length a2) then
      ((T_laws_toEpBag N (List.getD a2 (Int.toNat i3) ((0 : Int), (0 : Int)))).bind fun o9 =>
        (bif inb i3 (List.length l4) then
          (T_laws_toEpBagS_lp0_m N n (T_laws_toEpBagS_lp0_sh a2 (iadd .i64 i3 (1 : Int)) (List.set l4 (Int.toNat i3) o9.2.1)) K) else none)) else none)
    else
    (K (.exit 0) (T_laws_toEpBagS_lp0_e0 a2 i3 (decide (i3 < (ilen a2))) l4))) := by kernel_rfl

theorem T_laws_toEpBagS_lp0_eq (N : Nat) {R : Type} (a2 : List (Int × Int)) (K : Ex → St → Option R) : ∀ (n : Nat) (i3 : Int) (l4 : List (Int × Int)), T_laws_toEpBagS_lp0_m N n (T_laws_toEpBagS_lp0_sh a2 i3 l4) K = T_laws_toEpBagS_lp0 N a2 (fun i6 t7 l8 => (K (.exit 0) (T_laws_toEpBagS_lp0_e0 a2 i6 t7 l8))) n i3 l4
  | 0, _, _ => rfl
  | n + 1, i3, l4 => by rw [T_laws_toEpBagS_lp0_step, T_laws_toEpBagS_lp0]; (try simp only [T_laws_toEpBagS_lp0_eq N a2 K n])

theorem T_laws_toEpBagS_c1 (N : Nat) (a1 : List (Int × Int)) (i10 : Int) (t11 : Bool) (l12 : List (Int × Int)) :
    ((ctxK (R := ODen (T_laws_toEpBagS_sg N).ps × RDen (T_laws_toEpBagS_sg N).rs) tab (T_laws_toEpBagS_ctx N) T_laws_toEpBagS_ann N (theCode Try.f67) [1, 1, 0, 1, 0] (retK tab (T_laws_toEpBagS_sg N) Try.f67.results.toList some)) (.exit 0) (T_laws_toEpBagS_lp0_e0 a1 i10 t11 l12)) =
    (some (α := ODen (T_laws_toEpBagS_sg N).ps × RDen (T_laws_toEpBagS_sg N).rs) ((), (l12, ()))) := by kernel_rfl

theorem T_laws_toEpBagS_den (N : Nat) (a1 : List (Int × Int)) :
    den (R := ODen (T_laws_toEpBagS_sg N).ps × RDen (T_laws_toEpBagS_sg N).rs) tab (T_laws_toEpBagS_ctx N) T_laws_toEpBagS_ann N (T_laws_toEpBagS_sg N) Try.f67 (a1, ()) some =
    (bif ((decide ((0 : Int) ≤ (ilen a1))) && (decide ((ilen a1) ≤ (ilen a1)))) && (room (Int.toNat (ilen a1))) then
    (T_laws_toEpBagS_lp0 N a1
      (fun i10 t11 l12 =>
        (some (α := ODen (T_laws_toEpBagS_sg N).ps × RDen (T_laws_toEpBagS_sg N).rs) ((), (l12, ()))))
       N (0 : Int) (List.replicate (Int.toNat (ilen a1)) ((0 : Int), (0 : Int)))) else none) := by
  have h : den (R := ODen (T_laws_toEpBagS_sg N).ps × RDen (T_laws_toEpBagS_sg N).rs) tab (T_laws_toEpBagS_ctx N) T_laws_toEpBagS_ann N (T_laws_toEpBagS_sg N) Try.f67 (a1, ()) some =
    (bif ((decide ((0 : Int) ≤ (ilen a1))) && (decide ((ilen a1) ≤ (ilen a1)))) && (room (Int.toNat (ilen a1))) then
    (T_laws_toEpBagS_lp0_m N N (T_laws_toEpBagS_lp0_sh a1 (0 : Int) (List.replicate (Int.toNat (ilen a1)) ((0 : Int), (0 : Int)))) (ctxK (R := ODen (T_laws_toEpBagS_sg N).ps × RDen (T_laws_toEpBagS_sg N).rs) tab (T_laws_toEpBagS_ctx N) T_laws_toEpBagS_ann N (theCode Try.f67) [1, 1, 0, 1, 0] (retK tab (T_laws_toEpBagS_sg N) Try.f67.results.toList some))) else none) := by kernel_rfl
  rw [h]
  (try simp only [T_laws_toEpBagS_lp0_eq, T_laws_toEpBagS_c1]) <;> rfl

theorem T_laws_toEpBagS_ok (N : Nat) : chkBody Try.f67 (T_laws_toEpBagS_sg N).ps = true := by kernel_rfl

theorem T_laws_toEpBagS_callable : Callable Try.prog 67 := callable_of Try.func67 (show chkFn Try.f67 = true by kernel_rfl)

theorem T_laws_toEpBagS_good (N : Nat) : Good Try.prog 67 (T_laws_toEpBagS_sg N) :=
  good_body mixedOk tabOk (ctx_cons (T_laws_toEpBag_good N) T_laws_toEpBag_callable ctx_nil) Try.func67 (T_laws_toEpBagS_ok N) (fun d _ h => ⟨N, (T_laws_toEpBagS_den N d.1).trans h⟩)

noncomputable def T_laws_toEpHold_sg (N : Nat) : Sig := Sig.of [.v (.prod (.int .i64) (.int .i64)) true] [.v (.prod (.int .i64) (.int .i64)) true] (fun d => T_laws_toEpHold N d.1)

def T_laws_toEpHold_ann : Nat → List Ghost
  | _ => []

noncomputable def T_laws_toEpHold_ctx (N : Nat) : Ctx := []

theorem T_laws_toEpHold_den (N : Nat) (a1 : Int × Int) :
    den (R := ODen (T_laws_toEpHold_sg N).ps × RDen (T_laws_toEpHold_sg N).rs) tab (T_laws_toEpHold_ctx N) T_laws_toEpHold_ann N (T_laws_toEpHold_sg N) Try.f91 (a1, ()) some =
    (some (α := ODen (T_laws_toEpHold_sg N).ps × RDen (T_laws_toEpHold_sg N).rs) ((), (a1, ()))) := by kernel_rfl

theorem T_laws_toEpHold_ok (N : Nat) : chkBody Try.f91 (T_laws_toEpHold_sg N).ps = true := by kernel_rfl

theorem T_laws_toEpHold_callable : Callable Try.prog 91 := callable_of Try.func91 (show chkFn Try.f91 = true by kernel_rfl)

theorem T_laws_toEpHold_good (N : Nat) : Good Try.prog 91 (T_laws_toEpHold_sg N) :=
  good_body mixedOk tabOk ctx_nil Try.func91 (T_laws_toEpHold_ok N) (fun d _ h => ⟨N, (T_laws_toEpHold_den N d.1).trans h⟩)

noncomputable def T_laws_toEpHoldS_sg (N : Nat) : Sig := Sig.of [.v (.slice (.prod (.int .i64) (.int .i64))) false] [.v (.own (.prod (.int .i64) (.int .i64))) false] (fun d => T_laws_toEpHoldS N d.1)

def T_laws_toEpHoldS_ann : Nat → List Ghost
  | 3 => [.canon [0, 3, 4, 11]]
  | 4 => [.canon [0, 3, 4]]
  | 5 => [.canon [0, 3, 4]]
  | 100003 => [.canon [0, 3, 4]]
  | _ => []

noncomputable def T_laws_toEpHoldS_ctx (N : Nat) : Ctx := [(91, T_laws_toEpHold_sg N)]

def T_laws_toEpHoldS_lp0_sh (a2 : List (Int × Int)) (i3 : Int) (l4 : List (Int × Int)) : St := { env := [(0, .s (.one (.val (.slice (.prod (.int .i64) (.int .i64))) (a2 : List (Int × Int))))), (3, .s (.one (.own 0))), (4, .s (.one (.val (.int .i64) (i3 : Int))))], objs := [(0, .arr (.prod (.int .i64) (.int .i64)) (l4 : List (Int × Int)))], nx := 1 }

def T_laws_toEpHoldS_lp0_e0 (a2 : List (Int × Int)) (i6 : Int) (t7 : Bool) (l8 : List (Int × Int)) : St := { env := [(0, .s (.one (.val (.slice (.prod (.int .i64) (.int .i64))) (a2 : List (Int × Int))))), (3, .s (.one (.own 0))), (4, .s (.one (.val (.int .i64) (i6 : Int)))), (11, .s (.one (.val (.bool) (t7 : Bool))))], objs := [(0, .arr (.prod (.int .i64) (.int .i64)) (l8 : List (Int × Int)))], nx := 1 }

noncomputable def T_laws_toEpHoldS_lp0_m (N : Nat) {R : Type} (n : Nat) (st : St) (K : Ex → St → Option R) : Option R := loopN (roundG (T_laws_toEpHoldS_ann 100003) fun st k => sx tab (T_laws_toEpHoldS_ctx N) T_laws_toEpHoldS_ann N (nthLoop Try.f68 0) st k) n st K

theorem T_laws_toEpHoldS_lp0_step (N : Nat) {R : Type} (n : Nat) (K : Ex → St → Option R) (a2 : List (Int × Int)) (i3 : Int) (l4 : List (Int × Int)) :
    T_laws_toEpHoldS_lp0_m N (n + 1) (T_laws_toEpHoldS_lp0_sh a2 i3 l4) K =
    (bif decide (i3 < (ilen a2)) then
    (bif inb i3 (List.length a2) then
      ((T_laws_toEpHold N (List.getD a2 (Int.toNat i3) ((0 : Int), (0 : Int)))).bind fun o9 =>
        (bif inb i3 (List.length l4) then
          (T_laws_toEpHoldS_lp0_m N n (T_laws_toEpHoldS_lp0_sh a2 (iadd .i64 i3 (1 : Int)) (List.set l4 (Int.toNat i3) o9.2.1)) K) else none)) else none)
    else
    (K (.exit 0) (T_laws_toEpHoldS_lp0_e0 a2 i3 (decide (i3 < (ilen a2))) l4))) := by kernel_rfl

theorem T_laws_toEpHoldS_lp0_eq (N : Nat) {R : Type} (a2 : List (Int × Int)) (K : Ex → St → Option R) : ∀ (n : Nat) (i3 : Int) (l4 : List (Int × Int)), T_laws_toEpHoldS_lp0_m N n (T_laws_toEpHoldS_lp0_sh a2 i3 l4) K = T_laws_toEpHoldS_lp0 N a2 (fun i6 t7 l8 => (K (.exit 0) (T_laws_toEpHoldS_lp0_e0 a2 i6 t7 l8))) n i3 l4
  | 0, _, _ => rfl
  | n + 1, i3, l4 => by rw [T_laws_toEpHoldS_lp0_step, T_laws_toEpHoldS_lp0]; (try simp only [T_laws_toEpHoldS_lp0_eq N a2 K n])

theorem T_laws_toEpHoldS_c1 (N : Nat) (a1 : List (Int × Int)) (i10 : Int) (t11 : Bool) (l12 : List (Int × Int)) :
    ((ctxK (R := ODen (T_laws_toEpHoldS_sg N).ps × RDen (T_laws_toEpHoldS_sg N).rs) tab (T_laws_toEpHoldS_ctx N) T_laws_toEpHoldS_ann N (theCode Try.f68) [1, 1, 0, 1, 0] (retK tab (T_laws_toEpHoldS_sg N) Try.f68.results.toList some)) (.exit 0) (T_laws_toEpHoldS_lp0_e0 a1 i10 t11 l12)) =
    (some (α := ODen (T_laws_toEpHoldS_sg N).ps × RDen (T_laws_toEpHoldS_sg N).rs) ((), (l12, ()))) := by kernel_rfl

theorem T_laws_toEpHoldS_den (N : Nat) (a1 : List (Int × Int)) :
    den (R := ODen (T_laws_toEpHoldS_sg N).ps × RDen (T_laws_toEpHoldS_sg N).rs) tab (T_laws_toEpHoldS_ctx N) T_laws_toEpHoldS_ann N (T_laws_toEpHoldS_sg N) Try.f68 (a1, ()) some =
    (bif ((decide ((0 : Int) ≤ (ilen a1))) && (decide ((ilen a1) ≤ (ilen a1)))) && (room (Int.toNat (ilen a1))) then
    (T_laws_toEpHoldS_lp0 N a1
      (fun i10 t11 l12 =>
        (some (α := ODen (T_laws_toEpHoldS_sg N).ps × RDen (T_laws_toEpHoldS_sg N).rs) ((), (l12, ()))))
       N (0 : Int) (List.replicate (Int.toNat (ilen a1)) ((0 : Int), (0 : Int)))) else none) := by
  have h : den (R := ODen (T_laws_toEpHoldS_sg N).ps × RDen (T_laws_toEpHoldS_sg N).rs) tab (T_laws_toEpHoldS_ctx N) T_laws_toEpHoldS_ann N (T_laws_toEpHoldS_sg N) Try.f68 (a1, ()) some =
    (bif ((decide ((0 : Int) ≤ (ilen a1))) && (decide ((ilen a1) ≤ (ilen a1)))) && (room (Int.toNat (ilen a1))) then
    (T_laws_toEpHoldS_lp0_m N N (T_laws_toEpHoldS_lp0_sh a1 (0 : Int) (List.replicate (Int.toNat (ilen a1)) ((0 : Int), (0 : Int)))) (ctxK (R := ODen (T_laws_toEpHoldS_sg N).ps × RDen (T_laws_toEpHoldS_sg N).rs) tab (T_laws_toEpHoldS_ctx N) T_laws_toEpHoldS_ann N (theCode Try.f68) [1, 1, 0, 1, 0] (retK tab (T_laws_toEpHoldS_sg N) Try.f68.results.toList some))) else none) := by kernel_rfl
  rw [h]
  (try simp only [T_laws_toEpHoldS_lp0_eq, T_laws_toEpHoldS_c1]) <;> rfl

theorem T_laws_toEpHoldS_ok (N : Nat) : chkBody Try.f68 (T_laws_toEpHoldS_sg N).ps = true := by kernel_rfl

theorem T_laws_toEpHoldS_callable : Callable Try.prog 68 := callable_of Try.func68 (show chkFn Try.f68 = true by kernel_rfl)

theorem T_laws_toEpHoldS_good (N : Nat) : Good Try.prog 68 (T_laws_toEpHoldS_sg N) :=
  good_body mixedOk tabOk (ctx_cons (T_laws_toEpHold_good N) T_laws_toEpHold_callable ctx_nil) Try.func68 (T_laws_toEpHoldS_ok N) (fun d _ h => ⟨N, (T_laws_toEpHoldS_den N d.1).trans h⟩)

noncomputable def T_laws_toEpochs_sg (N : Nat) : Sig := Sig.of [.v (.prod (.int .i64) (.prod (.slice (.int .i64)) (.prod (.slice (.bool)) (.prod (.slice (.prod (.int .i64) (.int .i64))) (.prod (.slice (.prod (.int .i64) (.int .i64))) (.slice (.int .i64))))))) true] [.v (.prod (.int .i64) (.prod (.own (.int .i64)) (.prod (.own (.bool)) (.prod (.own (.prod (.int .i64) (.int .i64))) (.prod (.own (.prod (.int .i64) (.int .i64))) (.own (.int .i64))))))) true] (fun d => T_laws_toEpochs N d.1)

def T_laws_toEpochs_ann : Nat → List Ghost
  | _ => []

noncomputable def T_laws_toEpochs_ctx (N : Nat) : Ctx := [(11, T_laws_toIntS_sg N), (66, T_laws_toBoolS_sg N), (67, T_laws_toEpBagS_sg N), (68, T_laws_toEpHoldS_sg N)]

theorem T_laws_toEpochs_den (N : Nat) (a1 : Int × List Int × List Bool × List (Int × Int) × List (Int × Int) × List Int) :
    den (R := ODen (T_laws_toEpochs_sg N).ps × RDen (T_laws_toEpochs_sg N).rs) tab (T_laws_toEpochs_ctx N) T_laws_toEpochs_ann N (T_laws_toEpochs_sg N) Try.f31 (a1, ()) some =
    ((T_laws_toIntS N a1.2.1).bind fun o2 =>
    ((T_laws_toBoolS N a1.2.2.1).bind fun o3 =>
      ((T_laws_toEpBagS N a1.2.2.2.1).bind fun o4 =>
        ((T_laws_toEpHoldS N a1.2.2.2.2.1).bind fun o5 =>
          ((T_laws_toIntS N a1.2.2.2.2.2).bind fun o6 =>
            (some (α := ODen (T_laws_toEpochs_sg N).ps × RDen (T_laws_toEpochs_sg N).rs) ((), ((a1.1, (o2.2.1, (o3.2.1, (o4.2.1, (o5.2.1, o6.2.1))))), ())))))))) := by kernel_rfl

theorem T_laws_toEpochs_ok (N : Nat) : chkBody Try.f31 (T_laws_toEpochs_sg N).ps = true := by kernel_rfl

theorem T_laws_toEpochs_callable : Callable Try.prog 31 := callable_of Try.func31 (show chkFn Try.f31 = true by kernel_rfl)

theorem T_laws_toEpochs_good (N : Nat) : Good Try.prog 31 (T_laws_toEpochs_sg N) :=
  good_body mixedOk tabOk (ctx_cons (T_laws_toIntS_good N) T_laws_toIntS_callable (ctx_cons (T_laws_toBoolS_good N) T_laws_toBoolS_callable (ctx_cons (T_laws_toEpBagS_good N) T_laws_toEpBagS_callable (ctx_cons (T_laws_toEpHoldS_good N) T_laws_toEpHoldS_callable ctx_nil)))) Try.func31 (T_laws_toEpochs_ok N) (fun d _ h => ⟨N, (T_laws_toEpochs_den N d.1).trans h⟩)

noncomputable def T_spec_EpochSafe_sg (N : Nat) : Sig := Sig.of [.v (.prod (.int .i64) (.prod (.slice (.int .i64)) (.prod (.slice (.bool)) (.prod (.slice (.prod (.int .i64) (.int .i64))) (.prod (.slice (.prod (.int .i64) (.int .i64))) (.slice (.int .i64))))))) true] [.v (.bool) false] (fun d => T_spec_EpochSafe N d.1)

def T_spec_EpochSafe_ann : Nat → List Ghost
  | 2 => [.canon [1, 3, 9]]
  | 3 => [.canon [1, 3]]
  | 4 => [.canon [1, 3, 4]]
  | 5 => [.canon [1, 3, 4, 16]]
  | 6 => [.canon [1, 3, 4]]
  | 7 => [.canon [1, 3, 4, 30]]
  | 8 => [.canon [2]]
  | 100002 => [.canon [1, 3]]
  | 100005 => [.canon [1, 3, 4]]
  | _ => []

noncomputable def T_spec_EpochSafe_ctx (N : Nat) : Ctx := []

def T_spec_EpochSafe_lp1_sh (i4 : Int) (k5 : Int) (b6 : Int × List Int × List Bool × List (Int × Int) × List (Int × Int) × List Int) : St := { env := [(1, .s (.one (.ptr 0 0))), (3, .s (.one (.val (.int .i64) (i4 : Int)))), (4, .s (.one (.val (.int .i64) (k5 : Int))))], objs := [(0, .box [.val (.int .i64) (b6.1 : Int), .val (.slice (.int .i64)) (b6.2.1 : List Int), .val (.slice (.bool)) (b6.2.2.1 : List Bool), .val (.slice (.prod (.int .i64) (.int .i64))) (b6.2.2.2.1 : List (Int × Int)), .val (.slice (.prod (.int .i64) (.int .i64))) (b6.2.2.2.2.1 : List (Int × Int)), .val (.slice (.int .i64)) (b6.2.2.2.2.2 : List Int)])], nx := 1 }

def T_spec_EpochSafe_lp1_e0 (i4 : Int) (b6 : Int × List Int × List Bool × List (Int × Int) × List (Int × Int) × List Int) : St := { env := [(2, .s (.one (.val (.bool) (false : Bool))))], objs := [], nx := 0 }

def T_spec_EpochSafe_lp1_e1 (i4 : Int) (b6 : Int × List Int × List Bool × List (Int × Int) × List (Int × Int) × List Int) (k7 : Int) (t8 : Bool) : St := { env := [(1, .s (.one (.ptr 0 0))), (3, .s (.one (.val (.int .i64) (i4 : Int)))), (4, .s (.one (.val (.int .i64) (k7 : Int)))), (16, .s (.one (.val (.bool) (t8 : Bool))))], objs := [(0, .box [.val (.int .i64) (b6.1 : Int), .val (.slice (.int .i64)) (b6.2.1 : List Int), .val (.slice (.bool)) (b6.2.2.1 : List Bool), .val (.slice (.prod (.int .i64) (.int .i64))) (b6.2.2.2.1 : List (Int × Int)), .val (.slice (.prod (.int .i64) (.int .i64))) (b6.2.2.2.2.1 : List (Int × Int)), .val (.slice (.int .i64)) (b6.2.2.2.2.2 : List Int)])], nx := 1 }

noncomputable def T_spec_EpochSafe_lp1_m (N : Nat) {R : Type} (n : Nat) (st : St) (K : Ex → St → Option R) : Option R := loopN (roundG (T_spec_EpochSafe_ann 100005) fun st k => sx tab (T_spec_EpochSafe_ctx N) T_spec_EpochSafe_ann N (nthLoop Try.f30 1) st k) n st K

theorem T_spec_EpochSafe_lp1_step (N : Nat) {R : Type} (n : Nat) (K : Ex → St → Option R) (i4 : Int) (k5 : Int) (b6 : Int × List Int × List Bool × List (Int × Int) × List (Int × Int) × List Int) :
    T_spec_EpochSafe_lp1_m N (n + 1) (T_spec_EpochSafe_lp1_sh i4 k5 b6) K =
    (bif decide (k5 < (ilen b6.2.2.2.2.1)) then
    (bif inb k5 (List.length b6.2.2.2.2.1) then
      (bif inb i4 (List.length b6.2.2.2.2.2) then
        (bif (List.getD b6.2.2.2.2.1 (Int.toNat k5) ((0 : Int), (0 : Int))).2 == (List.getD b6.2.2.2.2.2 (Int.toNat i4) (0 : Int)) then
          (K .ret (T_spec_EpochSafe_lp1_e0 i4 b6))
          else
          (T_spec_EpochSafe_lp1_m N n (T_spec_EpochSafe_lp1_sh i4 (iadd .i64 k5 (1 : Int)) b6) K)) else none) else none)
    else
    (K (.exit 2) (T_spec_EpochSafe_lp1_e1 i4 b6 k5 (decide (k5 < (ilen b6.2.2.2.2.1)))))) := by kernel_rfl

theorem T_spec_EpochSafe_lp1_eq (N : Nat) {R : Type} (i4 : Int) (b6 : Int × List Int × List Bool × List (Int × Int) × List (Int × Int) × List Int) (K : Ex → St → Option R) : ∀ (n : Nat) (k5 : Int), T_spec_EpochSafe_lp1_m N n (T_spec_EpochSafe_lp1_sh i4 k5 b6) K = T_spec_EpochSafe_lp1 N i4 b6 (K .ret (T_spec_EpochSafe_lp1_e0 i4 b6)) (fun k7 t8 => (K (.exit 2) (T_spec_EpochSafe_lp1_e1 i4 b6 k7 t8))) n k5
  | 0, _ => rfl
  | n + 1, k5 => by rw [T_spec_EpochSafe_lp1_step, T_spec_EpochSafe_lp1]; (try simp only [T_spec_EpochSafe_lp1_eq N i4 b6 K n])

def T_spec_EpochSafe_lp0_sh (i2 : Int) (b3 : Int × List Int × List Bool × List (Int × Int) × List (Int × Int) × List Int) : St := { env := [(1, .s (.one (.ptr 0 0))), (3, .s (.one (.val (.int .i64) (i2 : Int))))], objs := [(0, .box [.val (.int .i64) (b3.1 : Int), .val (.slice (.int .i64)) (b3.2.1 : List Int), .val (.slice (.bool)) (b3.2.2.1 : List Bool), .val (.slice (.prod (.int .i64) (.int .i64))) (b3.2.2.2.1 : List (Int × Int)), .val (.slice (.prod (.int .i64) (.int .i64))) (b3.2.2.2.2.1 : List (Int × Int)), .val (.slice (.int .i64)) (b3.2.2.2.2.2 : List Int)])], nx := 1 }

def T_spec_EpochSafe_lp0_e0 (b3 : Int × List Int × List Bool × List (Int × Int) × List (Int × Int) × List Int) : St := { env := [(2, .s (.one (.val (.bool) (false : Bool))))], objs := [], nx := 0 }

def T_spec_EpochSafe_lp0_e1 (b3 : Int × List Int × List Bool × List (Int × Int) × List (Int × Int) × List Int) (i11 : Int) (t12 : Bool) : St := { env := [(1, .s (.one (.ptr 0 0))), (3, .s (.one (.val (.int .i64) (i11 : Int)))), (9, .s (.one (.val (.bool) (t12 : Bool))))], objs := [(0, .box [.val (.int .i64) (b3.1 : Int), .val (.slice (.int .i64)) (b3.2.1 : List Int), .val (.slice (.bool)) (b3.2.2.1 : List Bool), .val (.slice (.prod (.int .i64) (.int .i64))) (b3.2.2.2.1 : List (Int × Int)), .val (.slice (.prod (.int .i64) (.int .i64))) (b3.2.2.2.2.1 : List (Int × Int)), .val (.slice (.int .i64)) (b3.2.2.2.2.2 : List Int)])], nx := 1 }

noncomputable def T_spec_EpochSafe_lp0_m (N : Nat) {R : Type} (n : Nat) (st : St) (K : Ex → St → Option R) : Option R := loopN (roundG (T_spec_EpochSafe_ann 100002) fun st k => sx tab (T_spec_EpochSafe_ctx N) T_spec_EpochSafe_ann N (nthLoop Try.f30 0) st k) n st K

theorem T_spec_EpochSafe_c1 (N : Nat) {R : Type} (n : Nat) (K : Ex → St → Option R) (i2 : Int) (b3 : Int × List Int × List Bool × List (Int × Int) × List (Int × Int) × List Int) :
    ((ctxK tab (T_spec_EpochSafe_ctx N) T_spec_EpochSafe_ann N (nthLoop Try.f30 0) [1, 0, 0, 1, 0] (backK (T_spec_EpochSafe_ann 100002) (T_spec_EpochSafe_lp0_m N n) K)) .ret (T_spec_EpochSafe_lp1_e0 i2 b3)) =
    (K .ret (T_spec_EpochSafe_lp0_e0 b3)) := by kernel_rfl

theorem T_spec_EpochSafe_c2 (N : Nat) {R : Type} (n : Nat) (K : Ex → St → Option R) (i2 : Int) (b3 : Int × List Int × List Bool × List (Int × Int) × List (Int × Int) × List Int) (k13 : Int) (t14 : Bool) :
    ((ctxK tab (T_spec_EpochSafe_ctx N) T_spec_EpochSafe_ann N (nthLoop Try.f30 0) [1, 0, 0, 1, 0] (backK (T_spec_EpochSafe_ann 100002) (T_spec_EpochSafe_lp0_m N n) K)) (.exit 2) (T_spec_EpochSafe_lp1_e1 i2 b3 k13 t14)) =
    (T_spec_EpochSafe_lp0_m N n (T_spec_EpochSafe_lp0_sh (iadd .i64 i2 (1 : Int)) b3) K) := by kernel_rfl

theorem T_spec_EpochSafe_lp0_step (N : Nat) {R : Type} (n : Nat) (K : Ex → St → Option R) (i2 : Int) (b3 : Int × List Int × List Bool × List (Int × Int) × List (Int × Int) × List Int) :
    T_spec_EpochSafe_lp0_m N (n + 1) (T_spec_EpochSafe_lp0_sh i2 b3) K =
    (bif decide (i2 < (ilen b3.2.2.2.2.2)) then
    (T_spec_EpochSafe_lp1 N i2 b3
      (K .ret (T_spec_EpochSafe_lp0_e0 b3))
      (fun k13 t14 =>
        (T_spec_EpochSafe_lp0_m N n (T_spec_EpochSafe_lp0_sh (iadd .i64 i2 (1 : Int)) b3) K))
       N (0 : Int))
    else
    (K (.exit 0) (T_spec_EpochSafe_lp0_e1 b3 i2 (decide (i2 < (ilen b3.2.2.2.2.2)))))) := by
  have h : T_spec_EpochSafe_lp0_m N (n + 1) (T_spec_EpochSafe_lp0_sh i2 b3) K =
    (bif decide (i2 < (ilen b3.2.2.2.2.2)) then
    (T_spec_EpochSafe_lp1_m N N (T_spec_EpochSafe_lp1_sh i2 (0 : Int) b3) (ctxK tab (T_spec_EpochSafe_ctx N) T_spec_EpochSafe_ann N (nthLoop Try.f30 0) [1, 0, 0, 1, 0] (backK (T_spec_EpochSafe_ann 100002) (T_spec_EpochSafe_lp0_m N n) K)))
    else
    (K (.exit 0) (T_spec_EpochSafe_lp0_e1 b3 i2 (decide (i2 < (ilen b3.2.2.2.2.2)))))) := by kernel_rfl
  rw [h]
  (try simp only [T_spec_EpochSafe_lp1_eq, T_spec_EpochSafe_c1, T_spec_EpochSafe_c2]) <;> rfl

theorem T_spec_EpochSafe_lp0_eq (N : Nat) {R : Type} (b3 : Int × List Int × List Bool × List (Int × Int) × List (Int × Int) × List Int) (K : Ex → St → Option R) : ∀ (n : Nat) (i2 : Int), T_spec_EpochSafe_lp0_m N n (T_spec_EpochSafe_lp0_sh i2 b3) K = T_spec_EpochSafe_lp0 N b3 (K .ret (T_spec_EpochSafe_lp0_e0 b3)) (fun i11 t12 => (K (.exit 0) (T_spec_EpochSafe_lp0_e1 b3 i11 t12))) n i2
  | 0, _ => rfl
  | n + 1, i2 => by rw [T_spec_EpochSafe_lp0_step, T_spec_EpochSafe_lp0]; (try simp only [T_spec_EpochSafe_lp0_eq N b3 K n])

theorem T_spec_EpochSafe_c3 (N : Nat) (e1 : Int × List Int × List Bool × List (Int × Int) × List (Int × Int) × List Int) :
    ((ctxK (R := ODen (T_spec_EpochSafe_sg N).ps × RDen (T_spec_EpochSafe_sg N).rs) tab (T_spec_EpochSafe_ctx N) T_spec_EpochSafe_ann N (theCode Try.f30) [1, 0, 1, 0] (retK tab (T_spec_EpochSafe_sg N) Try.f30.results.toList some)) .ret (T_spec_EpochSafe_lp0_e0 e1)) =
    (some (α := ODen (T_spec_EpochSafe_sg N).ps × RDen (T_spec_EpochSafe_sg N).rs) ((), (false, ()))) := by kernel_rfl

theorem T_spec_EpochSafe_c4 (N : Nat) (e1 : Int × List Int × List Bool × List (Int × Int) × List (Int × Int) × List Int) (i15 : Int) (t16 : Bool) :
    ((ctxK (R := ODen (T_spec_EpochSafe_sg N).ps × RDen (T_spec_EpochSafe_sg N).rs) tab (T_spec_EpochSafe_ctx N) T_spec_EpochSafe_ann N (theCode Try.f30) [1, 0, 1, 0] (retK tab (T_spec_EpochSafe_sg N) Try.f30.results.toList some)) (.exit 0) (T_spec_EpochSafe_lp0_e1 e1 i15 t16)) =
    (some (α := ODen (T_spec_EpochSafe_sg N).ps × RDen (T_spec_EpochSafe_sg N).rs) ((), (true, ()))) := by kernel_rfl

theorem T_spec_EpochSafe_den (N : Nat) (e1 : Int × List Int × List Bool × List (Int × Int) × List (Int × Int) × List Int) :
    den (R := ODen (T_spec_EpochSafe_sg N).ps × RDen (T_spec_EpochSafe_sg N).rs) tab (T_spec_EpochSafe_ctx N) T_spec_EpochSafe_ann N (T_spec_EpochSafe_sg N) Try.f30 (e1, ()) some =
    (T_spec_EpochSafe_lp0 N e1
    (some (α := ODen (T_spec_EpochSafe_sg N).ps × RDen (T_spec_EpochSafe_sg N).rs) ((), (false, ())))
    (fun i15 t16 =>
      (some (α := ODen (T_spec_EpochSafe_sg N).ps × RDen (T_spec_EpochSafe_sg N).rs) ((), (true, ()))))
     N (0 : Int)) := by
  have h : den (R := ODen (T_spec_EpochSafe_sg N).ps × RDen (T_spec_EpochSafe_sg N).rs) tab (T_spec_EpochSafe_ctx N) T_spec_EpochSafe_ann N (T_spec_EpochSafe_sg N) Try.f30 (e1, ()) some =
    (T_spec_EpochSafe_lp0_m N N (T_spec_EpochSafe_lp0_sh (0 : Int) e1) (ctxK (R := ODen (T_spec_EpochSafe_sg N).ps × RDen (T_spec_EpochSafe_sg N).rs) tab (T_spec_EpochSafe_ctx N) T_spec_EpochSafe_ann N (theCode Try.f30) [1, 0, 1, 0] (retK tab (T_spec_EpochSafe_sg N) Try.f30.results.toList some))) := by kernel_rfl
  rw [h]
  (try simp only [T_spec_EpochSafe_lp0_eq, T_spec_EpochSafe_c3, T_spec_EpochSafe_c4]) <;> rfl

theorem T_spec_EpochSafe_ok (N : Nat) : chkBody Try.f30 (T_spec_EpochSafe_sg N).ps = true := by kernel_rfl

theorem T_spec_EpochSafe_callable : Callable Try.prog 30 := callable_of Try.func30 (show chkFn Try.f30 = true by kernel_rfl)

theorem T_spec_EpochSafe_good (N : Nat) : Good Try.prog 30 (T_spec_EpochSafe_sg N) :=
  good_body mixedOk tabOk ctx_nil Try.func30 (T_spec_EpochSafe_ok N) (fun d _ h => ⟨N, (T_spec_EpochSafe_den N d.1).trans h⟩)

noncomputable def T_slices_Index___int_int__sg (N : Nat) : Sig := Sig.of [.v (.slice (.int .i64)) false, .v (.int .i64) false] [.v (.int .i64) false] (fun d => T_slices_Index___int_int_ N d.1 d.2.1)

def T_slices_Index___int_int__ann : Nat → List Ghost
  | 2 => [.canon [0, 1, 7, 8, 9]]
  | 3 => [.canon [0, 1, 5, 7, 8]]
  | 4 => [.canon [0, 1, 5, 7, 8, 16]]
  | 5 => [.canon [4]]
  | 6 => [.canon [0, 1, 7, 8]]
  | 100002 => [.canon [0, 1, 7, 8]]
  | _ => []

noncomputable def T_slices_Index___int_int__ctx (N : Nat) : Ctx := []

def T_slices_Index___int_int__lp0_sh (s3 : List Int) (v4 : Int) (t6 : Int) : St := { env := [(0, .s (.one (.val (.slice (.int .i64)) (s3 : List Int)))), (1, .s (.one (.val (.int .i64) (v4 : Int)))), (7, .s (.one (.val (.int .i64) (ilen s3 : Int)))), (8, .s (.one (.val (.int .i64) (t6 : Int))))], objs := [], nx := 0 }

def T_slices_Index___int_int__lp0_e0 (s3 : List Int) (v4 : Int) (t7 : Int) : St := { env := [(4, .s (.one (.val (.int .i64) (t7 : Int))))], objs := [], nx := 0 }

def T_slices_Index___int_int__lp0_e1 (s3 : List Int) (v4 : Int) (t8 : Int) (t9 : Bool) : St := { env := [(0, .s (.one (.val (.slice (.int .i64)) (s3 : List Int)))), (1, .s (.one (.val (.int .i64) (v4 : Int)))), (7, .s (.one (.val (.int .i64) (ilen s3 : Int)))), (8, .s (.one (.val (.int .i64) (t8 : Int)))), (9, .s (.one (.val (.bool) (t9 : Bool))))], objs := [], nx := 0 }

noncomputable def T_slices_Index___int_int__lp0_m (N : Nat) {R : Type} (n : Nat) (st : St) (K : Ex → St → Option R) : Option R := loopN (roundG (T_slices_Index___int_int__ann 100002) fun st k => sx tab (T_slices_Index___int_int__ctx N) T_slices_Index___int_int__ann N (nthLoop Try.f93 0) st k) n st K

theorem T_slices_Index___int_int__lp0_step (N : Nat) {R : Type} (n : Nat) (K : Ex → St → Option R) (s3 : List Int) (v4 : Int) (t6 : Int) :
    T_slices_Index___int_int__lp0_m N (n + 1) (T_slices_Index___int_int__lp0_sh s3 v4 t6) K =
    (bif decide (t6 < (ilen s3)) then
    (bif inb t6 (List.length s3) then
      (bif v4 == (List.getD s3 (Int.toNat t6) (0 : Int)) then
        (K .ret (T_slices_Index___int_int__lp0_e0 s3 v4 t6))
        else
        (T_slices_Index___int_int__lp0_m N n (T_slices_Index___int_int__lp0_sh s3 v4 (iadd .i64 t6 (1 : Int))) K)) else none)
    else
    (K (.exit 0) (T_slices_Index___int_int__lp0_e1 s3 v4 t6 (decide (t6 < (ilen s3)))))) := by kernel_rfl

theorem T_slices_Index___int_int__lp0_eq (N : Nat) {R : Type} (s3 : List Int) (v4 : Int) (K : Ex → St → Option R) : ∀ (n : Nat) (t6 : Int), T_slices_Index___int_int__lp0_m N n (T_slices_Index___int_int__lp0_sh s3 v4 t6) K = T_slices_Index___int_int__lp0 N s3 v4 (fun t7 => (K .ret (T_slices_Index___int_int__lp0_e0 s3 v4 t7))) (fun t8 t9 => (K (.exit 0) (T_slices_Index___int_int__lp0_e1 s3 v4 t8 t9))) n t6
  | 0, _ => rfl
  | n + 1, t6 => by rw [T_slices_Index___int_int__lp0_step, T_slices_Index___int_int__lp0]; (try simp only [T_slices_Index___int_int__lp0_eq N s3 v4 K n])

theorem T_slices_Index___int_int__c1 (N : Nat) (s1 : List Int) (v2 : Int) (t10 : Int) :
    ((ctxK (R := ODen (T_slices_Index___int_int__sg N).ps × RDen (T_slices_Index___int_int__sg N).rs) tab (T_slices_Index___int_int__ctx N) T_slices_Index___int_int__ann N (theCode Try.f93) [1, 0, 1, 0] (retK tab (T_slices_Index___int_int__sg N) Try.f93.results.toList some)) .ret (T_slices_Index___int_int__lp0_e0 s1 v2 t10)) =
    (some (α := ODen (T_slices_Index___int_int__sg N).ps × RDen (T_slices_Index___int_int__sg N).rs) ((), (t10, ()))) := by kernel_rfl

theorem T_slices_Index___int_int__c2 (N : Nat) (s1 : List Int) (v2 : Int) (t11 : Int) (t12 : Bool) :
    ((ctxK (R := ODen (T_slices_Index___int_int__sg N).ps × RDen (T_slices_Index___int_int__sg N).rs) tab (T_slices_Index___int_int__ctx N) T_slices_Index___int_int__ann N (theCode Try.f93) [1, 0, 1, 0] (retK tab (T_slices_Index___int_int__sg N) Try.f93.results.toList some)) (.exit 0) (T_slices_Index___int_int__lp0_e1 s1 v2 t11 t12)) =
    (some (α := ODen (T_slices_Index___int_int__sg N).ps × RDen (T_slices_Index___int_int__sg N).rs) ((), ((-1 : Int), ()))) := by kernel_rfl

theorem T_slices_Index___int_int__den (N : Nat) (s1 : List Int) (v2 : Int) :
    den (R := ODen (T_slices_Index___int_int__sg N).ps × RDen (T_slices_Index___int_int__sg N).rs) tab (T_slices_Index___int_int__ctx N) T_slices_Index___int_int__ann N (T_slices_Index___int_int__sg N) Try.f93 (s1, v2, ()) some =
    (T_slices_Index___int_int__lp0 N s1 v2
    (fun t10 =>
      (some (α := ODen (T_slices_Index___int_int__sg N).ps × RDen (T_slices_Index___int_int__sg N).rs) ((), (t10, ()))))
    (fun t11 t12 =>
      (some (α := ODen (T_slices_Index___int_int__sg N).ps × RDen (T_slices_Index___int_int__sg N).rs) ((), ((-1 : Int), ()))))
     N (0 : Int)) := by
  have h : den (R := ODen (T_slices_Index___int_int__sg N).ps × RDen (T_slices_Index___int_int__sg N).rs) tab (T_slices_Index___int_int__ctx N) T_slices_Index___int_int__ann N (T_slices_Index___int_int__sg N) Try.f93 (s1, v2, ()) some =
    (T_slices_Index___int_int__lp0_m N N (T_slices_Index___int_int__lp0_sh s1 v2 (0 : Int)) (ctxK (R := ODen (T_slices_Index___int_int__sg N).ps × RDen (T_slices_Index___int_int__sg N).rs) tab (T_slices_Index___int_int__ctx N) T_slices_Index___int_int__ann N (theCode Try.f93) [1, 0, 1, 0] (retK tab (T_slices_Index___int_int__sg N) Try.f93.results.toList some))) := by kernel_rfl
  rw [h]
  (try simp only [T_slices_Index___int_int__lp0_eq, T_slices_Index___int_int__c1, T_slices_Index___int_int__c2]) <;> rfl

theorem T_slices_Index___int_int__ok (N : Nat) : chkBody Try.f93 (T_slices_Index___int_int__sg N).ps = true := by kernel_rfl

theorem T_slices_Index___int_int__callable : Callable Try.prog 93 := callable_of Try.func93 (show chkFn Try.f93 = true by kernel_rfl)

theorem T_slices_Index___int_int__good (N : Nat) : Good Try.prog 93 (T_slices_Index___int_int__sg N) :=
  good_body mixedOk tabOk ctx_nil Try.func93 (T_slices_Index___int_int__ok N) (fun d _ h => ⟨N, (T_slices_Index___int_int__den N d.1 d.2.1).trans h⟩)

noncomputable def T_slices_Contains___int_int__sg (N : Nat) : Sig := Sig.of [.v (.slice (.int .i64)) false, .v (.int .i64) false] [.v (.bool) false] (fun d => T_slices_Contains___int_int_ N d.1 d.2.1)

def T_slices_Contains___int_int__ann : Nat → List Ghost
  | _ => []

noncomputable def T_slices_Contains___int_int__ctx (N : Nat) : Ctx := [(93, T_slices_Index___int_int__sg N)]

theorem T_slices_Contains___int_int__den (N : Nat) (s1 : List Int) (v2 : Int) :
    den (R := ODen (T_slices_Contains___int_int__sg N).ps × RDen (T_slices_Contains___int_int__sg N).rs) tab (T_slices_Contains___int_int__ctx N) T_slices_Contains___int_int__ann N (T_slices_Contains___int_int__sg N) Try.f71 (s1, v2, ()) some =
    ((T_slices_Index___int_int_ N s1 v2).bind fun o3 =>
    (some (α := ODen (T_slices_Contains___int_int__sg N).ps × RDen (T_slices_Contains___int_int__sg N).rs) ((), (decide (o3.2.1 ≥ (0 : Int)), ())))) := by kernel_rfl

theorem T_slices_Contains___int_int__ok (N : Nat) : chkBody Try.f71 (T_slices_Contains___int_int__sg N).ps = true := by kernel_rfl

theorem T_slices_Contains___int_int__callable : Callable Try.prog 71 := callable_of Try.func71 (show chkFn Try.f71 = true by kernel_rfl)

theorem T_slices_Contains___int_int__good (N : Nat) : Good Try.prog 71 (T_slices_Contains___int_int__sg N) :=
  good_body mixedOk tabOk (ctx_cons (T_slices_Index___int_int__good N) T_slices_Index___int_int__callable ctx_nil) Try.func71 (T_slices_Contains___int_int__ok N) (fun d _ h => ⟨N, (T_slices_Contains___int_int__den N d.1 d.2.1).trans h⟩)

noncomputable def T_impl_EpochSafe_1_sg (N : Nat) : Sig := Sig.of [.v (.prod (.int .i64) (.int .i64)) true, .box (.prod (.int .i64) (.prod (.slice (.int .i64)) (.prod (.slice (.bool)) (.prod (.slice (.prod (.int .i64) (.int .i64))) (.prod (.slice (.prod (.int .i64) (.int .i64))) (.slice (.int .i64)))))))] [.v (.bool) false] (fun d => T_impl_EpochSafe_1 N d.1 d.2.1)

def T_impl_EpochSafe_1_ann : Nat → List Ghost
  | _ => []

noncomputable def T_impl_EpochSafe_1_ctx (N : Nat) : Ctx := [(71, T_slices_Contains___int_int__sg N)]

theorem T_impl_EpochSafe_1_den (N : Nat) (h1 : Int × Int) (a2 : Int × List Int × List Bool × List (Int × Int) × List (Int × Int) × List Int) :
    den (R := ODen (T_impl_EpochSafe_1_sg N).ps × RDen (T_impl_EpochSafe_1_sg N).rs) tab (T_impl_EpochSafe_1_ctx N) T_impl_EpochSafe_1_ann N (T_impl_EpochSafe_1_sg N) Try.f70 (h1, a2, ()) some =
    ((T_slices_Contains___int_int_ N a2.2.2.2.2.2 h1.2).bind fun o3 =>
    (some (α := ODen (T_impl_EpochSafe_1_sg N).ps × RDen (T_impl_EpochSafe_1_sg N).rs) ((a2, ()), (o3.2.1, ())))) := by kernel_rfl

theorem T_impl_EpochSafe_1_ok (N : Nat) : chkBody Try.f70 (T_impl_EpochSafe_1_sg N).ps = true := by kernel_rfl

theorem T_impl_EpochSafe_1_callable : Callable Try.prog 70 := callable_of Try.func70 (show chkFn Try.f70 = true by kernel_rfl)

theorem T_impl_EpochSafe_1_good (N : Nat) : Good Try.prog 70 (T_impl_EpochSafe_1_sg N) :=
  good_body mixedOk tabOk (ctx_cons (T_slices_Contains___int_int__good N) T_slices_Contains___int_int__callable ctx_nil) Try.func70 (T_impl_EpochSafe_1_ok N) (fun d _ h => ⟨N, (T_impl_EpochSafe_1_den N d.1 d.2.1).trans h⟩)

noncomputable def T_slices_IndexFunc___impl_EpHold_impl_EpHold___impl_EpochSafe_1_sg (N : Nat) : Sig := Sig.of [.v (.slice (.prod (.int .i64) (.int .i64))) false, .clos 70 1, .box (.prod (.int .i64) (.prod (.slice (.int .i64)) (.prod (.slice (.bool)) (.prod (.slice (.prod (.int .i64) (.int .i64))) (.prod (.slice (.prod (.int .i64) (.int .i64))) (.slice (.int .i64)))))))] [.v (.int .i64) false] (fun d => T_slices_IndexFunc___impl_EpHold_impl_EpHold___impl_EpochSafe_1 N d.1 d.2.1)

def T_slices_IndexFunc___impl_EpHold_impl_EpHold___impl_EpochSafe_1_ann : Nat → List Ghost
  | 2 => [.canon [0, 1, 7, 8, 9]]
  | 3 => [.canon [0, 1, 5, 7, 8]]
  | 4 => [.canon [0, 1, 5, 7, 8, 16]]
  | 5 => [.canon [1, 4]]
  | 6 => [.canon [0, 1, 7, 8]]
  | 100002 => [.canon [0, 1, 7, 8]]
  | _ => []

noncomputable def T_slices_IndexFunc___impl_EpHold_impl_EpHold___impl_EpochSafe_1_ctx (N : Nat) : Ctx := [(70, T_impl_EpochSafe_1_sg N)]

def T_slices_IndexFunc___impl_EpHold_impl_EpHold___impl_EpochSafe_1_lp0_sh (s3 : List (Int × Int)) (t5 : Int) (b6 : Int × List Int × List Bool × List (Int × Int) × List (Int × Int) × List Int) : St := { env := [(0, .s (.one (.val (.slice (.prod (.int .i64) (.int .i64))) (s3 : List (Int × Int))))), (1, .s (.one (.clos 70 [0]))), (7, .s (.one (.val (.int .i64) (ilen s3 : Int)))), (8, .s (.one (.val (.int .i64) (t5 : Int))))], objs := [(0, .box [.val (.int .i64) (b6.1 : Int), .val (.slice (.int .i64)) (b6.2.1 : List Int), .val (.slice (.bool)) (b6.2.2.1 : List Bool), .val (.slice (.prod (.int .i64) (.int .i64))) (b6.2.2.2.1 : List (Int × Int)), .val (.slice (.prod (.int .i64) (.int .i64))) (b6.2.2.2.2.1 : List (Int × Int)), .val (.slice (.int .i64)) (b6.2.2.2.2.2 : List Int)])], nx := 1 }

def T_slices_IndexFunc___impl_EpHold_impl_EpHold___impl_EpochSafe_1_lp0_e0 (s3 : List (Int × Int)) (t9 : Int) (b10 : Int × List Int × List Bool × List (Int × Int) × List (Int × Int) × List Int) : St := { env := [(1, .s (.one (.clos 70 [0]))), (4, .s (.one (.val (.int .i64) (t9 : Int))))], objs := [(0, .box [.val (.int .i64) (b10.1 : Int), .val (.slice (.int .i64)) (b10.2.1 : List Int), .val (.slice (.bool)) (b10.2.2.1 : List Bool), .val (.slice (.prod (.int .i64) (.int .i64))) (b10.2.2.2.1 : List (Int × Int)), .val (.slice (.prod (.int .i64) (.int .i64))) (b10.2.2.2.2.1 : List (Int × Int)), .val (.slice (.int .i64)) (b10.2.2.2.2.2 : List Int)])], nx := 1 }

def T_slices_IndexFunc___impl_EpHold_impl_EpHold___impl_EpochSafe_1_lp0_e1 (s3 : List (Int × Int)) (t11 : Int) (t12 : Bool) (b13 : Int × List Int × List Bool × List (Int × Int) × List (Int × Int) × List Int) : St := { env := [(0, .s (.one (.val (.slice (.prod (.int .i64) (.int .i64))) (s3 : List (Int × Int))))), (1, .s (.one (.clos 70 [0]))), (7, .s (.one (.val (.int .i64) (ilen s3 : Int)))), (8, .s (.one (.val (.int .i64) (t11 : Int)))), (9, .s (.one (.val (.bool) (t12 : Bool))))], objs := [(0, .box [.val (.int .i64) (b13.1 : Int), .val (.slice (.int .i64)) (b13.2.1 : List Int), .val (.slice (.bool)) (b13.2.2.1 : List Bool), .val (.slice (.prod (.int .i64) (.int .i64))) (b13.2.2.2.1 : List (Int × Int)), .val (.slice (.prod (.int .i64) (.int .i64))) (b13.2.2.2.2.1 : List (Int × Int)), .val (.slice (.int .i64)) (b13.2.2.2.2.2 : List Int)])], nx := 1 }

noncomputable def T_slices_IndexFunc___impl_EpHold_impl_EpHold___impl_EpochSafe_1_lp0_m (N : Nat) {R : Type} (n : Nat) (st : St) (K : Ex → St → Option R) : Option R := loopN (roundG (T_slices_IndexFunc___impl_EpHold_impl_EpHold___impl_EpochSafe_1_ann 100002) fun st k => sx tab (T_slices_IndexFunc___impl_EpHold_impl_EpHold___impl_EpochSafe_1_ctx N) T_slices_IndexFunc___impl_EpHold_impl_EpHold___impl_EpochSafe_1_ann N (nthLoop Try.f92 0) st k) n st K

theorem T_slices_IndexFunc___impl_EpHold_impl_EpHold___impl_EpochSafe_1_lp0_step (N : Nat) {R : Type} (n : Nat) (K : Ex → St → Option R) (s3 : List (Int × Int)) (t5 : Int) (b6 : Int × List Int × List Bool × List (Int × Int) × List (Int × Int) × List Int) :
    T_slices_IndexFunc___impl_EpHold_impl_EpHold___impl_EpochSafe_1_lp0_m N (n + 1) (T_slices_IndexFunc___impl_EpHold_impl_EpHold___impl_EpochSafe_1_lp0_sh s3 t5 b6) K =
    (bif decide (t5 < (ilen s3)) then
    (bif inb t5 (List.length s3) then
      ((T_impl_EpochSafe_1 N (List.getD s3 (Int.toNat t5) ((0 : Int), (0 : Int))) b6).bind fun o14 =>
        (bif o14.2.1 then
          (K .ret (T_slices_IndexFunc___impl_EpHold_impl_EpHold___impl_EpochSafe_1_lp0_e0 s3 t5 o14.1.1))
          else
          (T_slices_IndexFunc___impl_EpHold_impl_EpHold___impl_EpochSafe_1_lp0_m N n (T_slices_IndexFunc___impl_EpHold_impl_EpHold___impl_EpochSafe_1_lp0_sh s3 (iadd .i64 t5 (1 : Int)) o14.1.1) K))) else none)
    else
    (K (.exit 0) (T_slices_IndexFunc___impl_EpHold_impl_EpHold___impl_EpochSafe_1_lp0_e1 s3 t5 (decide (t5 < (ilen s3))) b6))) := by kernel_rfl

theorem T_slices_IndexFunc___impl_EpHold_impl_EpHold___impl_EpochSafe_1_lp0_eq (N : Nat) {R : Type} (s3 : List (Int × Int)) (K : Ex → St → Option R) : ∀ (n : Nat) (t5 : Int) (b6 : Int × List Int × List Bool × List (Int × Int) × List (Int × Int) × List Int), T_slices_IndexFunc___impl_EpHold_impl_EpHold___impl_EpochSafe_1_lp0_m N n (T_slices_IndexFunc___impl_EpHold_impl_EpHold___impl_EpochSafe_1_lp0_sh s3 t5 b6) K = T_slices_IndexFunc___impl_EpHold_impl_EpHold___impl_EpochSafe_1_lp0 N s3 (fun t9 b10 => (K .ret (T_slices_IndexFunc___impl_EpHold_impl_EpHold___impl_EpochSafe_1_lp0_e0 s3 t9 b10))) (fun t11 t12 b13 => (K (.exit 0) (T_slices_IndexFunc___impl_EpHold_impl_EpHold___impl_EpochSafe_1_lp0_e1 s3 t11 t12 b13))) n t5 b6
  | 0, _, _ => rfl
  | n + 1, t5, b6 => by rw [T_slices_IndexFunc___impl_EpHold_impl_EpHold___impl_EpochSafe_1_lp0_step, T_slices_IndexFunc___impl_EpHold_impl_EpHold___impl_EpochSafe_1_lp0]; (try simp only [T_slices_IndexFunc___impl_EpHold_impl_EpHold___impl_EpochSafe_1_lp0_eq N s3 K n])

theorem T_slices_IndexFunc___impl_EpHold_impl_EpHold___impl_EpochSafe_1_c1 (N : Nat) (s1 : List (Int × Int)) (t15 : Int) (b16 : Int × List Int × List Bool × List (Int × Int) × List (Int × Int) × List Int) :
    ((ctxK (R := ODen (T_slices_IndexFunc___impl_EpHold_impl_EpHold___impl_EpochSafe_1_sg N).ps × RDen (T_slices_IndexFunc___impl_EpHold_impl_EpHold___impl_EpochSafe_1_sg N).rs) tab (T_slices_IndexFunc___impl_EpHold_impl_EpHold___impl_EpochSafe_1_ctx N) T_slices_IndexFunc___impl_EpHold_impl_EpHold___impl_EpochSafe_1_ann N (theCode Try.f92) [1, 0, 1, 0] (retK tab (T_slices_IndexFunc___impl_EpHold_impl_EpHold___impl_EpochSafe_1_sg N) Try.f92.results.toList some)) .ret (T_slices_IndexFunc___impl_EpHold_impl_EpHold___impl_EpochSafe_1_lp0_e0 s1 t15 b16)) =
    (some (α := ODen (T_slices_IndexFunc___impl_EpHold_impl_EpHold___impl_EpochSafe_1_sg N).ps × RDen (T_slices_IndexFunc___impl_EpHold_impl_EpHold___impl_EpochSafe_1_sg N).rs) ((b16, ()), (t15, ()))) := by kernel_rfl

theorem T_slices_IndexFunc___impl_EpHold_impl_EpHold___impl_EpochSafe_1_c2 (N : Nat) (s1 : List (Int × Int)) (t17 : Int) (t18 : Bool) (b19 : Int × List Int × List Bool × List (Int × Int) × List (Int × Int) × List Int) :
    ((ctxK (R := ODen (T_slices_IndexFunc___impl_EpHold_impl_EpHold___impl_EpochSafe_1_sg N).ps × RDen (T_slices_IndexFunc___impl_EpHold_impl_EpHold___impl_EpochSafe_1_sg N).rs) tab (T_slices_IndexFunc___impl_EpHold_impl_EpHold___impl_EpochSafe_1_ctx N) T_slices_IndexFunc___impl_EpHold_impl_EpHold___impl_EpochSafe_1_ann N (theCode Try.f92) [1, 0, 1, 0] (retK tab (T_slices_IndexFunc___impl_EpHold_impl_EpHold___impl_EpochSafe_1_sg N) Try.f92.results.toList some)) (.exit 0) (T_slices_IndexFunc___impl_EpHold_impl_EpHold___impl_EpochSafe_1_lp0_e1 s1 t17 t18 b19)) =
    (some (α := ODen (T_slices_IndexFunc___impl_EpHold_impl_EpHold___impl_EpochSafe_1_sg N).ps × RDen (T_slices_IndexFunc___impl_EpHold_impl_EpHold___impl_EpochSafe_1_sg N).rs) ((b19, ()), ((-1 : Int), ()))) := by kernel_rfl

theorem T_slices_IndexFunc___impl_EpHold_impl_EpHold___impl_EpochSafe_1_den (N : Nat) (s1 : List (Int × Int)) (cap2 : Int × List Int × List Bool × List (Int × Int) × List (Int × Int) × List Int) :
    den (R := ODen (T_slices_IndexFunc___impl_EpHold_impl_EpHold___impl_EpochSafe_1_sg N).ps × RDen (T_slices_IndexFunc___impl_EpHold_impl_EpHold___impl_EpochSafe_1_sg N).rs) tab (T_slices_IndexFunc___impl_EpHold_impl_EpHold___impl_EpochSafe_1_ctx N) T_slices_IndexFunc___impl_EpHold_impl_EpHold___impl_EpochSafe_1_ann N (T_slices_IndexFunc___impl_EpHold_impl_EpHold___impl_EpochSafe_1_sg N) Try.f92 (s1, cap2, ()) some =
    (T_slices_IndexFunc___impl_EpHold_impl_EpHold___impl_EpochSafe_1_lp0 N s1
    (fun t15 b16 =>
      (some (α := ODen (T_slices_IndexFunc___impl_EpHold_impl_EpHold___impl_EpochSafe_1_sg N).ps × RDen (T_slices_IndexFunc___impl_EpHold_impl_EpHold___impl_EpochSafe_1_sg N).rs) ((b16, ()), (t15, ()))))
    (fun t17 t18 b19 =>
      (some (α := ODen (T_slices_IndexFunc___impl_EpHold_impl_EpHold___impl_EpochSafe_1_sg N).ps × RDen (T_slices_IndexFunc___impl_EpHold_impl_EpHold___impl_EpochSafe_1_sg N).rs) ((b19, ()), ((-1 : Int), ()))))
     N (0 : Int) cap2) := by
  have h : den (R := ODen (T_slices_IndexFunc___impl_EpHold_impl_EpHold___impl_EpochSafe_1_sg N).ps × RDen (T_slices_IndexFunc___impl_EpHold_impl_EpHold___impl_EpochSafe_1_sg N).rs) tab (T_slices_IndexFunc___impl_EpHold_impl_EpHold___impl_EpochSafe_1_ctx N) T_slices_IndexFunc___impl_EpHold_impl_EpHold___impl_EpochSafe_1_ann N (T_slices_IndexFunc___impl_EpHold_impl_EpHold___impl_EpochSafe_1_sg N) Try.f92 (s1, cap2, ()) some =
    (T_slices_IndexFunc___impl_EpHold_impl_EpHold___impl_EpochSafe_1_lp0_m N N (T_slices_IndexFunc___impl_EpHold_impl_EpHold___impl_EpochSafe_1_lp0_sh s1 (0 : Int) cap2) (ctxK (R := ODen (T_slices_IndexFunc___impl_EpHold_impl_EpHold___impl_EpochSafe_1_sg N).ps × RDen (T_slices_IndexFunc___impl_EpHold_impl_EpHold___impl_EpochSafe_1_sg N).rs) tab (T_slices_IndexFunc___impl_EpHold_impl_EpHold___impl_EpochSafe_1_ctx N) T_slices_IndexFunc___impl_EpHold_impl_EpHold___impl_EpochSafe_1_ann N (theCode Try.f92) [1, 0, 1, 0] (retK tab (T_slices_IndexFunc___impl_EpHold_impl_EpHold___impl_EpochSafe_1_sg N) Try.f92.results.toList some))) := by kernel_rfl
  rw [h]
  (try simp only [T_slices_IndexFunc___impl_EpHold_impl_EpHold___impl_EpochSafe_1_lp0_eq, T_slices_IndexFunc___impl_EpHold_impl_EpHold___impl_EpochSafe_1_c1, T_slices_IndexFunc___impl_EpHold_impl_EpHold___impl_EpochSafe_1_c2]) <;> rfl

theorem T_slices_IndexFunc___impl_EpHold_impl_EpHold___impl_EpochSafe_1_ok (N : Nat) : chkBody Try.f92 (T_slices_IndexFunc___impl_EpHold_impl_EpHold___impl_EpochSafe_1_sg N).ps = true := by kernel_rfl

theorem T_slices_IndexFunc___impl_EpHold_impl_EpHold___impl_EpochSafe_1_callable : Callable Try.prog 92 := callable_of Try.func92 (show chkFn Try.f92 = true by kernel_rfl)

theorem T_slices_IndexFunc___impl_EpHold_impl_EpHold___impl_EpochSafe_1_good (N : Nat) : Good Try.prog 92 (T_slices_IndexFunc___impl_EpHold_impl_EpHold___impl_EpochSafe_1_sg N) :=
  good_body mixedOk tabOk (ctx_cons (T_impl_EpochSafe_1_good N) T_impl_EpochSafe_1_callable ctx_nil) Try.func92 (T_slices_IndexFunc___impl_EpHold_impl_EpHold___impl_EpochSafe_1_ok N) (fun d _ h => ⟨N, (T_slices_IndexFunc___impl_EpHold_impl_EpHold___impl_EpochSafe_1_den N d.1 d.2.1).trans h⟩)

noncomputable def T_slices_ContainsFunc___impl_EpHold_impl_EpHold___impl_EpochSafe_1_sg (N : Nat) : Sig := Sig.of [.v (.slice (.prod (.int .i64) (.int .i64))) false, .clos 70 1, .box (.prod (.int .i64) (.prod (.slice (.int .i64)) (.prod (.slice (.bool)) (.prod (.slice (.prod (.int .i64) (.int .i64))) (.prod (.slice (.prod (.int .i64) (.int .i64))) (.slice (.int .i64)))))))] [.v (.bool) false] (fun d => T_slices_ContainsFunc___impl_EpHold_impl_EpHold___impl_EpochSafe_1 N d.1 d.2.1)

def T_slices_ContainsFunc___impl_EpHold_impl_EpHold___impl_EpochSafe_1_ann : Nat → List Ghost
  | _ => []

noncomputable def T_slices_ContainsFunc___impl_EpHold_impl_EpHold___impl_EpochSafe_1_ctx (N : Nat) : Ctx := [(92, T_slices_IndexFunc___impl_EpHold_impl_EpHold___impl_EpochSafe_1_sg N)]

theorem T_slices_ContainsFunc___impl_EpHold_impl_EpHold___impl_EpochSafe_1_den (N : Nat) (s1 : List (Int × Int)) (cap2 : Int × List Int × List Bool × List (Int × Int) × List (Int × Int) × List Int) :
    den (R := ODen (T_slices_ContainsFunc___impl_EpHold_impl_EpHold___impl_EpochSafe_1_sg N).ps × RDen (T_slices_ContainsFunc___impl_EpHold_impl_EpHold___impl_EpochSafe_1_sg N).rs) tab (T_slices_ContainsFunc___impl_EpHold_impl_EpHold___impl_EpochSafe_1_ctx N) T_slices_ContainsFunc___impl_EpHold_impl_EpHold___impl_EpochSafe_1_ann N (T_slices_ContainsFunc___impl_EpHold_impl_EpHold___impl_EpochSafe_1_sg N) Try.f69 (s1, cap2, ()) some =
    ((T_slices_IndexFunc___impl_EpHold_impl_EpHold___impl_EpochSafe_1 N s1 cap2).bind fun o3 =>
    (some (α := ODen (T_slices_ContainsFunc___impl_EpHold_impl_EpHold___impl_EpochSafe_1_sg N).ps × RDen (T_slices_ContainsFunc___impl_EpHold_impl_EpHold___impl_EpochSafe_1_sg N).rs) ((o3.1.1, ()), (decide (o3.2.1 ≥ (0 : Int)), ())))) := by kernel_rfl

theorem T_slices_ContainsFunc___impl_EpHold_impl_EpHold___impl_EpochSafe_1_ok (N : Nat) : chkBody Try.f69 (T_slices_ContainsFunc___impl_EpHold_impl_EpHold___impl_EpochSafe_1_sg N).ps = true := by kernel_rfl

theorem T_slices_ContainsFunc___impl_EpHold_impl_EpHold___impl_EpochSafe_1_callable : Callable Try.prog 69 := callable_of Try.func69 (show chkFn Try.f69 = true by kernel_rfl)

theorem T_slices_ContainsFunc___impl_EpHold_impl_EpHold___impl_EpochSafe_1_good (N : Nat) : Good Try.prog 69 (T_slices_ContainsFunc___impl_EpHold_impl_EpHold___impl_EpochSafe_1_sg N) :=
  good_body mixedOk tabOk (ctx_cons (T_slices_IndexFunc___impl_EpHold_impl_EpHold___impl_EpochSafe_1_good N) T_slices_IndexFunc___impl_EpHold_impl_EpHold___impl_EpochSafe_1_callable ctx_nil) Try.func69 (T_slices_ContainsFunc___impl_EpHold_impl_EpHold___impl_EpochSafe_1_ok N) (fun d _ h => ⟨N, (T_slices_ContainsFunc___impl_EpHold_impl_EpHold___impl_EpochSafe_1_den N d.1 d.2.1).trans h⟩)

noncomputable def T_impl_EpochSafe_sg (N : Nat) : Sig := Sig.of [.v (.prod (.int .i64) (.prod (.slice (.int .i64)) (.prod (.slice (.bool)) (.prod (.slice (.prod (.int .i64) (.int .i64))) (.prod (.slice (.prod (.int .i64) (.int .i64))) (.slice (.int .i64))))))) true] [.v (.bool) false] (fun d => T_impl_EpochSafe N d.1)

def T_impl_EpochSafe_ann : Nat → List Ghost
  | _ => []

noncomputable def T_impl_EpochSafe_ctx (N : Nat) : Ctx := [(69, T_slices_ContainsFunc___impl_EpHold_impl_EpHold___impl_EpochSafe_1_sg N)]

theorem T_impl_EpochSafe_den (N : Nat) (e1 : Int × List Int × List Bool × List (Int × Int) × List (Int × Int) × List Int) :
    den (R := ODen (T_impl_EpochSafe_sg N).ps × RDen (T_impl_EpochSafe_sg N).rs) tab (T_impl_EpochSafe_ctx N) T_impl_EpochSafe_ann N (T_impl_EpochSafe_sg N) Try.f32 (e1, ()) some =
    ((T_slices_ContainsFunc___impl_EpHold_impl_EpHold___impl_EpochSafe_1 N e1.2.2.2.2.1 e1).bind fun o2 =>
    (some (α := ODen (T_impl_EpochSafe_sg N).ps × RDen (T_impl_EpochSafe_sg N).rs) ((), (!o2.2.1, ())))) := by kernel_rfl

theorem T_impl_EpochSafe_ok (N : Nat) : chkBody Try.f32 (T_impl_EpochSafe_sg N).ps = true := by kernel_rfl

theorem T_impl_EpochSafe_callable : Callable Try.prog 32 := callable_of Try.func32 (show chkFn Try.f32 = true by kernel_rfl)

theorem T_impl_EpochSafe_good (N : Nat) : Good Try.prog 32 (T_impl_EpochSafe_sg N) :=
  good_body mixedOk tabOk (ctx_cons (T_slices_ContainsFunc___impl_EpHold_impl_EpHold___impl_EpochSafe_1_good N) T_slices_ContainsFunc___impl_EpHold_impl_EpHold___impl_EpochSafe_1_callable ctx_nil) Try.func32 (T_impl_EpochSafe_ok N) (fun d _ h => ⟨N, (T_impl_EpochSafe_den N d.1).trans h⟩)

noncomputable def T_laws_eqIntS_sg (N : Nat) : Sig := Sig.of [.v (.slice (.int .i64)) false, .v (.slice (.int .i64)) false] [.v (.bool) false] (fun d => T_laws_eqIntS N d.1 d.2.1)

def T_laws_eqIntS_ann : Nat → List Ghost
  | 4 => [.canon [0, 1, 5, 14]]
  | 5 => [.canon [0, 1, 5]]
  | 6 => [.canon [0, 1, 5, 25]]
  | 7 => [.canon [4]]
  | 100004 => [.canon [0, 1, 5]]
  | _ => []

noncomputable def T_laws_eqIntS_ctx (N : Nat) : Ctx := []

def T_laws_eqIntS_lp0_sh (a3 : List Int) (b4 : List Int) (i5 : Int) : St := { env := [(0, .s (.one (.val (.slice (.int .i64)) (a3 : List Int)))), (1, .s (.one (.val (.slice (.int .i64)) (b4 : List Int)))), (5, .s (.one (.val (.int .i64) (i5 : Int))))], objs := [], nx := 0 }

def T_laws_eqIntS_lp0_e0 (a3 : List Int) (b4 : List Int) : St := { env := [(4, .s (.one (.val (.bool) (false : Bool))))], objs := [], nx := 0 }

def T_laws_eqIntS_lp0_e1 (a3 : List Int) (b4 : List Int) (i6 : Int) (t7 : Bool) : St := { env := [(0, .s (.one (.val (.slice (.int .i64)) (a3 : List Int)))), (1, .s (.one (.val (.slice (.int .i64)) (b4 : List Int)))), (5, .s (.one (.val (.int .i64) (i6 : Int)))), (14, .s (.one (.val (.bool) (t7 : Bool))))], objs := [], nx := 0 }

noncomputable def T_laws_eqIntS_lp0_m (N : Nat) {R : Type} (n : Nat) (st : St) (K : Ex → St → Option R) : Option R := loopN (roundG (T_laws_eqIntS_ann 100004) fun st k => sx tab (T_laws_eqIntS_ctx N) T_laws_eqIntS_ann N (nthLoop Try.f14 0) st k) n st K

theorem T_laws_eqIntS_lp0_step (N : Nat) {R : Type} (n : Nat) (K : Ex → St → Option R) (a3 : List Int) (b4 : List Int) (i5 : Int) :
    T_laws_eqIntS_lp0_m N (n + 1) (T_laws_eqIntS_lp0_sh a3 b4 i5) K =
    (bif decide (i5 < (ilen a3)) then
    (bif inb i5 (List.length a3) then
      (bif inb i5 (List.length b4) then
        (bif (List.getD a3 (Int.toNat i5) (0 : Int)) != (List.getD b4 (Int.toNat i5) (0 : Int)) then
          (K .ret (T_laws_eqIntS_lp0_e0 a3 b4))
          else
          (T_laws_eqIntS_lp0_m N n (T_laws_eqIntS_lp0_sh a3 b4 (iadd .i64 i5 (1 : Int))) K)) else none) else none)
    else
    (K (.exit 0) (T_laws_eqIntS_lp0_e1 a3 b4 i5 (decide (i5 < (ilen a3)))))) := by kernel_rfl

theorem T_laws_eqIntS_lp0_eq (N : Nat) {R : Type} (a3 : List Int) (b4 : List Int) (K : Ex → St → Option R) : ∀ (n : Nat) (i5 : Int), T_laws_eqIntS_lp0_m N n (T_laws_eqIntS_lp0_sh a3 b4 i5) K = T_laws_eqIntS_lp0 N a3 b4 (K .ret (T_laws_eqIntS_lp0_e0 a3 b4)) (fun i6 t7 => (K (.exit 0) (T_laws_eqIntS_lp0_e1 a3 b4 i6 t7))) n i5
  | 0, _ => rfl
  | n + 1, i5 => by rw [T_laws_eqIntS_lp0_step, T_laws_eqIntS_lp0]; (try simp only [T_laws_eqIntS_lp0_eq N a3 b4 K n])

theorem T_laws_eqIntS_c1 (N : Nat) (a1 : List Int) (b2 : List Int) :
    ((ctxK (R := ODen (T_laws_eqIntS_sg N).ps × RDen (T_laws_eqIntS_sg N).rs) tab (T_laws_eqIntS_ctx N) T_laws_eqIntS_ann N (theCode Try.f14) [1, 1, 0, 1, 0] (retK tab (T_laws_eqIntS_sg N) Try.f14.results.toList some)) .ret (T_laws_eqIntS_lp0_e0 a1 b2)) =
    (some (α := ODen (T_laws_eqIntS_sg N).ps × RDen (T_laws_eqIntS_sg N).rs) ((), (false, ()))) := by kernel_rfl

theorem T_laws_eqIntS_c2 (N : Nat) (a1 : List Int) (b2 : List Int) (i8 : Int) (t9 : Bool) :
    ((ctxK (R := ODen (T_laws_eqIntS_sg N).ps × RDen (T_laws_eqIntS_sg N).rs) tab (T_laws_eqIntS_ctx N) T_laws_eqIntS_ann N (theCode Try.f14) [1, 1, 0, 1, 0] (retK tab (T_laws_eqIntS_sg N) Try.f14.results.toList some)) (.exit 0) (T_laws_eqIntS_lp0_e1 a1 b2 i8 t9)) =
    (some (α := ODen (T_laws_eqIntS_sg N).ps × RDen (T_laws_eqIntS_sg N).rs) ((), (true, ()))) := by kernel_rfl

theorem T_laws_eqIntS_den (N : Nat) (a1 : List Int) (b2 : List Int) :
    den (R := ODen (T_laws_eqIntS_sg N).ps × RDen (T_laws_eqIntS_sg N).rs) tab (T_laws_eqIntS_ctx N) T_laws_eqIntS_ann N (T_laws_eqIntS_sg N) Try.f14 (a1, b2, ()) some =
    (bif (ilen a1) != (ilen b2) then
    (some (α := ODen (T_laws_eqIntS_sg N).ps × RDen (T_laws_eqIntS_sg N).rs) ((), (false, ())))
    else
    (T_laws_eqIntS_lp0 N a1 b2
      (some (α := ODen (T_laws_eqIntS_sg N).ps × RDen (T_laws_eqIntS_sg N).rs) ((), (false, ())))
      (fun i8 t9 =>
        (some (α := ODen (T_laws_eqIntS_sg N).ps × RDen (T_laws_eqIntS_sg N).rs) ((), (true, ()))))
       N (0 : Int))) := by
  have h : den (R := ODen (T_laws_eqIntS_sg N).ps × RDen (T_laws_eqIntS_sg N).rs) tab (T_laws_eqIntS_ctx N) T_laws_eqIntS_ann N (T_laws_eqIntS_sg N) Try.f14 (a1, b2, ()) some =
    (bif (ilen a1) != (ilen b2) then
    (some (α := ODen (T_laws_eqIntS_sg N).ps × RDen (T_laws_eqIntS_sg N).rs) ((), (false, ())))
    else
    (T_laws_eqIntS_lp0_m N N (T_laws_eqIntS_lp0_sh a1 b2 (0 : Int)) (ctxK (R := ODen (T_laws_eqIntS_sg N).ps × RDen (T_laws_eqIntS_sg N).rs) tab (T_laws_eqIntS_ctx N) T_laws_eqIntS_ann N (theCode Try.f14) [1, 1, 0, 1, 0] (retK tab (T_laws_eqIntS_sg N) Try.f14.results.toList some)))) := by kernel_rfl
  rw [h]
  (try simp only [T_laws_eqIntS_lp0_eq, T_laws_eqIntS_c1, T_laws_eqIntS_c2]) <;> rfl

theorem T_laws_eqIntS_ok (N : Nat) : chkBody Try.f14 (T_laws_eqIntS_sg N).ps = true := by kernel_rfl

theorem T_laws_eqIntS_callable : Callable Try.prog 14 := callable_of Try.func14 (show chkFn Try.f14 = true by kernel_rfl)

theorem T_laws_eqIntS_good (N : Nat) : Good Try.prog 14 (T_laws_eqIntS_sg N) :=
  good_body mixedOk tabOk ctx_nil Try.func14 (T_laws_eqIntS_ok N) (fun d _ h => ⟨N, (T_laws_eqIntS_den N d.1 d.2.1).trans h⟩)

noncomputable def T_laws_eqBoolS_sg (N : Nat) : Sig := Sig.of [.v (.slice (.bool)) false, .v (.slice (.bool)) false] [.v (.bool) false] (fun d => T_laws_eqBoolS N d.1 d.2.1)

def T_laws_eqBoolS_ann : Nat → List Ghost
  | 4 => [.canon [0, 1, 5, 14]]
  | 5 => [.canon [0, 1, 5]]
  | 6 => [.canon [0, 1, 5, 25]]
  | 7 => [.canon [4]]
  | 100004 => [.canon [0, 1, 5]]
  | _ => []

noncomputable def T_laws_eqBoolS_ctx (N : Nat) : Ctx := []

def T_laws_eqBoolS_lp0_sh (a3 : List Bool) (b4 : List Bool) (i5 : Int) : St := { env := [(0, .s (.one (.val (.slice (.bool)) (a3 : List Bool)))), (1, .s (.one (.val (.slice (.bool)) (b4 : List Bool)))), (5, .s (.one (.val (.int .i64) (i5 : Int))))], objs := [], nx := 0 }

def T_laws_eqBoolS_lp0_e0 (a3 : List Bool) (b4 : List Bool) : St := { env := [(4, .s (.one (.val (.bool) (false : Bool))))], objs := [], nx := 0 }

def T_laws_eqBoolS_lp0_e1 (a3 : List Bool) (b4 : List Bool) (i6 : Int) (t7 : Bool) : St := { env := [(0, .s (.one (.val (.slice (.bool)) (a3 : List Bool)))), (1, .s (.one (.val (.slice (.bool)) (b4 : List Bool)))), (5, .s (.one (.val (.int .i64) (i6 : Int)))), (14, .s (.one (.val (.bool) (t7 : Bool))))], objs := [], nx := 0 }

noncomputable def T_laws_eqBoolS_lp0_m (N : Nat) {R : Type} (n : Nat) (st : St) (K : Ex → St → Option R) : Option R := loopN (roundG (T_laws_eqBoolS_ann 100004) fun st k => sx tab (T_laws_eqBoolS_ctx N) T_laws_eqBoolS_ann N (nthLoop Try.f72 0) st k) n st K

theorem T_laws_eqBoolS_lp0_step (N : Nat) {R : Type} (n : Nat) (K : Ex → St → Option R) (a3 : List Bool) (b4 : List Bool) (i5 : Int) :
    T_laws_eqBoolS_lp0_m N (n + 1) (T_laws_eqBoolS_lp0_sh a3 b4 i5) K =
    (bif decide (i5 < (ilen a3)) then
    (bif inb i5 (List.length a3) then
      (bif inb i5 (List.length b4) then
        (bif !(beq (List.getD a3 (Int.toNat i5) false) (List.getD b4 (Int.toNat i5) false)) then
          (K .ret (T_laws_eqBoolS_lp0_e0 a3 b4))
          else
          (T_laws_eqBoolS_lp0_m N n (T_laws_eqBoolS_lp0_sh a3 b4 (iadd .i64 i5 (1 : Int))) K)) else none) else none)
    else
    (K (.exit 0) (T_laws_eqBoolS_lp0_e1 a3 b4 i5 (decide (i5 < (ilen a3)))))) := by kernel_rfl

theorem T_laws_eqBoolS_lp0_eq (N : Nat) {R : Type} (a3 : List Bool) (b4 : List Bool) (K : Ex → St → Option R) : ∀ (n : Nat) (i5 : Int), T_laws_eqBoolS_lp0_m N n (T_laws_eqBoolS_lp0_sh a3 b4 i5) K = T_laws_eqBoolS_lp0 N a3 b4 (K .ret (T_laws_eqBoolS_lp0_e0 a3 b4)) (fun i6 t7 => (K (.exit 0) (T_laws_eqBoolS_lp0_e1 a3 b4 i6 t7))) n i5
  | 0, _ => rfl
  | n + 1, i5 => by rw [T_laws_eqBoolS_lp0_step, T_laws_eqBoolS_lp0]; (try simp only [T_laws_eqBoolS_lp0_eq N a3 b4 K n])

theorem T_laws_eqBoolS_c1 (N : Nat) (a1 : List Bool) (b2 : List Bool) :
    ((ctxK (R := ODen (T_laws_eqBoolS_sg N).ps × RDen (T_laws_eqBoolS_sg N).rs) tab (T_laws_eqBoolS_ctx N) T_laws_eqBoolS_ann N (theCode Try.f72) [1, 1, 0, 1, 0] (retK tab (T_laws_eqBoolS_sg N) Try.f72.results.toList some)) .ret (T_laws_eqBoolS_lp0_e0 a1 b2)) =
    (some (α := ODen (T_laws_eqBoolS_sg N).ps × RDen (T_laws_eqBoolS_sg N).rs) ((), (false, ()))) := by kernel_rfl

theorem T_laws_eqBoolS_c2 (N : Nat) (a1 : List Bool) (b2 : List Bool) (i8 : Int) (t9 : Bool) :
    ((ctxK (R := ODen (T_laws_eqBoolS_sg N).ps × RDen (T_laws_eqBoolS_sg N).rs) tab (T_laws_eqBoolS_ctx N) T_laws_eqBoolS_ann N (theCode Try.f72) [1, 1, 0, 1, 0] (retK tab (T_laws_eqBoolS_sg N) Try.f72.results.toList some)) (.exit 0) (T_laws_eqBoolS_lp0_e1 a1 b2 i8 t9)) =
    (some (α := ODen (T_laws_eqBoolS_sg N).ps × RDen (T_laws_eqBoolS_sg N).rs) ((), (true, ()))) := by kernel_rfl

theorem T_laws_eqBoolS_den (N : Nat) (a1 : List Bool) (b2 : List Bool) :
    den (R := ODen (T_laws_eqBoolS_sg N).ps × RDen (T_laws_eqBoolS_sg N).rs) tab (T_laws_eqBoolS_ctx N) T_laws_eqBoolS_ann N (T_laws_eqBoolS_sg N) Try.f72 (a1, b2, ()) some =
    (bif (ilen a1) != (ilen b2) then
    (some (α := ODen (T_laws_eqBoolS_sg N).ps × RDen (T_laws_eqBoolS_sg N).rs) ((), (false, ())))
    else
    (T_laws_eqBoolS_lp0 N a1 b2
      (some (α := ODen (T_laws_eqBoolS_sg N).ps × RDen (T_laws_eqBoolS_sg N).rs) ((), (false, ())))
      (fun i8 t9 =>
        (some (α := ODen (T_laws_eqBoolS_sg N).ps × RDen (T_laws_eqBoolS_sg N).rs) ((), (true, ()))))
       N (0 : Int))) := by
  have h : den (R := ODen (T_laws_eqBoolS_sg N).ps × RDen (T_laws_eqBoolS_sg N).rs) tab (T_laws_eqBoolS_ctx N) T_laws_eqBoolS_ann N (T_laws_eqBoolS_sg N) Try.f72 (a1, b2, ()) some =
    (bif (ilen a1) != (ilen b2) then
    (some (α := ODen (T_laws_eqBoolS_sg N).ps × RDen (T_laws_eqBoolS_sg N).rs) ((), (false, ())))
    else
    (T_laws_eqBoolS_lp0_m N N (T_laws_eqBoolS_lp0_sh a1 b2 (0 : Int)) (ctxK (R := ODen (T_laws_eqBoolS_sg N).ps × RDen (T_laws_eqBoolS_sg N).rs) tab (T_laws_eqBoolS_ctx N) T_laws_eqBoolS_ann N (theCode Try.f72) [1, 1, 0, 1, 0] (retK tab (T_laws_eqBoolS_sg N) Try.f72.results.toList some)))) := by kernel_rfl
  rw [h]
  (try simp only [T_laws_eqBoolS_lp0_eq, T_laws_eqBoolS_c1, T_laws_eqBoolS_c2]) <;> rfl

theorem T_laws_eqBoolS_ok (N : Nat) : chkBody Try.f72 (T_laws_eqBoolS_sg N).ps = true := by kernel_rfl

theorem T_laws_eqBoolS_callable : Callable Try.prog 72 := callable_of Try.func72 (show chkFn Try.f72 = true by kernel_rfl)

theorem T_laws_eqBoolS_good (N : Nat) : Good Try.prog 72 (T_laws_eqBoolS_sg N) :=
  good_body mixedOk tabOk ctx_nil Try.func72 (T_laws_eqBoolS_ok N) (fun d _ h => ⟨N, (T_laws_eqBoolS_den N d.1 d.2.1).trans h⟩)

noncomputable def T_laws_eqEpBag_sg (N : Nat) : Sig := Sig.of [.v (.prod (.int .i64) (.int .i64)) true, .v (.prod (.int .i64) (.int .i64)) true] [.v (.bool) false] (fun d => T_laws_eqEpBag N d.1 d.2.1)

def T_laws_eqEpBag_ann : Nat → List Ghost
  | _ => []

noncomputable def T_laws_eqEpBag_ctx (N : Nat) : Ctx := []

theorem T_laws_eqEpBag_den (N : Nat) (a1 : Int × Int) (b2 : Int × Int) :
    den (R := ODen (T_laws_eqEpBag_sg N).ps × RDen (T_laws_eqEpBag_sg N).rs) tab (T_laws_eqEpBag_ctx N) T_laws_eqEpBag_ann N (T_laws_eqEpBag_sg N) Try.f94 (a1, b2, ()) some =
    (bif a1.1 != b2.1 then
    (some (α := ODen (T_laws_eqEpBag_sg N).ps × RDen (T_laws_eqEpBag_sg N).rs) ((), (false, ())))
    else
    (bif a1.2 != b2.2 then
      (some (α := ODen (T_laws_eqEpBag_sg N).ps × RDen (T_laws_eqEpBag_sg N).rs) ((), (false, ())))
      else
      (some (α := ODen (T_laws_eqEpBag_sg N).ps × RDen (T_laws_eqEpBag_sg N).rs) ((), (true, ()))))) := by kernel_rfl

theorem T_laws_eqEpBag_ok (N : Nat) : chkBody Try.f94 (T_laws_eqEpBag_sg N).ps = true := by kernel_rfl

theorem T_laws_eqEpBag_callable : Callable Try.prog 94 := callable_of Try.func94 (show chkFn Try.f94 = true by kernel_rfl)

theorem T_laws_eqEpBag_good (N : Nat) : Good Try.prog 94 (T_laws_eqEpBag_sg N) :=
  good_body mixedOk tabOk ctx_nil Try.func94 (T_laws_eqEpBag_ok N) (fun d _ h => ⟨N, (T_laws_eqEpBag_den N d.1 d.2.1).trans h⟩)

noncomputable def T_laws_eqEpBagS_sg (N : Nat) : Sig := Sig.of [.v (.slice (.prod (.int .i64) (.int .i64))) false, .v (.slice (.prod (.int .i64) (.int .i64))) false] [.v (.bool) false] (fun d => T_laws_eqEpBagS N d.1 d.2.1)

def T_laws_eqEpBagS_ann : Nat → List Ghost
  | 4 => [.canon [0, 1, 5, 14]]
  | 5 => [.canon [0, 1, 5]]
  | 6 => [.canon [0, 1, 5, 26]]
  | 7 => [.canon [4]]
  | 100004 => [.canon [0, 1, 5]]
  | _ => []

noncomputable def T_laws_eqEpBagS_ctx (N : Nat) : Ctx := [(94, T_laws_eqEpBag_sg N)]

def T_laws_eqEpBagS_lp0_sh (a3 : List (Int × Int)) (b4 : List (Int × Int)) (i5 : Int) : St := { env := [(0, .s (.one (.val (.slice (.prod (.int .i64) (.int .i64))) (a3 : List (Int × Int))))), (1, .s (.one (.val (.slice (.prod (.int .i64) (.int .i64))) (b4 : List (Int × Int))))), (5, .s (.one (.val (.int .i64) (i5 : Int))))], objs := [], nx := 0 }

def T_laws_eqEpBagS_lp0_e0 (a3 : List (Int × Int)) (b4 : List (Int × Int)) : St := { env := [(4, .s (.one (.val (.bool) (false : Bool))))], objs := [], nx := 0 }

def T_laws_eqEpBagS_lp0_e1 (a3 : List (Int × Int)) (b4 : List (Int × Int)) (i7 : Int) (t8 : Bool) : St := { env := [(0, .s (.one (.val (.slice (.prod (.int .i64) (.int .i64))) (a3 : List (Int × Int))))), (1, .s (.one (.val (.slice (.prod (.int .i64) (.int .i64))) (b4 : List (Int × Int))))), (5, .s (.one (.val (.int .i64) (i7 : Int)))), (14, .s (.one (.val (.bool) (t8 : Bool))))], objs := [], nx := 0 }

noncomputable def T_laws_eqEpBagS_lp0_m (N : Nat) {R : Type} (n : Nat) (st : St) (K : Ex → St → Option R) : Option R := loopN (roundG (T_laws_eqEpBagS_ann 100004) fun st k => sx tab (T_laws_eqEpBagS_ctx N) T_laws_eqEpBagS_ann N (nthLoop Try.f73 0) st k) n st K

theorem T_laws_eqEpBagS_lp0_step (N : Nat) {R : Type} (n : Nat) (K : Ex → St → Option R) (a3 : List (Int × Int)) (b4 : List (Int × Int)) (i5 : Int) :
    T_laws_eqEpBagS_lp0_m N (n + 1) (T_laws_eqEpBagS_lp0_sh a3 b4 i5) K =
    (bif decide (i5 < (ilen a3)) then
    (bif inb i5 (List.length a3) then
      (bif inb i5 (List.length b4) then
        ((T_laws_eqEpBag N (List.getD a3 (Int.toNat i5) ((0 : Int), (0 : Int))) (List.getD b4 (Int.toNat i5) ((0 : Int), (0 : Int)))).bind fun o9 =>
          (bif !o9.2.1 then
            (K .ret (T_laws_eqEpBagS_lp0_e0 a3 b4))
            else
            (T_laws_eqEpBagS_lp0_m N n (T_laws_eqEpBagS_lp0_sh a3 b4 (iadd .i64 i5 (1 : Int))) K))) else none) else none)
    else
    (K (.exit 0) (T_laws_eqEpBagS_lp0_e1 a3 b4 i5 (decide (i5 < (ilen a3)))))) := by kernel_rfl

theorem T_laws_eqEpBagS_lp0_eq (N : Nat) {R : Type} (a3 : List (Int × Int)) (b4 : List (Int × Int)) (K : Ex → St → Option R) : ∀ (n : Nat) (i5 : Int), T_laws_eqEpBagS_lp0_m N n (T_laws_eqEpBagS_lp0_sh a3 b4 i5) K = T_laws_eqEpBagS_lp0 N a3 b4 (K .ret (T_laws_eqEpBagS_lp0_e0 a3 b4)) (fun i7 t8 => (K (.exit 0) (T_laws_eqEpBagS_lp0_e1 a3 b4 i7 t8))) n i5
  | 0, _ => rfl
  | n + 1, i5 => by rw [T_laws_eqEpBagS_lp0_step, T_laws_eqEpBagS_lp0]; (try simp only [T_laws_eqEpBagS_lp0_eq N a3 b4 K n])

theorem T_laws_eqEpBagS_c1 (N : Nat) (a1 : List (Int × Int)) (b2 : List (Int × Int)) :
    ((ctxK (R := ODen (T_laws_eqEpBagS_sg N).ps × RDen (T_laws_eqEpBagS_sg N).rs) tab (T_laws_eqEpBagS_ctx N) T_laws_eqEpBagS_ann N (theCode Try.f73) [1, 1, 0, 1, 0] (retK tab (T_laws_eqEpBagS_sg N) Try.f73.results.toList some)) .ret (T_laws_eqEpBagS_lp0_e0 a1 b2)) =
    (some (α := ODen (T_laws_eqEpBagS_sg N).ps × RDen (T_laws_eqEpBagS_sg N).rs) ((), (false, ()))) := by kernel_rfl

theorem T_laws_eqEpBagS_c2 (N : Nat) (a1 : List (Int × Int)) (b2 : List (Int × Int)) (i10 : Int) (t11 : Bool) :
    ((ctxK (R := ODen (T_laws_eqEpBagS_sg N).ps × RDen (T_laws_eqEpBagS_sg N).rs) tab (T_laws_eqEpBagS_ctx N) T_laws_eqEpBagS_ann N (theCode Try.f73) [1, 1, 0, 1, 0] (retK tab (T_laws_eqEpBagS_sg N) Try.f73.results.toList some)) (.exit 0) (T_laws_eqEpBagS_lp0_e1 a1 b2 i10 t11)) =
    (some (α := ODen (T_laws_eqEpBagS_sg N).ps × RDen (T_laws_eqEpBagS_sg N).rs) ((), (true, ()))) := by kernel_rfl

theorem T_laws_eqEpBagS_den (N : Nat) (a1 : List (Int × Int)) (b2 : List (Int × Int)) :
    den (R := ODen (T_laws_eqEpBagS_sg N).ps × RDen (T_laws_eqEpBagS_sg N).rs) tab (T_laws_eqEpBagS_ctx N) T_laws_eqEpBagS_ann N (T_laws_eqEpBagS_sg N) Try.f73 (a1, b2, ()) some =
    (bif (ilen a1) != (ilen b2) then
    (some (α := ODen (T_laws_eqEpBagS_sg N).ps × RDen (T_laws_eqEpBagS_sg N).rs) ((), (false, ())))
    else
    (T_laws_eqEpBagS_lp0 N a1 b2
      (some (α := ODen (T_laws_eqEpBagS_sg N).ps × RDen (T_laws_eqEpBagS_sg N).rs) ((), (false, ())))
      (fun i10 t11 =>
        (some (α := ODen (T_laws_eqEpBagS_sg N).ps × RDen (T_laws_eqEpBagS_sg N).rs) ((), (true, ()))))
       N (0 : Int))) := by
  have h : den (R := ODen (T_laws_eqEpBagS_sg N).ps × RDen (T_laws_eqEpBagS_sg N).rs) tab (T_laws_eqEpBagS_ctx N) T_laws_eqEpBagS_ann N (T_laws_eqEpBagS_sg N) Try.f73 (a1, b2, ()) some =
    (bif (ilen a1) != (ilen b2) then
    (some (α := ODen (T_laws_eqEpBagS_sg N).ps × RDen (T_laws_eqEpBagS_sg N).rs) ((), (false, ())))
    else
    (T_laws_eqEpBagS_lp0_m N N (T_laws_eqEpBagS_lp0_sh a1 b2 (0 : Int)) (ctxK (R := ODen (T_laws_eqEpBagS_sg N).ps × RDen (T_laws_eqEpBagS_sg N).rs) tab (T_laws_eqEpBagS_ctx N) T_laws_eqEpBagS_ann N (theCode Try.f73) [1, 1, 0, 1, 0] (retK tab (T_laws_eqEpBagS_sg N) Try.f73.results.toList some)))) := by kernel_rfl
  rw [h]
  (try simp only [T_laws_eqEpBagS_lp0_eq, T_laws_eqEpBagS_c1, T_laws_eqEpBagS_c2]) <;> rfl

theorem T_laws_eqEpBagS_ok (N : Nat) : chkBody Try.f73 (T_laws_eqEpBagS_sg N).ps = true := by kernel_rfl

theorem T_laws_eqEpBagS_callable : Callable Try.prog 73 := callable_of Try.func73 (show chkFn Try.f73 = true by kernel_rfl)

theorem T_laws_eqEpBagS_good (N : Nat) : Good Try.prog 73 (T_laws_eqEpBagS_sg N) :=
  good_body mixedOk tabOk (ctx_cons (T_laws_eqEpBag_good N) T_laws_eqEpBag_callable ctx_nil) Try.func73 (T_laws_eqEpBagS_ok N) (fun d _ h => ⟨N, (T_laws_eqEpBagS_den N d.1 d.2.1).trans h⟩)

noncomputable def T_laws_eqEpHold_sg (N : Nat) : Sig := Sig.of [.v (.prod (.int .i64) (.int .i64)) true, .v (.prod (.int .i64) (.int .i64)) true] [.v (.bool) false] (fun d => T_laws_eqEpHold N d.1 d.2.1)

def T_laws_eqEpHold_ann : Nat → List Ghost
  | _ => []

noncomputable def T_laws_eqEpHold_ctx (N : Nat) : Ctx := []

theorem T_laws_eqEpHold_den (N : Nat) (a1 : Int × Int) (b2 : Int × Int) :
    den (R := ODen (T_laws_eqEpHold_sg N).ps × RDen (T_laws_eqEpHold_sg N).rs) tab (T_laws_eqEpHold_ctx N) T_laws_eqEpHold_ann N (T_laws_eqEpHold_sg N) Try.f95 (a1, b2, ()) some =
    (bif a1.1 != b2.1 then
    (some (α := ODen (T_laws_eqEpHold_sg N).ps × RDen (T_laws_eqEpHold_sg N).rs) ((), (false, ())))
    else
    (bif a1.2 != b2.2 then
      (some (α := ODen (T_laws_eqEpHold_sg N).ps × RDen (T_laws_eqEpHold_sg N).rs) ((), (false, ())))
      else
      (some (α := ODen (T_laws_eqEpHold_sg N).ps × RDen (T_laws_eqEpHold_sg N).rs) ((), (true, ()))))) := by kernel_rfl

theorem T_laws_eqEpHold_ok (N : Nat) : chkBody Try.f95 (T_laws_eqEpHold_sg N).ps = true := by kernel_rfl

theorem T_laws_eqEpHold_callable : Callable Try.prog 95 := callable_of Try.func95 (show chkFn Try.f95 = true by kernel_rfl)

theorem T_laws_eqEpHold_good (N : Nat) : Good Try.prog 95 (T_laws_eqEpHold_sg N) :=
  good_body mixedOk tabOk ctx_nil Try.func95 (T_laws_eqEpHold_ok N) (fun d _ h => ⟨N, (T_laws_eqEpHold_den N d.1 d.2.1).trans h⟩)

noncomputable def T_laws_eqEpHoldS_sg (N : Nat) : Sig := Sig.of [.v (.slice (.prod (.int .i64) (.int .i64))) false, .v (.slice (.prod (.int .i64) (.int .i64))) false] [.v (.bool) false] (fun d => T_laws_eqEpHoldS N d.1 d.2.1)

def T_laws_eqEpHoldS_ann : Nat → List Ghost
  | 4 => [.canon [0, 1, 5, 14]]
  | 5 => [.canon [0, 1, 5]]
  | 6 => [.canon [0, 1, 5, 26]]
  | 7 => [.canon [4]]
  | 100004 => [.canon [0, 1, 5]]
  | _ => []

noncomputable def T_laws_eqEpHoldS_ctx (N : Nat) : Ctx := [(95, T_laws_eqEpHold_sg N)]

def T_laws_eqEpHoldS_lp0_sh (a3 : List (Int × Int)) (b4 : List (Int × Int)) (i5 : Int) : St := { env := [(0, .s (.one (.val (.slice (.prod (.int .i64) (.int .i64))) (a3 : List (Int × Int))))), (1, .s (.one (.val (.slice (.prod (.int .i64) (.int .i64))) (b4 : List (Int × Int))))), (5, .s (.one (.val (.int .i64) (i5 : Int))))], objs := [], nx := 0 }

def T_laws_eqEpHoldS_lp0_e0 (a3 : List (Int × Int)) (b4 : List (Int × Int)) : St := { env := [(4, .s (.one (.val (.bool) (false : Bool))))], objs := [], nx := 0 }

def T_laws_eqEpHoldS_lp0_e1 (a3 : List (Int × Int)) (b4 : List (Int × Int)) (i7 : Int) (t8 : Bool) : St := { env := [(0, .s (.one (.val (.slice (.prod (.int .i64) (.int .i64))) (a3 : List (Int × Int))))), (1, .s (.one (.val (.slice (.prod (.int .i64) (.int .i64))) (b4 : List (Int × Int))))), (5, .s (.one (.val (.int .i64) (i7 : Int)))), (14, .s (.one (.val (.bool) (t8 : Bool))))], objs := [], nx := 0 }

noncomputable def T_laws_eqEpHoldS_lp0_m (N : Nat) {R : Type} (n : Nat) (st : St) (K : Ex → St → Option R) : Option R := loopN (roundG (T_laws_eqEpHoldS_ann 100004) fun st k => sx tab (T_laws_eqEpHoldS_ctx N) T_laws_eqEpHoldS_ann N (nthLoop Try.f74 0) st k) n st K

theorem T_laws_eqEpHoldS_lp0_step (N : Nat) {R : Type} (n : Nat) (K : Ex → St → Option R) (a3 : List (Int × Int)) (b4 : List (Int × Int)) (i5 : Int) :
    T_laws_eqEpHoldS_lp0_m N (n + 1) (T_laws_eqEpHoldS_lp0_sh a3 b4 i5) K =
    (bif decide (i5 < (ilen a3)) then
    (bif inb i5 (List.length a3) then
      (bif inb i5 (List.length b4) then
        ((T_laws_eqEpHold N (List.getD a3 (Int.toNat i5) ((0 : Int), (0 : Int))) (List.getD b4 (Int.toNat i5) ((0 : Int), (0 : Int)))).bind fun o9 =>
          (bif !o9.2.1 then
            (K .ret (T_laws_eqEpHoldS_lp0_e0 a3 b4))
            else
            (T_laws_eqEpHoldS_lp0_m N n (T_laws_eqEpHoldS_lp0_sh a3 b4 (iadd .i64 i5 (1 : Int))) K))) else none) else none)
    else
    (K (.exit 0) (T_laws_eqEpHoldS_lp0_e1 a3 b4 i5 (decide (i5 < (ilen a3)))))) := by kernel_rfl

theorem T_laws_eqEpHoldS_lp0_eq (N : Nat) {R : Type} (a3 : List (Int × Int)) (b4 : List (Int × Int)) (K : Ex → St → Option R) : ∀ (n : Nat) (i5 : Int), T_laws_eqEpHoldS_lp0_m N n (T_laws_eqEpHoldS_lp0_sh a3 b4 i5) K = T_laws_eqEpHoldS_lp0 N a3 b4 (K .ret (T_laws_eqEpHoldS_lp0_e0 a3 b4)) (fun i7 t8 => (K (.exit 0) (T_laws_eqEpHoldS_lp0_e1 a3 b4 i7 t8))) n i5
  | 0, _ => rfl
  | n + 1, i5 => by rw [T_laws_eqEpHoldS_lp0_step, T_laws_eqEpHoldS_lp0]; (try simp only [T_laws_eqEpHoldS_lp0_eq N a3 b4 K n])

theorem T_laws_eqEpHoldS_c1 (N : Nat) (a1 : List (Int × Int)) (b2 : List (Int × Int)) :
    ((ctxK (R := ODen (T_laws_eqEpHoldS_sg N).ps × RDen (T_laws_eqEpHoldS_sg N).rs) tab (T_laws_eqEpHoldS_ctx N) T_laws_eqEpHoldS_ann N (theCode Try.f74) [1, 1, 0, 1, 0] (retK tab (T_laws_eqEpHoldS_sg N) Try.f74.results.toList some)) .ret (T_laws_eqEpHoldS_lp0_e0 a1 b2)) =
    (some (α := ODen (T_laws_eqEpHoldS_sg N).ps × RDen (T_laws_eqEpHoldS_sg N).rs) ((), (false, ()))) := by kernel_rfl

theorem T_laws_eqEpHoldS_c2 (N : Nat) (a1 : List (Int × Int)) (b2 : List (Int × Int)) (i10 : Int) (t11 : Bool) :
    ((ctxK (R := ODen (T_laws_eqEpHoldS_sg N).ps × RDen (T_laws_eqEpHoldS_sg N).rs) tab (T_laws_eqEpHoldS_ctx N) T_laws_eqEpHoldS_ann N (theCode Try.f74) [1, 1, 0, 1, 0] (retK tab (T_laws_eqEpHoldS_sg N) Try.f74.results.toList some)) (.exit 0) (T_laws_eqEpHoldS_lp0_e1 a1 b2 i10 t11)) =
    (some (α := ODen (T_laws_eqEpHoldS_sg N).ps × RDen (T_laws_eqEpHoldS_sg N).rs) ((), (true, ()))) := by kernel_rfl

theorem T_laws_eqEpHoldS_den (N : Nat) (a1 : List (Int × Int)) (b2 : List (Int × Int)) :
    den (R := ODen (T_laws_eqEpHoldS_sg N).ps × RDen (T_laws_eqEpHoldS_sg N).rs) tab (T_laws_eqEpHoldS_ctx N) T_laws_eqEpHoldS_ann N (T_laws_eqEpHoldS_sg N) Try.f74 (a1, b2, ()) some =
    (bif (ilen a1) != (ilen b2) then
    (some (α := ODen (T_laws_eqEpHoldS_sg N).ps × RDen (T_laws_eqEpHoldS_sg N).rs) ((), (false, ())))
    else
    (T_laws_eqEpHoldS_lp0 N a1 b2
      (some (α := ODen (T_laws_eqEpHoldS_sg N).ps × RDen (T_laws_eqEpHoldS_sg N).rs) ((), (false, ())))
      (fun i10 t11 =>
        (some (α := ODen (T_laws_eqEpHoldS_sg N).ps × RDen (T_laws_eqEpHoldS_sg N).rs) ((), (true, ()))))
       N (0 : Int))) := by
  have h : den (R := ODen (T_laws_eqEpHoldS_sg N).ps × RDen (T_laws_eqEpHoldS_sg N).rs) tab (T_laws_eqEpHoldS_ctx N) T_laws_eqEpHoldS_ann N (T_laws_eqEpHoldS_sg N) Try.f74 (a1, b2, ()) some =
    (bif (ilen a1) != (ilen b2) then
    (some (α := ODen (T_laws_eqEpHoldS_sg N).ps × RDen (T_laws_eqEpHoldS_sg N).rs) ((), (false, ())))
    else
    (T_laws_eqEpHoldS_lp0_m N N (T_laws_eqEpHoldS_lp0_sh a1 b2 (0 : Int)) (ctxK (R := ODen (T_laws_eqEpHoldS_sg N).ps × RDen (T_laws_eqEpHoldS_sg N).rs) tab (T_laws_eqEpHoldS_ctx N) T_laws_eqEpHoldS_ann N (theCode Try.f74) [1, 1, 0, 1, 0] (retK tab (T_laws_eqEpHoldS_sg N) Try.f74.results.toList some)))) := by kernel_rfl
  rw [h]
  (try simp only [T_laws_eqEpHoldS_lp0_eq, T_laws_eqEpHoldS_c1, T_laws_eqEpHoldS_c2]) <;> rfl

theorem T_laws_eqEpHoldS_ok (N : Nat) : chkBody Try.f74 (T_laws_eqEpHoldS_sg N).ps = true := by kernel_rfl

theorem T_laws_eqEpHoldS_callable : Callable Try.prog 74 := callable_of Try.func74 (show chkFn Try.f74 = true by kernel_rfl)

theorem T_laws_eqEpHoldS_good (N : Nat) : Good Try.prog 74 (T_laws_eqEpHoldS_sg N) :=
  good_body mixedOk tabOk (ctx_cons (T_laws_eqEpHold_good N) T_laws_eqEpHold_callable ctx_nil) Try.func74 (T_laws_eqEpHoldS_ok N) (fun d _ h => ⟨N, (T_laws_eqEpHoldS_den N d.1 d.2.1).trans h⟩)

noncomputable def T_laws_eqEpochs_sg (N : Nat) : Sig := Sig.of [.v (.prod (.int .i64) (.prod (.slice (.int .i64)) (.prod (.slice (.bool)) (.prod (.slice (.prod (.int .i64) (.int .i64))) (.prod (.slice (.prod (.int .i64) (.int .i64))) (.slice (.int .i64))))))) true, .v (.prod (.int .i64) (.prod (.slice (.int .i64)) (.prod (.slice (.bool)) (.prod (.slice (.prod (.int .i64) (.int .i64))) (.prod (.slice (.prod (.int .i64) (.int .i64))) (.slice (.int .i64))))))) true] [.v (.bool) false] (fun d => T_laws_eqEpochs N d.1 d.2.1)

def T_laws_eqEpochs_ann : Nat → List Ghost
  | _ => []

noncomputable def T_laws_eqEpochs_ctx (N : Nat) : Ctx := [(14, T_laws_eqIntS_sg N), (72, T_laws_eqBoolS_sg N), (73, T_laws_eqEpBagS_sg N), (74, T_laws_eqEpHoldS_sg N)]

theorem T_laws_eqEpochs_den (N : Nat) (a1 : Int × List Int × List Bool × List (Int × Int) × List (Int × Int) × List Int) (b2 : Int × List Int × List Bool × List (Int × Int) × List (Int × Int) × List Int) :
    den (R := ODen (T_laws_eqEpochs_sg N).ps × RDen (T_laws_eqEpochs_sg N).rs) tab (T_laws_eqEpochs_ctx N) T_laws_eqEpochs_ann N (T_laws_eqEpochs_sg N) Try.f33 (a1, b2, ()) some =
    (bif a1.1 != b2.1 then
    (some (α := ODen (T_laws_eqEpochs_sg N).ps × RDen (T_laws_eqEpochs_sg N).rs) ((), (false, ())))
    else
    ((T_laws_eqIntS N a1.2.1 b2.2.1).bind fun o3 =>
      (bif !o3.2.1 then
        (some (α := ODen (T_laws_eqEpochs_sg N).ps × RDen (T_laws_eqEpochs_sg N).rs) ((), (false, ())))
        else
        ((T_laws_eqBoolS N a1.2.2.1 b2.2.2.1).bind fun o4 =>
          (bif !o4.2.1 then
            (some (α := ODen (T_laws_eqEpochs_sg N).ps × RDen (T_laws_eqEpochs_sg N).rs) ((), (false, ())))
            else
            ((T_laws_eqEpBagS N a1.2.2.2.1 b2.2.2.2.1).bind fun o5 =>
              (bif !o5.2.1 then
                (some (α := ODen (T_laws_eqEpochs_sg N).ps × RDen (T_laws_eqEpochs_sg N).rs) ((), (false, ())))
                else
                ((T_laws_eqEpHoldS N a1.2.2.2.2.1 b2.2.2.2.2.1).bind fun o6 =>
                  (bif !o6.2.1 then
                    (some (α := ODen (T_laws_eqEpochs_sg N).ps × RDen (T_laws_eqEpochs_sg N).rs) ((), (false, ())))
                    else
                    ((T_laws_eqIntS N a1.2.2.2.2.2 b2.2.2.2.2.2).bind fun o7 =>
                      (bif !o7.2.1 then
                        (some (α := ODen (T_laws_eqEpochs_sg N).ps × RDen (T_laws_eqEpochs_sg N).rs) ((), (false, ())))
                        else
                        (some (α := ODen (T_laws_eqEpochs_sg N).ps × RDen (T_laws_eqEpochs_sg N).rs) ((), (true, ())))))))))))))) := by kernel_rfl

theorem T_laws_eqEpochs_ok (N : Nat) : chkBody Try.f33 (T_laws_eqEpochs_sg N).ps = true := by kernel_rfl

theorem T_laws_eqEpochs_callable : Callable Try.prog 33 := callable_of Try.func33 (show chkFn Try.f33 = true by kernel_rfl)

theorem T_laws_eqEpochs_good (N : Nat) : Good Try.prog 33 (T_laws_eqEpochs_sg N) :=
  good_body mixedOk tabOk (ctx_cons (T_laws_eqIntS_good N) T_laws_eqIntS_callable (ctx_cons (T_laws_eqBoolS_good N) T_laws_eqBoolS_callable (ctx_cons (T_laws_eqEpBagS_good N) T_laws_eqEpBagS_callable (ctx_cons (T_laws_eqEpHoldS_good N) T_laws_eqEpHoldS_callable ctx_nil)))) Try.func33 (T_laws_eqEpochs_ok N) (fun d _ h => ⟨N, (T_laws_eqEpochs_den N d.1 d.2.1).trans h⟩)

noncomputable def T_laws_FnExactEpochSafe_sg (N : Nat) : Sig := Sig.of [.v (.prod (.int .i64) (.prod (.slice (.int .i64)) (.prod (.slice (.bool)) (.prod (.slice (.prod (.int .i64) (.int .i64))) (.prod (.slice (.prod (.int .i64) (.int .i64))) (.slice (.int .i64))))))) true] [.v (.bool) false] (fun d => T_laws_FnExactEpochSafe N d.1)

def T_laws_FnExactEpochSafe_ann : Nat → List Ghost
  | _ => []

noncomputable def T_laws_FnExactEpochSafe_ctx (N : Nat) : Ctx := [(29, T_laws_szEpochs_sg N), (31, T_laws_toEpochs_sg N), (30, T_spec_EpochSafe_sg N), (32, T_impl_EpochSafe_sg N), (33, T_laws_eqEpochs_sg N)]

theorem T_laws_FnExactEpochSafe_den (N : Nat) (aE1 : Int × List Int × List Bool × List (Int × Int) × List (Int × Int) × List Int) :
    den (R := ODen (T_laws_FnExactEpochSafe_sg N).ps × RDen (T_laws_FnExactEpochSafe_sg N).rs) tab (T_laws_FnExactEpochSafe_ctx N) T_laws_FnExactEpochSafe_ann N (T_laws_FnExactEpochSafe_sg N) Try.f6 (aE1, ()) some =
    ((T_laws_szEpochs N aE1 (1048576 : Int)).bind fun o2 =>
    (bif decide (o2.2.1 < (0 : Int)) then
      (some (α := ODen (T_laws_FnExactEpochSafe_sg N).ps × RDen (T_laws_FnExactEpochSafe_sg N).rs) ((), (true, ())))
      else
      ((T_laws_toEpochs N aE1).bind fun o3 =>
        ((T_spec_EpochSafe N o3.2.1).bind fun o4 =>
          ((T_laws_toEpochs N aE1).bind fun o5 =>
            ((T_impl_EpochSafe N o5.2.1).bind fun o6 =>
              (bif !(beq o6.2.1 o4.2.1) then
                (some (α := ODen (T_laws_FnExactEpochSafe_sg N).ps × RDen (T_laws_FnExactEpochSafe_sg N).rs) ((), (false, ())))
                else
                ((T_laws_toEpochs N aE1).bind fun o7 =>
                  ((T_laws_eqEpochs N o5.2.1 o7.2.1).bind fun o8 =>
                    (bif !o8.2.1 then
                      (some (α := ODen (T_laws_FnExactEpochSafe_sg N).ps × RDen (T_laws_FnExactEpochSafe_sg N).rs) ((), (false, ())))
                      else
                      (some (α := ODen (T_laws_FnExactEpochSafe_sg N).ps × RDen (T_laws_FnExactEpochSafe_sg N).rs) ((), (true, ()))))))))))))) := by kernel_rfl

theorem T_laws_FnExactEpochSafe_ok (N : Nat) : chkBody Try.f6 (T_laws_FnExactEpochSafe_sg N).ps = true := by kernel_rfl

theorem T_laws_FnExactEpochSafe_callable : Callable Try.prog 6 := callable_of Try.func6 (show chkFn Try.f6 = true by kernel_rfl)

theorem T_laws_FnExactEpochSafe_good (N : Nat) : Good Try.prog 6 (T_laws_FnExactEpochSafe_sg N) :=
  good_body mixedOk tabOk (ctx_cons (T_laws_szEpochs_good N) T_laws_szEpochs_callable (ctx_cons (T_laws_toEpochs_good N) T_laws_toEpochs_callable (ctx_cons (T_spec_EpochSafe_good N) T_spec_EpochSafe_callable (ctx_cons (T_impl_EpochSafe_good N) T_impl_EpochSafe_callable (ctx_cons (T_laws_eqEpochs_good N) T_laws_eqEpochs_callable ctx_nil))))) Try.func6 (T_laws_FnExactEpochSafe_ok N) (fun d _ h => ⟨N, (T_laws_FnExactEpochSafe_den N d.1).trans h⟩)

end Go.Sx
