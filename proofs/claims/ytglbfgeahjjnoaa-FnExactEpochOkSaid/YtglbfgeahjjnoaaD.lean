/- Each Go function does what its Lean function says. -/
import Derived.Test.YtglbfgeahjjnoaaT
import Derived.Test.YtglbfgeahjjnoaaProg
namespace Go.Sx
open Go.Proofs
set_option linter.unusedVariables false
set_option linter.unusedSimpArgs false

def tab : Tab := [(3, ⟨.int .i64, false, .basic⟩), (4, ⟨.bool, false, .basic⟩), (22, ⟨.slice (.int .i64), false, .slice 3⟩), (53, ⟨.slice (.bool), false, .slice 4⟩), (54, ⟨.slice (.prod (.int .i64) (.int .i64)), false, .slice 134⟩), (55, ⟨.slice (.prod (.int .i64) (.int .i64)), false, .slice 136⟩), (57, ⟨.prod (.int .i64) (.prod (.slice (.int .i64)) (.prod (.slice (.bool)) (.prod (.slice (.prod (.int .i64) (.int .i64))) (.prod (.slice (.prod (.int .i64) (.int .i64))) (.slice (.int .i64)))))), true, .struct [(0, 3), (1, 22), (2, 53), (3, 54), (4, 55), (5, 22)]⟩), (60, ⟨.slice (.prod (.int .i64) (.int .i64)), false, .slice 121⟩), (61, ⟨.slice (.prod (.int .i64) (.int .i64)), false, .slice 104⟩), (63, ⟨.prod (.int .i64) (.prod (.slice (.int .i64)) (.prod (.slice (.bool)) (.prod (.slice (.prod (.int .i64) (.int .i64))) (.prod (.slice (.prod (.int .i64) (.int .i64))) (.slice (.int .i64)))))), true, .struct [(0, 3), (1, 22), (2, 53), (3, 60), (4, 61), (5, 22)]⟩), (104, ⟨.prod (.int .i64) (.int .i64), true, .struct [(0, 3), (1, 3)]⟩), (121, ⟨.prod (.int .i64) (.int .i64), true, .struct [(0, 3), (1, 3)]⟩), (122, ⟨.int .i64, true, .arr 10 3⟩), (134, ⟨.prod (.int .i64) (.int .i64), true, .struct [(0, 3), (1, 3)]⟩), (136, ⟨.prod (.int .i64) (.int .i64), true, .struct [(0, 3), (1, 3)]⟩)]

theorem mixedOk : Try.prog.follows .mixedOrders = true := by kernel_rfl

theorem tabOk : TabOk Try.prog tab := tab_ok (show chkTab Try.prog tab tab = true by kernel_rfl)

noncomputable def T_laws_szIntS_sg (N : Nat) : Sig := Sig.of [.v (.slice (.int .i64)) false, .v (.int .i64) false] [.v (.int .i64) false] (fun d => T_laws_szIntS N d.1 d.2.1)

def T_laws_szIntS_ann : Nat → List Ghost
  | _ => []

noncomputable def T_laws_szIntS_ctx (N : Nat) : Ctx := []

theorem T_laws_szIntS_den (N : Nat) (a1 : List Int) (left2 : Int) :
    den (R := ODen (T_laws_szIntS_sg N).ps × RDen (T_laws_szIntS_sg N).rs) tab (T_laws_szIntS_ctx N) T_laws_szIntS_ann N (T_laws_szIntS_sg N) Try.f62 (a1, left2, ()) some =
    (bif decide ((isub .i64 left2 (ilen a1)) < (0 : Int)) then
    (some (α := ODen (T_laws_szIntS_sg N).ps × RDen (T_laws_szIntS_sg N).rs) ((), ((-1 : Int), ())))
    else
    (some (α := ODen (T_laws_szIntS_sg N).ps × RDen (T_laws_szIntS_sg N).rs) ((), (isub .i64 left2 (ilen a1), ())))) := by kernel_rfl

theorem T_laws_szIntS_ok (N : Nat) : chkBody Try.f62 (T_laws_szIntS_sg N).ps = true := by kernel_rfl

theorem T_laws_szIntS_callable : Callable Try.prog 62 := callable_of Try.func62 (show chkFn Try.f62 = true by kernel_rfl)

theorem T_laws_szIntS_good (N : Nat) : Good Try.prog 62 (T_laws_szIntS_sg N) :=
  good_body mixedOk tabOk ctx_nil Try.func62 (T_laws_szIntS_ok N) (fun d _ h => ⟨N, (T_laws_szIntS_den N d.1 d.2.1).trans h⟩)

noncomputable def T_laws_szBoolS_sg (N : Nat) : Sig := Sig.of [.v (.slice (.bool)) false, .v (.int .i64) false] [.v (.int .i64) false] (fun d => T_laws_szBoolS N d.1 d.2.1)

def T_laws_szBoolS_ann : Nat → List Ghost
  | _ => []

noncomputable def T_laws_szBoolS_ctx (N : Nat) : Ctx := []

theorem T_laws_szBoolS_den (N : Nat) (a1 : List Bool) (left2 : Int) :
    den (R := ODen (T_laws_szBoolS_sg N).ps × RDen (T_laws_szBoolS_sg N).rs) tab (T_laws_szBoolS_ctx N) T_laws_szBoolS_ann N (T_laws_szBoolS_sg N) Try.f63 (a1, left2, ()) some =
    (bif decide ((isub .i64 left2 (ilen a1)) < (0 : Int)) then
    (some (α := ODen (T_laws_szBoolS_sg N).ps × RDen (T_laws_szBoolS_sg N).rs) ((), ((-1 : Int), ())))
    else
    (some (α := ODen (T_laws_szBoolS_sg N).ps × RDen (T_laws_szBoolS_sg N).rs) ((), (isub .i64 left2 (ilen a1), ())))) := by kernel_rfl

theorem T_laws_szBoolS_ok (N : Nat) : chkBody Try.f63 (T_laws_szBoolS_sg N).ps = true := by kernel_rfl

theorem T_laws_szBoolS_callable : Callable Try.prog 63 := callable_of Try.func63 (show chkFn Try.f63 = true by kernel_rfl)

theorem T_laws_szBoolS_good (N : Nat) : Good Try.prog 63 (T_laws_szBoolS_sg N) :=
  good_body mixedOk tabOk ctx_nil Try.func63 (T_laws_szBoolS_ok N) (fun d _ h => ⟨N, (T_laws_szBoolS_den N d.1 d.2.1).trans h⟩)

noncomputable def T_laws_szEpBagS_sg (N : Nat) : Sig := Sig.of [.v (.slice (.prod (.int .i64) (.int .i64))) false, .v (.int .i64) false] [.v (.int .i64) false] (fun d => T_laws_szEpBagS N d.1 d.2.1)

def T_laws_szEpBagS_ann : Nat → List Ghost
  | _ => []

noncomputable def T_laws_szEpBagS_ctx (N : Nat) : Ctx := []

theorem T_laws_szEpBagS_den (N : Nat) (a1 : List (Int × Int)) (left2 : Int) :
    den (R := ODen (T_laws_szEpBagS_sg N).ps × RDen (T_laws_szEpBagS_sg N).rs) tab (T_laws_szEpBagS_ctx N) T_laws_szEpBagS_ann N (T_laws_szEpBagS_sg N) Try.f64 (a1, left2, ()) some =
    (bif decide ((isub .i64 left2 (ilen a1)) < (0 : Int)) then
    (some (α := ODen (T_laws_szEpBagS_sg N).ps × RDen (T_laws_szEpBagS_sg N).rs) ((), ((-1 : Int), ())))
    else
    (some (α := ODen (T_laws_szEpBagS_sg N).ps × RDen (T_laws_szEpBagS_sg N).rs) ((), (isub .i64 left2 (ilen a1), ())))) := by kernel_rfl

theorem T_laws_szEpBagS_ok (N : Nat) : chkBody Try.f64 (T_laws_szEpBagS_sg N).ps = true := by kernel_rfl

theorem T_laws_szEpBagS_callable : Callable Try.prog 64 := callable_of Try.func64 (show chkFn Try.f64 = true by kernel_rfl)

theorem T_laws_szEpBagS_good (N : Nat) : Good Try.prog 64 (T_laws_szEpBagS_sg N) :=
  good_body mixedOk tabOk ctx_nil Try.func64 (T_laws_szEpBagS_ok N) (fun d _ h => ⟨N, (T_laws_szEpBagS_den N d.1 d.2.1).trans h⟩)

noncomputable def T_laws_szEpHoldS_sg (N : Nat) : Sig := Sig.of [.v (.slice (.prod (.int .i64) (.int .i64))) false, .v (.int .i64) false] [.v (.int .i64) false] (fun d => T_laws_szEpHoldS N d.1 d.2.1)

def T_laws_szEpHoldS_ann : Nat → List Ghost
  | _ => []

noncomputable def T_laws_szEpHoldS_ctx (N : Nat) : Ctx := []

theorem T_laws_szEpHoldS_den (N : Nat) (a1 : List (Int × Int)) (left2 : Int) :
    den (R := ODen (T_laws_szEpHoldS_sg N).ps × RDen (T_laws_szEpHoldS_sg N).rs) tab (T_laws_szEpHoldS_ctx N) T_laws_szEpHoldS_ann N (T_laws_szEpHoldS_sg N) Try.f65 (a1, left2, ()) some =
    (bif decide ((isub .i64 left2 (ilen a1)) < (0 : Int)) then
    (some (α := ODen (T_laws_szEpHoldS_sg N).ps × RDen (T_laws_szEpHoldS_sg N).rs) ((), ((-1 : Int), ())))
    else
    (some (α := ODen (T_laws_szEpHoldS_sg N).ps × RDen (T_laws_szEpHoldS_sg N).rs) ((), (isub .i64 left2 (ilen a1), ())))) := by kernel_rfl

theorem T_laws_szEpHoldS_ok (N : Nat) : chkBody Try.f65 (T_laws_szEpHoldS_sg N).ps = true := by kernel_rfl

theorem T_laws_szEpHoldS_callable : Callable Try.prog 65 := callable_of Try.func65 (show chkFn Try.f65 = true by kernel_rfl)

theorem T_laws_szEpHoldS_good (N : Nat) : Good Try.prog 65 (T_laws_szEpHoldS_sg N) :=
  good_body mixedOk tabOk ctx_nil Try.func65 (T_laws_szEpHoldS_ok N) (fun d _ h => ⟨N, (T_laws_szEpHoldS_den N d.1 d.2.1).trans h⟩)

noncomputable def T_laws_szEpochs_sg (N : Nat) : Sig := Sig.of [.v (.prod (.int .i64) (.prod (.slice (.int .i64)) (.prod (.slice (.bool)) (.prod (.slice (.prod (.int .i64) (.int .i64))) (.prod (.slice (.prod (.int .i64) (.int .i64))) (.slice (.int .i64))))))) true, .v (.int .i64) false] [.v (.int .i64) false] (fun d => T_laws_szEpochs N d.1 d.2.1)

def T_laws_szEpochs_ann : Nat → List Ghost
  | _ => []

noncomputable def T_laws_szEpochs_ctx (N : Nat) : Ctx := [(62, T_laws_szIntS_sg N), (63, T_laws_szBoolS_sg N), (64, T_laws_szEpBagS_sg N), (65, T_laws_szEpHoldS_sg N)]

theorem T_laws_szEpochs_den (N : Nat) (a1 : Int × List Int × List Bool × List (Int × Int) × List (Int × Int) × List Int) (left2 : Int) :
    den (R := ODen (T_laws_szEpochs_sg N).ps × RDen (T_laws_szEpochs_sg N).rs) tab (T_laws_szEpochs_ctx N) T_laws_szEpochs_ann N (T_laws_szEpochs_sg N) Try.f29 (a1, left2, ()) some =
    ((T_laws_szIntS N a1.2.1 left2).bind fun o3 =>
    (bif decide (o3.2.1 < (0 : Int)) then
      (some (α := ODen (T_laws_szEpochs_sg N).ps × RDen (T_laws_szEpochs_sg N).rs) ((), ((-1 : Int), ())))
      else
      ((T_laws_szBoolS N a1.2.2.1 o3.2.1).bind fun o4 =>
        (bif decide (o4.2.1 < (0 : Int)) then
          (some (α := ODen (T_laws_szEpochs_sg N).ps × RDen (T_laws_szEpochs_sg N).rs) ((), ((-1 : Int), ())))
          else
          ((T_laws_szEpBagS N a1.2.2.2.1 o4.2.1).bind fun o5 =>
            (bif decide (o5.2.1 < (0 : Int)) then
              (some (α := ODen (T_laws_szEpochs_sg N).ps × RDen (T_laws_szEpochs_sg N).rs) ((), ((-1 : Int), ())))
              else
              ((T_laws_szEpHoldS N a1.2.2.2.2.1 o5.2.1).bind fun o6 =>
                (bif decide (o6.2.1 < (0 : Int)) then
                  (some (α := ODen (T_laws_szEpochs_sg N).ps × RDen (T_laws_szEpochs_sg N).rs) ((), ((-1 : Int), ())))
                  else
                  ((T_laws_szIntS N a1.2.2.2.2.2 o6.2.1).bind fun o7 =>
                    (bif decide (o7.2.1 < (0 : Int)) then
                      (some (α := ODen (T_laws_szEpochs_sg N).ps × RDen (T_laws_szEpochs_sg N).rs) ((), ((-1 : Int), ())))
                      else
                      (some (α := ODen (T_laws_szEpochs_sg N).ps × RDen (T_laws_szEpochs_sg N).rs) ((), (o7.2.1, ()))))))))))))) := by kernel_rfl

theorem T_laws_szEpochs_ok (N : Nat) : chkBody Try.f29 (T_laws_szEpochs_sg N).ps = true := by kernel_rfl

theorem T_laws_szEpochs_callable : Callable Try.prog 29 := callable_of Try.func29 (show chkFn Try.f29 = true by kernel_rfl)

theorem T_laws_szEpochs_good (N : Nat) : Good Try.prog 29 (T_laws_szEpochs_sg N) :=
  good_body mixedOk tabOk (ctx_cons (T_laws_szIntS_good N) T_laws_szIntS_callable (ctx_cons (T_laws_szBoolS_good N) T_laws_szBoolS_callable (ctx_cons (T_laws_szEpBagS_good N) T_laws_szEpBagS_callable (ctx_cons (T_laws_szEpHoldS_good N) T_laws_szEpHoldS_callable ctx_nil)))) Try.func29 (T_laws_szEpochs_ok N) (fun d _ h => ⟨N, (T_laws_szEpochs_den N d.1 d.2.1).trans h⟩)

noncomputable def T_laws_toIntS_sg (N : Nat) : Sig := Sig.of [.v (.slice (.int .i64)) false] [.v (.own (.int .i64)) false] (fun d => T_laws_toIntS N d.1)

def T_laws_toIntS_ann : Nat → List Ghost
  | 3 => [.canon [0, 3, 4, 11]]
  | 4 => [.canon [0, 3, 4]]
  | 5 => [.canon [0, 3, 4]]
  | 100003 => [.canon [0, 3, 4]]
  | _ => []

noncomputable def T_laws_toIntS_ctx (N : Nat) : Ctx := []

def T_laws_toIntS_lp0_sh (a2 : List Int) (i3 : Int) (l4 : List Int) : St := { env := [(0, .s (.one (.val (.slice (.int .i64)) (a2 : List Int)))), (3, .s (.one (.own 0))), (4, .s (.one (.val (.int .i64) (i3 : Int))))], objs := [(0, .arr (.int .i64) (l4 : List Int))], nx := 1 }

def T_laws_toIntS_lp0_e0 (a2 : List Int) (i5 : Int) (t6 : Bool) (l7 : List Int) : St := { env := [(0, .s (.one (.val (.slice (.int .i64)) (a2 : List Int)))), (3, .s (.one (.own 0))), (4, .s (.one (.val (.int .i64) (i5 : Int)))), (11, .s (.one (.val (.bool) (t6 : Bool))))], objs := [(0, .arr (.int .i64) (l7 : List Int))], nx := 1 }

noncomputable def T_laws_toIntS_lp0_m (N : Nat) {R : Type} (n : Nat) (st : St) (K : Ex → St → Option R) : Option R := loopN (roundG (T_laws_toIntS_ann 100003) fun st k => sx tab (T_laws_toIntS_ctx N) T_laws_toIntS_ann N (nthLoop Try.f11 0) st k) n st K

theorem T_laws_toIntS_lp0_step (N : Nat) {R : Type} (n : Nat) (K : Ex → St → Option R) (a2 : List Int) (i3 : Int) (l4 : List Int) :
    T_laws_toIntS_lp0_m N (n + 1) (T_laws_toIntS_lp0_sh a2 i3 l4) K =
    (bif decide (i3 < (ilen a2)) then
    (bif inb i3 (List.length a2) then
      (bif inb i3 (List.length l4) then
        (T_laws_toIntS_lp0_m N n (T_laws_toIntS_lp0_sh a2 (iadd .i64 i3 (1 : Int)) (List.set l4 (Int.toNat i3) (List.getD a2 (Int.toNat i3) (0 : Int)))) K) else none) else none)
    else
    (K (.exit 0) (T_laws_toIntS_lp0_e0 a2 i3 (decide (i3 < (ilen a2))) l4))) := by kernel_rfl

theorem T_laws_toIntS_lp0_eq (N : Nat) {R : Type} (a2 : List Int) (K : Ex → St → Option R) : ∀ (n : Nat) (i3 : Int) (l4 : List Int), T_laws_toIntS_lp0_m N n (T_laws_toIntS_lp0_sh a2 i3 l4) K = T_laws_toIntS_lp0 N a2 (fun i5 t6 l7 => (K (.exit 0) (T_laws_toIntS_lp0_e0 a2 i5 t6 l7))) n i3 l4
  | 0, _, _ => rfl
  | n + 1, i3, l4 => by rw [T_laws_toIntS_lp0_step, T_laws_toIntS_lp0]; (try simp only [T_laws_toIntS_lp0_eq N a2 K n])

theorem T_laws_toIntS_c1 (N : Nat) (a1 : List Int) (i8 : Int) (t9 : Bool) (l10 : List Int) :
    ((ctxK (R := ODen (T_laws_toIntS_sg N).ps × RDen (T_laws_toIntS_sg N).rs) tab (T_laws_toIntS_ctx N) T_laws_toIntS_ann N (theCode Try.f11) [1, 1, 0, 1, 0] (retK tab (T_laws_toIntS_sg N) Try.f11.results.toList some)) (.exit 0) (T_laws_toIntS_lp0_e0 a1 i8 t9 l10)) =
    (some (α := ODen (T_laws_toIntS_sg N).ps × RDen (T_laws_toIntS_sg N).rs) ((), (l10, ()))) := by kernel_rfl

theorem T_laws_toIntS_den (N : Nat) (a1 : List Int) :
    den (R := ODen (T_laws_toIntS_sg N).ps × RDen (T_laws_toIntS_sg N).rs) tab (T_laws_toIntS_ctx N) T_laws_toIntS_ann N (T_laws_toIntS_sg N) Try.f11 (a1, ()) some =
    (bif ((decide ((0 : Int) ≤ (ilen a1))) && (decide ((ilen a1) ≤ (ilen a1)))) && (room (Int.toNat (ilen a1))) then
    (T_laws_toIntS_lp0 N a1
      (fun i8 t9 l10 =>
        (some (α := ODen (T_laws_toIntS_sg N).ps × RDen (T_laws_toIntS_sg N).rs) ((), (l10, ()))))
       N (0 : Int) (List.replicate (Int.toNat (ilen a1)) (0 : Int))) else none) := by
  have h : den (R := ODen (T_laws_toIntS_sg N).ps × RDen (T_laws_toIntS_sg N).rs) tab (T_laws_toIntS_ctx N) T_laws_toIntS_ann N (T_laws_toIntS_sg N) Try.f11 (a1, ()) some =
    (bif ((decide ((0 : Int) ≤ (ilen a1))) && (decide ((ilen a1) ≤ (ilen a1)))) && (room (Int.toNat (ilen a1))) then
    (T_laws_toIntS_lp0_m N N (T_laws_toIntS_lp0_sh a1 (0 : Int) (List.replicate (Int.toNat (ilen a1)) (0 : Int))) (ctxK (R := ODen (T_laws_toIntS_sg N).ps × RDen (T_laws_toIntS_sg N).rs) tab (T_laws_toIntS_ctx N) T_laws_toIntS_ann N (theCode Try.f11) [1, 1, 0, 1, 0] (retK tab (T_laws_toIntS_sg N) Try.f11.results.toList some))) else none) := by kernel_rfl
  rw [h]
  (try simp only [T_laws_toIntS_lp0_eq, T_laws_toIntS_c1]) <;> rfl

theorem T_laws_toIntS_ok (N : Nat) : chkBody Try.f11 (T_laws_toIntS_sg N).ps = true := by kernel_rfl

theorem T_laws_toIntS_callable : Callable Try.prog 11 := callable_of Try.func11 (show chkFn Try.f11 = true by kernel_rfl)

theorem T_laws_toIntS_good (N : Nat) : Good Try.prog 11 (T_laws_toIntS_sg N) :=
  good_body mixedOk tabOk ctx_nil Try.func11 (T_laws_toIntS_ok N) (fun d _ h => ⟨N, (T_laws_toIntS_den N d.1).trans h⟩)

noncomputable def T_laws_toBoolS_sg (N : Nat) : Sig := Sig.of [.v (.slice (.bool)) false] [.v (.own (.bool)) false] (fun d => T_laws_toBoolS N d.1)

def T_laws_toBoolS_ann : Nat → List Ghost
  | 3 => [.canon [0, 3, 4, 11]]
  | 4 => [.canon [0, 3, 4]]
  | 5 => [.canon [0, 3, 4]]
  | 100003 => [.canon [0, 3, 4]]
  | _ => []

noncomputable def T_laws_toBoolS_ctx (N : Nat) : Ctx := []

def T_laws_toBoolS_lp0_sh (a2 : List Bool) (i3 : Int) (l4 : List Bool) : St := { env := [(0, .s (.one (.val (.slice (.bool)) (a2 : List Bool)))), (3, .s (.one (.own 0))), (4, .s (.one (.val (.int .i64) (i3 : Int))))], objs := [(0, .arr (.bool) (l4 : List Bool))], nx := 1 }

def T_laws_toBoolS_lp0_e0 (a2 : List Bool) (i5 : Int) (t6 : Bool) (l7 : List Bool) : St := { env := [(0, .s (.one (.val (.slice (.bool)) (a2 : List Bool)))), (3, .s (.one (.own 0))), (4, .s (.one (.val (.int .i64) (i5 : Int)))), (11, .s (.one (.val (.bool) (t6 : Bool))))], objs := [(0, .arr (.bool) (l7 : List Bool))], nx := 1 }

noncomputable def T_laws_toBoolS_lp0_m (N : Nat) {R : Type} (n : Nat) (st : St) (K : Ex → St → Option R) : Option R := loopN (roundG (T_laws_toBoolS_ann 100003) fun st k => sx tab (T_laws_toBoolS_ctx N) T_laws_toBoolS_ann N (nthLoop Try.f66 0) st k) n st K

theorem T_laws_toBoolS_lp0_step (N : Nat) {R : Type} (n : Nat) (K : Ex → St → Option R) (a2 : List Bool) (i3 : Int) (l4 : List Bool) :
    T_laws_toBoolS_lp0_m N (n + 1) (T_laws_toBoolS_lp0_sh a2 i3 l4) K =
    (bif decide (i3 < (ilen a2)) then
    (bif inb i3 (List.length a2) then
      (bif inb i3 (List.length l4) then
        (T_laws_toBoolS_lp0_m N n (T_laws_toBoolS_lp0_sh a2 (iadd .i64 i3 (1 : Int)) (List.set l4 (Int.toNat i3) (List.getD a2 (Int.toNat i3) false))) K) else none) else none)
    else
    (K (.exit 0) (T_laws_toBoolS_lp0_e0 a2 i3 (decide (i3 < (ilen a2))) l4))) := by kernel_rfl

theorem T_laws_toBoolS_lp0_eq (N : Nat) {R : Type} (a2 : List Bool) (K : Ex → St → Option R) : ∀ (n : Nat) (i3 : Int) (l4 : List Bool), T_laws_toBoolS_lp0_m N n (T_laws_toBoolS_lp0_sh a2 i3 l4) K = T_laws_toBoolS_lp0 N a2 (fun i5 t6 l7 => (K (.exit 0) (T_laws_toBoolS_lp0_e0 a2 i5 t6 l7))) n i3 l4
  | 0, _, _ => rfl
  | n + 1, i3, l4 => by rw [T_laws_toBoolS_lp0_step, T_laws_toBoolS_lp0]; (try simp only [T_laws_toBoolS_lp0_eq N a2 K n])

theorem T_laws_toBoolS_c1 (N : Nat) (a1 : List Bool) (i8 : Int) (t9 : Bool) (l10 : List Bool) :
    ((ctxK (R := ODen (T_laws_toBoolS_sg N).ps × RDen (T_laws_toBoolS_sg N).rs) tab (T_laws_toBoolS_ctx N) T_laws_toBoolS_ann N (theCode Try.f66) [1, 1, 0, 1, 0] (retK tab (T_laws_toBoolS_sg N) Try.f66.results.toList some)) (.exit 0) (T_laws_toBoolS_lp0_e0 a1 i8 t9 l10)) =
    (some (α := ODen (T_laws_toBoolS_sg N).ps × RDen (T_laws_toBoolS_sg N).rs) ((), (l10, ()))) := by kernel_rfl

theorem T_laws_toBoolS_den (N : Nat) (a1 : List Bool) :
    den (R := ODen (T_laws_toBoolS_sg N).ps × RDen (T_laws_toBoolS_sg N).rs) tab (T_laws_toBoolS_ctx N) T_laws_toBoolS_ann N (T_laws_toBoolS_sg N) Try.f66 (a1, ()) some =
    (bif ((decide ((0 : Int) ≤ (ilen a1))) && (decide ((ilen a1) ≤ (ilen a1)))) && (room (Int.toNat (ilen a1))) then
    (T_laws_toBoolS_lp0 N a1
      (fun i8 t9 l10 =>
        (some (α := ODen (T_laws_toBoolS_sg N).ps × RDen (T_laws_toBoolS_sg N).rs) ((), (l10, ()))))
       N (0 : Int) (List.replicate (Int.toNat (ilen a1)) false)) else none) := by
  have h : den (R := ODen (T_laws_toBoolS_sg N).ps × RDen (T_laws_toBoolS_sg N).rs) tab (T_laws_toBoolS_ctx N) T_laws_toBoolS_ann N (T_laws_toBoolS_sg N) Try.f66 (a1, ()) some =
    (bif ((decide ((0 : Int) ≤ (ilen a1))) && (decide ((ilen a1) ≤ (ilen a1)))) && (room (Int.toNat (ilen a1))) then
    (T_laws_toBoolS_lp0_m N N (T_laws_toBoolS_lp0_sh a1 (0 : Int) (List.replicate (Int.toNat (ilen a1)) false)) (ctxK (R := ODen (T_laws_toBoolS_sg N).ps × RDen (T_laws_toBoolS_sg N).rs) tab (T_laws_toBoolS_ctx N) T_laws_toBoolS_ann N (theCode Try.f66) [1, 1, 0, 1, 0] (retK tab (T_laws_toBoolS_sg N) Try.f66.results.toList some))) else none) := by kernel_rfl
  rw [h]
  (try simp only [T_laws_toBoolS_lp0_eq, T_laws_toBoolS_c1]) <;> rfl

theorem T_laws_toBoolS_ok (N : Nat) : chkBody Try.f66 (T_laws_toBoolS_sg N).ps = true := by kernel_rfl

theorem T_laws_toBoolS_callable : Callable Try.prog 66 := callable_of Try.func66 (show chkFn Try.f66 = true by kernel_rfl)

theorem T_laws_toBoolS_good (N : Nat) : Good Try.prog 66 (T_laws_toBoolS_sg N) :=
  good_body mixedOk tabOk ctx_nil Try.func66 (T_laws_toBoolS_ok N) (fun d _ h => ⟨N, (T_laws_toBoolS_den N d.1).trans h⟩)

noncomputable def T_laws_toEpBag_sg (N : Nat) : Sig := Sig.of [.v (.prod (.int .i64) (.int .i64)) true] [.v (.prod (.int .i64) (.int .i64)) true] (fun d => T_laws_toEpBag N d.1)

def T_laws_toEpBag_ann : Nat → List Ghost
  | _ => []

noncomputable def T_laws_toEpBag_ctx (N : Nat) : Ctx := []

theorem T_laws_toEpBag_den (N : Nat) (a1 : Int × Int) :
    den (R := ODen (T_laws_toEpBag_sg N).ps × RDen (T_laws_toEpBag_sg N).rs) tab (T_laws_toEpBag_ctx N) T_laws_toEpBag_ann N (T_laws_toEpBag_sg N) Try.f90 (a1, ()) some =
    (some (α := ODen (T_laws_toEpBag_sg N).ps × RDen (T_laws_toEpBag_sg N).rs) ((), (a1, ()))) := by kernel_rfl

theorem T_laws_toEpBag_ok (N : Nat) : chkBody Try.f90 (T_laws_toEpBag_sg N).ps = true := by kernel_rfl

theorem T_laws_toEpBag_callable : Callable Try.prog 90 := callable_of Try.func90 (show chkFn Try.f90 = true by kernel_rfl)

theorem T_laws_toEpBag_good (N : Nat) : Good Try.prog 90 (T_laws_toEpBag_sg N) :=
  good_body mixedOk tabOk ctx_nil Try.func90 (T_laws_toEpBag_ok N) (fun d _ h => ⟨N, (T_laws_toEpBag_den N d.1).trans h⟩)

noncomputable def T_laws_toEpBagS_sg (N : Nat) : Sig := Sig.of [.v (.slice (.prod (.int .i64) (.int .i64))) false] [.v (.own (.prod (.int .i64) (.int .i64))) false] (fun d => T_laws_toEpBagS N d.1)

def T_laws_toEpBagS_ann : Nat → List Ghost
  | 3 => [.canon [0, 3, 4, 11]]
  | 4 => [.canon [0, 3, 4]]
  | 5 => [.canon [0, 3, 4]]
  | 100003 => [.canon [0, 3, 4]]
  | _ => []

noncomputable def T_laws_toEpBagS_ctx (N : Nat) : Ctx := [(90, T_laws_toEpBag_sg N)]

def T_laws_toEpBagS_lp0_sh (a2 : List (Int × Int)) (i3 : Int) (l4 : List (Int × Int)) : St := { env := [(0, .s (.one (.val (.slice (.prod (.int .i64) (.int .i64))) (a2 : List (Int × Int))))), (3, .s (.one (.own 0))), (4, .s (.one (.val (.int .i64) (i3 : Int))))], objs := [(0, .arr (.prod (.int .i64) (.int .i64)) (l4 : List (Int × Int)))], nx := 1 }

def T_laws_toEpBagS_lp0_e0 (a2 : List (Int × Int)) (i6 : Int) (t7 : Bool) (l8 : List (Int × Int)) : St := { env := [(0, .s (.one (.val (.slice (.prod (.int .i64) (.int .i64))) (a2 : List (Int × Int))))), (3, .s (.one (.own 0))), (4, .s (.one (.val (.int .i64) (i6 : Int)))), (11, .s (.one (.val (.bool) (t7 : Bool))))], objs := [(0, .arr (.prod (.int .i64) (.int .i64)) (l8 : List (Int × Int)))], nx := 1 }

noncomputable def T_laws_toEpBagS_lp0_m (N : Nat) {R : Type} (n : Nat) (st : St) (K : Ex → St → Option R) : Option R := loopN (roundG (T_laws_toEpBagS_ann 100003) fun st k => sx tab (T_laws_toEpBagS_ctx N) T_laws_toEpBagS_ann N (nthLoop Try.f67 0) st k) n st K

theorem T_laws_toEpBagS_lp0_step (N : Nat) {R : Type} (n : Nat) (K : Ex → St → Option R) (a2 : List (Int × Int)) (i3 : Int) (l4 : List (Int × Int)) :
    T_laws_toEpBagS_lp0_m N (n + 1) (T_laws_toEpBagS_lp0_sh a2 i3 l4) K =
    (bif decide (i3 < (ilen a2)) then
    (bif inb i3 (List.length a2) then
      ((T_laws_toEpBag N (List.getD a2 (Int.toNat i3) ((0 : Int), (0 : Int)))).bind fun o9 =>
        (bif inb i3 (List.length l4) then
          (T_laws_toEpBagS_lp0_m N n (T_laws_toEpBagS_lp0_sh a2 (iadd .i64 i3 (1 : Int)) (List.set l4 (Int.toNat i3) o9.2.1)) K) else none)) else none)
    else
    (K (.exit 0) (T_laws_toEpBagS_lp0_e0 a2 i3 (decide (i3 < (ilen a2))) l4))) := by kernel_rfl

theorem T_laws_toEpBagS_lp0_eq (N : Nat) {R : Type} (a2 : List (Int × Int)) (K : Ex → St → Option R) : ∀ (n : Nat) (i3 : Int) (l4 : List (Int × Int)), T_laws_toEpBagS_lp0_m N n (T_laws_toEpBagS_lp0_sh a2 i3 l4) K = T_laws_toEpBagS_lp0 N a2 (fun i6 t7 l8 => (K (.exit 0) (T_laws_toEpBagS_lp0_e0 a2 i6 t7 l8))) n i3 l4
  | 0, _, _ => rfl
  | n + 1, i3, l4 => by rw [T_laws_toEpBagS_lp0_step, T_laws_toEpBagS_lp0]; (try simp only [T_laws_toEpBagS_lp0_eq N a2 K n])

theorem T_laws_toEpBagS_c1 (N : Nat) (a1 : List (Int × Int)) (i10 : Int) (t11 : Bool) (l12 : List (Int × Int)) :
    ((ctxK (R := ODen (T_laws_toEpBagS_sg N).ps × RDen (T_laws_toEpBagS_sg N).rs) tab (T_laws_toEpBagS_ctx N) T_laws_toEpBagS_ann N (theCode Try.f67) [1, 1, 0, 1, 0] (retK tab (T_laws_toEpBagS_sg N) Try.f67.results.toList some)) (.exit 0) (T_laws_toEpBagS_lp0_e0 a1 i10 t11 l12)) =
    (some (α := ODen (T_laws_toEpBagS_sg N).ps × RDen (T_laws_toEpBagS_sg N).rs) ((), (l12, ()))) := by kernel_rfl

theorem T_laws_toEpBagS_den (N : Nat) (a1 : List (Int × Int)) :
    den (R := ODen (T_laws_toEpBagS_sg N).ps × RDen (T_laws_toEpBagS_sg N).rs) tab (T_laws_toEpBagS_ctx N) T_laws_toEpBagS_ann N (T_laws_toEpBagS_sg N) Try.f67 (a1, ()) some =
    (bif ((decide ((0 : Int) ≤ (ilen a1))) && (decide ((ilen a1) ≤ (ilen a1)))) && (room (Int.toNat (ilen a1))) then
    (T_laws_toEpBagS_lp0 N a1
      (fun i10 t11 l12 =>
        (some (α := ODen (T_laws_toEpBagS_sg N).ps × RDen (T_laws_toEpBagS_sg N).rs) ((), (l12, ()))))
       N (0 : Int) (List.replicate (Int.toNat (ilen a1)) ((0 : Int), (0 : Int)))) else none) := by
  have h : den (R := ODen (T_laws_toEpBagS_sg N).ps × RDen (T_laws_toEpBagS_sg N).rs) tab (T_laws_toEpBagS_ctx N) T_laws_toEpBagS_ann N (T_laws_toEpBagS_sg N) Try.f67 (a1, ()) some =
    (bif ((decide ((0 : Int) ≤ (ilen a1))) && (decide ((ilen a1) ≤ (ilen a1)))) && (room (Int.toNat (ilen a1))) then
    (T_laws_toEpBagS_lp0_m N N (T_laws_toEpBagS_lp0_sh a1 (0 : Int) (List.replicate (Int.toNat (ilen a1)) ((0 : Int), (0 : Int)))) (ctxK (R := ODen (T_laws_toEpBagS_sg N).ps × RDen (T_laws_toEpBagS_sg N).rs) tab (T_laws_toEpBagS_ctx N) T_laws_toEpBagS_ann N (theCode Try.f67) [1, 1, 0, 1, 0] (retK tab (T_laws_toEpBagS_sg N) Try.f67.results.toList some))) else none) := by kernel_rfl
  rw [h]
  (try simp only [T_laws_toEpBagS_lp0_eq, T_laws_toEpBagS_c1]) <;> rfl

theorem T_laws_toEpBagS_ok (N : Nat) : chkBody Try.f67 (T_laws_toEpBagS_sg N).ps = true := by kernel_rfl

theorem T_laws_toEpBagS_callable : Callable Try.prog 67 := callable_of Try.func67 (show chkFn Try.f67 = true by kernel_rfl)

theorem T_laws_toEpBagS_good (N : Nat) : Good Try.prog 67 (T_laws_toEpBagS_sg N) :=
  good_body mixedOk tabOk (ctx_cons (T_laws_toEpBag_good N) T_laws_toEpBag_callable ctx_nil) Try.func67 (T_laws_toEpBagS_ok N) (fun d _ h => ⟨N, (T_laws_toEpBagS_den N d.1).trans h⟩)

noncomputable def T_laws_toEpHold_sg (N : Nat) : Sig := Sig.of [.v (.prod (.int .i64) (.int .i64)) true] [.v (.prod (.int .i64) (.int .i64)) true] (fun d => T_laws_toEpHold N d.1)

def T_laws_toEpHold_ann : Nat → List Ghost
  | _ => []

noncomputable def T_laws_toEpHold_ctx (N : Nat) : Ctx := []

theorem T_laws_toEpHold_den (N : Nat) (a1 : Int × Int) :
    den (R := ODen (T_laws_toEpHold_sg N).ps × RDen (T_laws_toEpHold_sg N).rs) tab (T_laws_toEpHold_ctx N) T_laws_toEpHold_ann N (T_laws_toEpHold_sg N) Try.f91 (a1, ()) some =
    (some (α := ODen (T_laws_toEpHold_sg N).ps × RDen (T_laws_toEpHold_sg N).rs) ((), (a1, ()))) := by kernel_rfl

theorem T_laws_toEpHold_ok (N : Nat) : chkBody Try.f91 (T_laws_toEpHold_sg N).ps = true := by kernel_rfl

theorem T_laws_toEpHold_callable : Callable Try.prog 91 := callable_of Try.func91 (show chkFn Try.f91 = true by kernel_rfl)

theorem T_laws_toEpHold_good (N : Nat) : Good Try.prog 91 (T_laws_toEpHold_sg N) :=
  good_body mixedOk tabOk ctx_nil Try.func91 (T_laws_toEpHold_ok N) (fun d _ h => ⟨N, (T_laws_toEpHold_den N d.1).trans h⟩)

noncomputable def T_laws_toEpHoldS_sg (N : Nat) : Sig := Sig.of [.v (.slice (.prod (.int .i64) (.int .i64))) false] [.v (.own (.prod (.int .i64) (.int .i64))) false] (fun d => T_laws_toEpHoldS N d.1)

def T_laws_toEpHoldS_ann : Nat → List Ghost
  | 3 => [.canon [0, 3, 4, 11]]
  | 4 => [.canon [0, 3, 4]]
  | 5 => [.canon [0, 3, 4]]
  | 100003 => [.canon [0, 3, 4]]
  | _ => []

noncomputable def T_laws_toEpHoldS_ctx (N : Nat) : Ctx := [(91, T_laws_toEpHold_sg N)]

def T_laws_toEpHoldS_lp0_sh (a2 : List (Int × Int)) (i3 : Int) (l4 : List (Int × Int)) : St := { env := [(0, .s (.one (.val (.slice (.prod (.int .i64) (.int .i64))) (a2 : List (Int × Int))))), (3, .s (.one (.own 0))), (4, .s (.one (.val (.int .i64) (i3 : Int))))], objs := [(0, .arr (.prod (.int .i64) (.int .i64)) (l4 : List (Int × Int)))], nx := 1 }

def T_laws_toEpHoldS_lp0_e0 (a2 : List (Int × Int)) (i6 : Int) (t7 : Bool) (l8 : List (Int × Int)) : St := { env := [(0, .s (.one (.val (.slice (.prod (.int .i64) (.int .i64))) (a2 : List (Int × Int))))), (3, .s (.one (.own 0))), (4, .s (.one (.val (.int .i64) (i6 : Int)))), (11, .s (.one (.val (.bool) (t7 : Bool))))], objs := [(0, .arr (.prod (.int .i64) (.int .i64)) (l8 : List (Int × Int)))], nx := 1 }

noncomputable def T_laws_toEpHoldS_lp0_m (N : Nat) {R : Type} (n : Nat) (st : St) (K : Ex → St → Option R) : Option R := loopN (roundG (T_laws_toEpHoldS_ann 100003) fun st k => sx tab (T_laws_toEpHoldS_ctx N) T_laws_toEpHoldS_ann N (nthLoop Try.f68 0) st k) n st K

theorem T_laws_toEpHoldS_lp0_step (N : Nat) {R : Type} (n : Nat) (K : Ex → St → Option R) (a2 : List (Int × Int)) (i3 : Int) (l4 : List (Int × Int)) :
    T_laws_toEpHoldS_lp0_m N (n + 1) (T_laws_toEpHoldS_lp0_sh a2 i3 l4) K =
    (bif decide (i3 < (ilen a2)) then
    (bif inb i3 (List.length a2) then
      ((T_laws_toEpHold N (List.getD a2 (Int.toNat i3) ((0 : Int), (0 : Int)))).bind fun o9 =>
        (bif inb i3 (List.length l4) then
          (T_laws_toEpHoldS_lp0_m N n (T_laws_toEpHoldS_lp0_sh a2 (iadd .i64 i3 (1 : Int)) (List.set l4 (Int.toNat i3) o9.2.1)) K) else none)) else none)
    else
    (K (.exit 0) (T_laws_toEpHoldS_lp0_e0 a2 i3 (decide (i3 < (ilen a2))) l4))) := by kernel_rfl

theorem T_laws_toEpHoldS_lp0_eq (N : Nat) {R : Type} (a2 : List (Int × Int)) (K : Ex → St → Option R) : ∀ (n : Nat) (i3 : Int) (l4 : List (Int × Int)), T_laws_toEpHoldS_lp0_m N n (T_laws_toEpHoldS_lp0_sh a2 i3 l4) K = T_laws_toEpHoldS_lp0 N a2 (fun i6 t7 l8 => (K (.exit 0) (T_laws_toEpHoldS_lp0_e0 a2 i6 t7 l8))) n i3 l4
  | 0, _, _ => rfl
  | n + 1, i3, l4 => by rw [T_laws_toEpHoldS_lp0_step, T_laws_toEpHoldS_lp0]; (try simp only [T_laws_toEpHoldS_lp0_eq N a2 K n])

theorem T_laws_toEpHoldS_c1 (N : Nat) (a1 : List (Int × Int)) (i10 : Int) (t11 : Bool) (l12 : List (Int × Int)) :
    ((ctxK (R := ODen (T_laws_toEpHoldS_sg N).ps × RDen (T_laws_toEpHoldS_sg N).rs) tab (T_laws_toEpHoldS_ctx N) T_laws_toEpHoldS_ann N (theCode Try.f68) [1, 1, 0, 1, 0] (retK tab (T_laws_toEpHoldS_sg N) Try.f68.results.toList some)) (.exit 0) (T_laws_toEpHoldS_lp0_e0 a1 i10 t11 l12)) =
    (some (α := ODen (T_laws_toEpHoldS_sg N).ps × RDen (T_laws_toEpHoldS_sg N).rs) ((), (l12, ()))) := by kernel_rfl

theorem T_laws_toEpHoldS_den (N : Nat) (a1 : List (Int × Int)) :
    den (R := ODen (T_laws_toEpHoldS_sg N).ps × RDen (T_laws_toEpHoldS_sg N).rs) tab (T_laws_toEpHoldS_ctx N) T_laws_toEpHoldS_ann N (T_laws_toEpHoldS_sg N) Try.f68 (a1, ()) some =
    (bif ((decide ((0 : Int) ≤ (ilen a1))) && (decide ((ilen a1) ≤ (ilen a1)))) && (room (Int.toNat (ilen a1))) then
    (T_laws_toEpHoldS_lp0 N a1
      (fun i10 t11 l12 =>
        (some (α := ODen (T_laws_toEpHoldS_sg N).ps × RDen (T_laws_toEpHoldS_sg N).rs) ((), (l12, ()))))
       N (0 : Int) (List.replicate (Int.toNat (ilen a1)) ((0 : Int), (0 : Int)))) else none) := by
  have h : den (R := ODen (T_laws_toEpHoldS_sg N).ps × RDen (T_laws_toEpHoldS_sg N).rs) tab (T_laws_toEpHoldS_ctx N) T_laws_toEpHoldS_ann N (T_laws_toEpHoldS_sg N) Try.f68 (a1, ()) some =
    (bif ((decide ((0 : Int) ≤ (ilen a1))) && (decide ((ilen a1) ≤ (ilen a1)))) && (room (Int.toNat (ilen a1))) then
    (T_laws_toEpHoldS_lp0_m N N (T_laws_toEpHoldS_lp0_sh a1 (0 : Int) (List.replicate (Int.toNat (ilen a1)) ((0 : Int), (0 : Int)))) (ctxK (R := ODen (T_laws_toEpHoldS_sg N).ps × RDen (T_laws_toEpHoldS_sg N).rs) tab (T_laws_toEpHoldS_ctx N) T_laws_toEpHoldS_ann N (theCode Try.f68) [1, 1, 0, 1, 0] (retK tab (T_laws_toEpHoldS_sg N) Try.f68.results.toList some))) else none) := by kernel_rfl
  rw [h]
  (try simp only [T_laws_toEpHoldS_lp0_eq, T_laws_toEpHoldS_c1]) <;> rfl

theorem T_laws_toEpHoldS_ok (N : Nat) : chkBody Try.f68 (T_laws_toEpHoldS_sg N).ps = true := by kernel_rfl

theorem T_laws_toEpHoldS_callable : Callable Try.prog 68 := callable_of Try.func68 (show chkFn Try.f68 = true by kernel_rfl)

theorem T_laws_toEpHoldS_good (N : Nat) : Good Try.prog 68 (T_laws_toEpHoldS_sg N) :=
  good_body mixedOk tabOk (ctx_cons (T_laws_toEpHold_good N) T_laws_toEpHold_callable ctx_nil) Try.func68 (T_laws_toEpHoldS_ok N) (fun d _ h => ⟨N, (T_laws_toEpHoldS_den N d.1).trans h⟩)

noncomputable def T_laws_toEpochs_sg (N : Nat) : Sig := Sig.of [.v (.prod (.int .i64) (.prod (.slice (.int .i64)) (.prod (.slice (.bool)) (.prod (.slice (.prod (.int .i64) (.int .i64))) (.prod (.slice (.prod (.int .i64) (.int .i64))) (.slice (.int .i64))))))) true] [.v (.prod (.int .i64) (.prod (.own (.int .i64)) (.prod (.own (.bool)) (.prod (.own (.prod (.int .i64) (.int .i64))) (.prod (.own (.prod (.int .i64) (.int .i64))) (.own (.int .i64))))))) true] (fun d => T_laws_toEpochs N d.1)

def T_laws_toEpochs_ann : Nat → List Ghost
  | _ => []

noncomputable def T_laws_toEpochs_ctx (N : Nat) : Ctx := [(11, T_laws_toIntS_sg N), (66, T_laws_toBoolS_sg N), (67, T_laws_toEpBagS_sg N), (68, T_laws_toEpHoldS_sg N)]

theorem T_laws_toEpochs_den (N : Nat) (a1 : Int × List Int × List Bool × List (Int × Int) × List (Int × Int) × List Int) :
    den (R := ODen (T_laws_toEpochs_sg N).ps × RDen (T_laws_toEpochs_sg N).rs) tab (T_laws_toEpochs_ctx N) T_laws_toEpochs_ann N (T_laws_toEpochs_sg N) Try.f31 (a1, ()) some =
    ((T_laws_toIntS N a1.2.1).bind fun o2 =>
    ((T_laws_toBoolS N a1.2.2.1).bind fun o3 =>
      ((T_laws_toEpBagS N a1.2.2.2.1).bind fun o4 =>
        ((T_laws_toEpHoldS N a1.2.2.2.2.1).bind fun o5 =>
          ((T_laws_toIntS N a1.2.2.2.2.2).bind fun o6 =>
            (some (α := ODen (T_laws_toEpochs_sg N).ps × RDen (T_laws_toEpochs_sg N).rs) ((), ((a1.1, (o2.2.1, (o3.2.1, (o4.2.1, (o5.2.1, o6.2.1))))), ())))))))) := by kernel_rfl

theorem T_laws_toEpochs_ok (N : Nat) : chkBody Try.f31 (T_laws_toEpochs_sg N).ps = true := by kernel_rfl

theorem T_laws_toEpochs_callable : Callable Try.prog 31 := callable_of Try.func31 (show chkFn Try.f31 = true by kernel_rfl)

theorem T_laws_toEpochs_good (N : Nat) : Good Try.prog 31 (T_laws_toEpochs_sg N) :=
  good_body mixedOk tabOk (ctx_cons (T_laws_toIntS_good N) T_laws_toIntS_callable (ctx_cons (T_laws_toBoolS_good N) T_laws_toBoolS_callable (ctx_cons (T_laws_toEpBagS_good N) T_laws_toEpBagS_callable (ctx_cons (T_laws_toEpHoldS_good N) T_laws_toEpHoldS_callable ctx_nil)))) Try.func31 (T_laws_toEpochs_ok N) (fun d _ h => ⟨N, (T_laws_toEpochs_den N d.1).trans h⟩)

noncomputable def T_spec_l1In_sg (N : Nat) : Sig := Sig.of [.v (.int .i64) false, .v (.int .i64) false, .v (.int .i64) false] [.v (.bool) false] (fun d => T_spec_l1In N d.1 d.2.1 d.2.2.1)

def T_spec_l1In_ann : Nat → List Ghost
  | _ => []

noncomputable def T_spec_l1In_ctx (N : Nat) : Ctx := []

theorem T_spec_l1In_den (N : Nat) (x1 : Int) (low2 : Int) (high3 : Int) :
    den (R := ODen (T_spec_l1In_sg N).ps × RDen (T_spec_l1In_sg N).rs) tab (T_spec_l1In_ctx N) T_spec_l1In_ann N (T_spec_l1In_sg N) Try.f82 (x1, low2, high3, ()) some =
    (bif decide (x1 ≥ low2) then
    (some (α := ODen (T_spec_l1In_sg N).ps × RDen (T_spec_l1In_sg N).rs) ((), (decide (x1 ≤ high3), ())))
    else
    (some (α := ODen (T_spec_l1In_sg N).ps × RDen (T_spec_l1In_sg N).rs) ((), (false, ())))) := by kernel_rfl

theorem T_spec_l1In_ok (N : Nat) : chkBody Try.f82 (T_spec_l1In_sg N).ps = true := by kernel_rfl

theorem T_spec_l1In_callable : Callable Try.prog 82 := callable_of Try.func82 (show chkFn Try.f82 = true by kernel_rfl)

theorem T_spec_l1In_good (N : Nat) : Good Try.prog 82 (T_spec_l1In_sg N) :=
  good_body mixedOk tabOk ctx_nil Try.func82 (T_spec_l1In_ok N) (fun d _ h => ⟨N, (T_spec_l1In_den N d.1 d.2.1 d.2.2.1).trans h⟩)

noncomputable def T_spec_EpochOk_sg (N : Nat) : Sig := Sig.of [.v (.prod (.int .i64) (.prod (.slice (.int .i64)) (.prod (.slice (.bool)) (.prod (.slice (.prod (.int .i64) (.int .i64))) (.prod (.slice (.prod (.int .i64) (.int .i64))) (.slice (.int .i64))))))) true] [.v (.bool) false] (fun d => T_spec_EpochOk N d.1)

def T_spec_EpochOk_ann : Nat → List Ghost
  | 4 => [.canon [1, 3, 31]]
  | 5 => [.canon [1, 3]]
  | 6 => [.canon [1, 3, 53]]
  | 7 => [.canon [2]]
  | 10 => [.canon [1, 4, 5, 56]]
  | 11 => [.canon [1, 4, 5]]
  | 12 => [.canon [1, 4, 5, 63]]
  | 13 => [.canon [1, 4, 5]]
  | 15 => [.canon [1, 4, 6, 71]]
  | 16 => [.canon [1, 4, 6]]
  | 17 => [.canon [1, 4, 6, 96]]
  | 18 => [.canon [2]]
  | 19 => [.canon [1, 4, 6]]
  | 21 => [.canon [1, 4, 7, 119]]
  | 22 => [.canon [1, 4, 7]]
  | 23 => [.canon [1, 4, 7, 128]]
  | 24 => [.canon [2]]
  | 25 => [.canon [1, 4, 7]]
  | 27 => [.canon [1, 4, 8, 146]]
  | 28 => [.canon [1, 4, 8]]
  | 29 => [.canon [1, 4, 8, 153]]
  | 30 => [.canon [2]]
  | 32 => [.canon [1, 9, 158]]
  | 33 => [.canon [1, 9]]
  | 34 => [.canon [1, 9, 10]]
  | 35 => [.canon [1, 9, 184]]
  | 36 => [.canon [2]]
  | 100004 => [.canon [1, 3]]
  | 100010 => [.canon [1, 4, 5]]
  | 100015 => [.canon [1, 4, 6]]
  | 100021 => [.canon [1, 4, 7]]
  | 100027 => [.canon [1, 4, 8]]
  | 100032 => [.canon [1, 9]]
  | _ => []

noncomputable def T_spec_EpochOk_ctx (N : Nat) : Ctx := [(82, T_spec_l1In_sg N)]

def T_spec_EpochOk_lp0_sh (i3 : Int) (b4 : Int × List Int × List Bool × List (Int × Int) × List (Int × Int) × List Int) : St := { env := [(1, .s (.one (.ptr 0 0))), (3, .s (.one (.val (.int .i64) (i3 : Int))))], objs := [(0, .box [.val (.int .i64) (b4.1 : Int), .val (.slice (.int .i64)) (b4.2.1 : List Int), .val (.slice (.bool)) (b4.2.2.1 : List Bool), .val (.slice (.prod (.int .i64) (.int .i64))) (b4.2.2.2.1 : List (Int × Int)), .val (.slice (.prod (.int .i64) (.int .i64))) (b4.2.2.2.2.1 : List (Int × Int)), .val (.slice (.int .i64)) (b4.2.2.2.2.2 : List Int)])], nx := 1 }

def T_spec_EpochOk_lp0_e0 (b4 : Int × List Int × List Bool × List (Int × Int) × List (Int × Int) × List Int) : St := { env := [(2, .s (.one (.val (.bool) (false : Bool))))], objs := [], nx := 0 }

def T_spec_EpochOk_lp0_e1 (b4 : Int × List Int × List Bool × List (Int × Int) × List (Int × Int) × List Int) (i6 : Int) (t7 : Bool) : St := { env := [(1, .s (.one (.ptr 0 0))), (3, .s (.one (.val (.int .i64) (i6 : Int)))), (31, .s (.one (.val (.bool) (t7 : Bool))))], objs := [(0, .box [.val (.int .i64) (b4.1 : Int), .val (.slice (.int .i64)) (b4.2.1 : List Int), .val (.slice (.bool)) (b4.2.2.1 : List Bool), .val (.slice (.prod (.int .i64) (.int .i64))) (b4.2.2.2.1 : List (Int × Int)), .val (.slice (.prod (.int .i64) (.int .i64))) (b4.2.2.2.2.1 : List (Int × Int)), .val (.slice (.int .i64)) (b4.2.2.2.2.2 : List Int)])], nx := 1 }

noncomputable def T_spec_EpochOk_lp0_m (N : Nat) {R : Type} (n : Nat) (st : St) (K : Ex → St → Option R) : Option R := loopN (roundG (T_spec_EpochOk_ann 100004) fun st k => sx tab (T_spec_EpochOk_ctx N) T_spec_EpochOk_ann N (nthLoop Try.f41 0) st k) n st K

theorem T_spec_EpochOk_lp0_step (N : Nat) {R : Type} (n : Nat) (K : Ex → St → Option R) (i3 : Int) (b4 : Int × List Int × List Bool × List (Int × Int) × List (Int × Int) × List Int) :
    T_spec_EpochOk_lp0_m N (n + 1) (T_spec_EpochOk_lp0_sh i3 b4) K =
    (bif decide (i3 < (ilen b4.2.1)) then
    (bif inb i3 (List.length b4.2.1) then
      (bif (List.getD b4.2.1 (Int.toNat i3) (0 : Int)) != (-1 : Int) then
        (bif inb i3 (List.length b4.2.1) then
          ((T_spec_l1In N (List.getD b4.2.1 (Int.toNat i3) (0 : Int)) (isub .i64 b4.1 (1 : Int)) b4.1).bind fun o8 =>
            (bif !o8.2.1 then
              (K .ret (T_spec_EpochOk_lp0_e0 b4))
              else
              (T_spec_EpochOk_lp0_m N n (T_spec_EpochOk_lp0_sh (iadd .i64 i3 (1 : Int)) b4) K))) else none)
        else
        (T_spec_EpochOk_lp0_m N n (T_spec_EpochOk_lp0_sh (iadd .i64 i3 (1 : Int)) b4) K)) else none)
    else
    (K (.exit 0) (T_spec_EpochOk_lp0_e1 b4 i3 (decide (i3 < (ilen b4.2.1)))))) := by kernel_rfl

theorem T_spec_EpochOk_lp0_eq (N : Nat) {R : Type} (b4 : Int × List Int × List Bool × List (Int × Int) × List (Int × Int) × List Int) (K : Ex → St → Option R) : ∀ (n : Nat) (i3 : Int), T_spec_EpochOk_lp0_m N n (T_spec_EpochOk_lp0_sh i3 b4) K = T_spec_EpochOk_lp0 N b4 (K .ret (T_spec_EpochOk_lp0_e0 b4)) (fun i6 t7 => (K (.exit 0) (T_spec_EpochOk_lp0_e1 b4 i6 t7))) n i3
  | 0, _ => rfl
  | n + 1, i3 => by rw [T_spec_EpochOk_lp0_step, T_spec_EpochOk_lp0]; (try simp only [T_spec_EpochOk_lp0_eq N b4 K n])

def T_spec_EpochOk_lp1_sh (i11 : Int) (b12 : Int × List Int × List Bool × List (Int × Int) × List (Int × Int) × List Int) (l13 : List Int) : St := { env := [(1, .s (.one (.ptr 0 0))), (4, .s (.one (.own 1))), (5, .s (.one (.val (.int .i64) (i11 : Int))))], objs := [(0, .box [.val (.int .i64) (b12.1 : Int), .val (.slice (.int .i64)) (b12.2.1 : List Int), .val (.slice (.bool)) (b12.2.2.1 : List Bool), .val (.slice (.prod (.int .i64) (.int .i64))) (b12.2.2.2.1 : List (Int × Int)), .val (.slice (.prod (.int .i64) (.int .i64))) (b12.2.2.2.2.1 : List (Int × Int)), .val (.slice (.int .i64)) (b12.2.2.2.2.2 : List Int)]), (1, .arr (.int .i64) (l13 : List Int))], nx := 2 }

def T_spec_EpochOk_lp1_e0 (b12 : Int × List Int × List Bool × List (Int × Int) × List (Int × Int) × List Int) (i14 : Int) (t15 : Bool) (l16 : List Int) : St := { env := [(1, .s (.one (.ptr 0 0))), (4, .s (.one (.own 1))), (5, .s (.one (.val (.int .i64) (i14 : Int)))), (56, .s (.one (.val (.bool) (t15 : Bool))))], objs := [(0, .box [.val (.int .i64) (b12.1 : Int), .val (.slice (.int .i64)) (b12.2.1 : List Int), .val (.slice (.bool)) (b12.2.2.1 : List Bool), .val (.slice (.prod (.int .i64) (.int .i64))) (b12.2.2.2.1 : List (Int × Int)), .val (.slice (.prod (.int .i64) (.int .i64))) (b12.2.2.2.2.1 : List (Int × Int)), .val (.slice (.int .i64)) (b12.2.2.2.2.2 : List Int)]), (1, .arr (.int .i64) (l16 : List Int))], nx := 2 }

noncomputable def T_spec_EpochOk_lp1_m (N : Nat) {R : Type} (n : Nat) (st : St) (K : Ex → St → Option R) : Option R := loopN (roundG (T_spec_EpochOk_ann 100010) fun st k => sx tab (T_spec_EpochOk_ctx N) T_spec_EpochOk_ann N (nthLoop Try.f41 1) st k) n st K

theorem T_spec_EpochOk_lp1_step (N : Nat) {R : Type} (n : Nat) (K : Ex → St → Option R) (i11 : Int) (b12 : Int × List Int × List Bool × List (Int × Int) × List (Int × Int) × List Int) (l13 : List Int) :
    T_spec_EpochOk_lp1_m N (n + 1) (T_spec_EpochOk_lp1_sh i11 b12 l13) K =
    (bif decide (i11 < (10 : Int)) then
    (bif inb i11 (List.length b12.2.2.1) then
      (bif List.getD b12.2.2.1 (Int.toNat i11) false then
        (bif inb i11 (List.length l13) then
          (T_spec_EpochOk_lp1_m N n (T_spec_EpochOk_lp1_sh (iadd .i64 i11 (1 : Int)) b12 (List.set l13 (Int.toNat i11) (1 : Int))) K) else none)
        else
        (T_spec_EpochOk_lp1_m N n (T_spec_EpochOk_lp1_sh (iadd .i64 i11 (1 : Int)) b12 l13) K)) else none)
    else
    (K (.exit 2) (T_spec_EpochOk_lp1_e0 b12 i11 (decide (i11 < (10 : Int))) l13))) := by kernel_rfl

theorem T_spec_EpochOk_lp1_eq (N : Nat) {R : Type} (b12 : Int × List Int × List Bool × List (Int × Int) × List (Int × Int) × List Int) (K : Ex → St → Option R) : ∀ (n : Nat) (i11 : Int) (l13 : List Int), T_spec_EpochOk_lp1_m N n (T_spec_EpochOk_lp1_sh i11 b12 l13) K = T_spec_EpochOk_lp1 N b12 (fun i14 t15 l16 => (K (.exit 2) (T_spec_EpochOk_lp1_e0 b12 i14 t15 l16))) n i11 l13
  | 0, _, _ => rfl
  | n + 1, i11, l13 => by rw [T_spec_EpochOk_lp1_step, T_spec_EpochOk_lp1]; (try simp only [T_spec_EpochOk_lp1_eq N b12 K n])

def T_spec_EpochOk_lp2_sh (i20 : Int) (b21 : Int × List Int × List Bool × List (Int × Int) × List (Int × Int) × List Int) (l22 : List Int) : St := { env := [(1, .s (.one (.ptr 0 0))), (4, .s (.one (.own 1))), (6, .s (.one (.val (.int .i64) (i20 : Int))))], objs := [(0, .box [.val (.int .i64) (b21.1 : Int), .val (.slice (.int .i64)) (b21.2.1 : List Int), .val (.slice (.bool)) (b21.2.2.1 : List Bool), .val (.slice (.prod (.int .i64) (.int .i64))) (b21.2.2.2.1 : List (Int × Int)), .val (.slice (.prod (.int .i64) (.int .i64))) (b21.2.2.2.2.1 : List (Int × Int)), .val (.slice (.int .i64)) (b21.2.2.2.2.2 : List Int)]), (1, .arr (.int .i64) (l22 : List Int))], nx := 2 }

def T_spec_EpochOk_lp2_e0 (b21 : Int × List Int × List Bool × List (Int × Int) × List (Int × Int) × List Int) : St := { env := [(2, .s (.one (.val (.bool) (false : Bool))))], objs := [], nx := 0 }

def T_spec_EpochOk_lp2_e1 (b21 : Int × List Int × List Bool × List (Int × Int) × List (Int × Int) × List Int) (i25 : Int) (t26 : Bool) (l27 : List Int) : St := { env := [(1, .s (.one (.ptr 0 0))), (4, .s (.one (.own 1))), (6, .s (.one (.val (.int .i64) (i25 : Int)))), (71, .s (.one (.val (.bool) (t26 : Bool))))], objs := [(0, .box [.val (.int .i64) (b21.1 : Int), .val (.slice (.int .i64)) (b21.2.1 : List Int), .val (.slice (.bool)) (b21.2.2.1 : List Bool), .val (.slice (.prod (.int .i64) (.int .i64))) (b21.2.2.2.1 : List (Int × Int)), .val (.slice (.prod (.int .i64) (.int .i64))) (b21.2.2.2.2.1 : List (Int × Int)), .val (.slice (.int .i64)) (b21.2.2.2.2.2 : List Int)]), (1, .arr (.int .i64) (l27 : List Int))], nx := 2 }

noncomputable def T_spec_EpochOk_lp2_m (N : Nat) {R : Type} (n : Nat) (st : St) (K : Ex → St → Option R) : Option R := loopN (roundG (T_spec_EpochOk_ann 100015) fun st k => sx tab (T_spec_EpochOk_ctx N) T_spec_EpochOk_ann N (nthLoop Try.f41 2) st k) n st K

theorem T_spec_EpochOk_lp2_step (N : Nat) {R : Type} (n : Nat) (K : Ex → St → Option R) (i20 : Int) (b21 : Int × List Int × List Bool × List (Int × Int) × List (Int × Int) × List Int) (l22 : List Int) :
    T_spec_EpochOk_lp2_m N (n + 1) (T_spec_EpochOk_lp2_sh i20 b21 l22) K =
    (bif decide (i20 < (ilen b21.2.2.2.1)) then
    (bif inb i20 (List.length b21.2.2.2.1) then
      ((T_spec_l1In N (List.getD b21.2.2.2.1 (Int.toNat i20) ((0 : Int), (0 : Int))).1 (0 : Int) (9 : Int)).bind fun o28 =>
        (bif !o28.2.1 then
          (K .ret (T_spec_EpochOk_lp2_e0 b21))
          else
          (bif inb i20 (List.length b21.2.2.2.1) then
            ((T_spec_l1In N (List.getD b21.2.2.2.1 (Int.toNat i20) ((0 : Int), (0 : Int))).2 (isub .i64 b21.1 (1 : Int)) b21.1).bind fun o29 =>
              (bif !o29.2.1 then
                (K .ret (T_spec_EpochOk_lp2_e0 b21))
                else
                (bif inb i20 (List.length b21.2.2.2.1) then
                  (bif inb i20 (List.length b21.2.2.2.1) then
                    (bif inb (List.getD b21.2.2.2.1 (Int.toNat i20) ((0 : Int), (0 : Int))).1 (List.length l22) then
                      (bif inb (List.getD b21.2.2.2.1 (Int.toNat i20) ((0 : Int), (0 : Int))).1 (List.length l22) then
                        (T_spec_EpochOk_lp2_m N n (T_spec_EpochOk_lp2_sh (iadd .i64 i20 (1 : Int)) b21 (List.set l22 (Int.toNat (List.getD b21.2.2.2.1 (Int.toNat i20) ((0 : Int), (0 : Int))).1) (iadd .i64 (List.getD l22 (Int.toNat (List.getD b21.2.2.2.1 (Int.toNat i20) ((0 : Int), (0 : Int))).1) (0 : Int)) (1 : Int)))) K) else none) else none) else none) else none))) else none))) else none)
    else
    (K (.exit 4) (T_spec_EpochOk_lp2_e1 b21 i20 (decide (i20 < (ilen b21.2.2.2.1))) l22))) := by kernel_rfl

theorem T_spec_EpochOk_lp2_eq (N : Nat) {R : Type} (b21 : Int × List Int × List Bool × List (Int × Int) × List (Int × Int) × List Int) (K : Ex → St → Option R) : ∀ (n : Nat) (i20 : Int) (l22 : List Int), T_spec_EpochOk_lp2_m N n (T_spec_EpochOk_lp2_sh i20 b21 l22) K = T_spec_EpochOk_lp2 N b21 (K .ret (T_spec_EpochOk_lp2_e0 b21)) (fun i25 t26 l27 => (K (.exit 4) (T_spec_EpochOk_lp2_e1 b21 i25 t26 l27))) n i20 l22
  | 0, _, _ => rfl
  | n + 1, i20, l22 => by rw [T_spec_EpochOk_lp2_step, T_spec_EpochOk_lp2]; (try simp only [T_spec_EpochOk_lp2_eq N b21 K n])

def T_spec_EpochOk_lp3_sh (i33 : Int) (b34 : Int × List Int × List Bool × List (Int × Int) × List (Int × Int) × List Int) (l35 : List Int) : St := { env := [(1, .s (.one (.ptr 0 0))), (4, .s (.one (.own 1))), (7, .s (.one (.val (.int .i64) (i33 : Int))))], objs := [(0, .box [.val (.int .i64) (b34.1 : Int), .val (.slice (.int .i64)) (b34.2.1 : List Int), .val (.slice (.bool)) (b34.2.2.1 : List Bool), .val (.slice (.prod (.int .i64) (.int .i64))) (b34.2.2.2.1 : List (Int × Int)), .val (.slice (.prod (.int .i64) (.int .i64))) (b34.2.2.2.2.1 : List (Int × Int)), .val (.slice (.int .i64)) (b34.2.2.2.2.2 : List Int)]), (1, .arr (.int .i64) (l35 : List Int))], nx := 2 }

def T_spec_EpochOk_lp3_e0 (b34 : Int × List Int × List Bool × List (Int × Int) × List (Int × Int) × List Int) : St := { env := [(2, .s (.one (.val (.bool) (false : Bool))))], objs := [], nx := 0 }

def T_spec_EpochOk_lp3_e1 (b34 : Int × List Int × List Bool × List (Int × Int) × List (Int × Int) × List Int) (i37 : Int) (t38 : Bool) (l39 : List Int) : St := { env := [(1, .s (.one (.ptr 0 0))), (4, .s (.one (.own 1))), (7, .s (.one (.val (.int .i64) (i37 : Int)))), (119, .s (.one (.val (.bool) (t38 : Bool))))], objs := [(0, .box [.val (.int .i64) (b34.1 : Int), .val (.slice (.int .i64)) (b34.2.1 : List Int), .val (.slice (.bool)) (b34.2.2.1 : List Bool), .val (.slice (.prod (.int .i64) (.int .i64))) (b34.2.2.2.1 : List (Int × Int)), .val (.slice (.prod (.int .i64) (.int .i64))) (b34.2.2.2.2.1 : List (Int × Int)), .val (.slice (.int .i64)) (b34.2.2.2.2.2 : List Int)]), (1, .arr (.int .i64) (l39 : List Int))], nx := 2 }

noncomputable def T_spec_EpochOk_lp3_m (N : Nat) {R : Type} (n : Nat) (st : St) (K : Ex → St → Option R) : Option R := loopN (roundG (T_spec_EpochOk_ann 100021) fun st k => sx tab (T_spec_EpochOk_ctx N) T_spec_EpochOk_ann N (nthLoop Try.f41 3) st k) n st K

theorem T_spec_EpochOk_lp3_step (N : Nat) {R : Type} (n : Nat) (K : Ex → St → Option R) (i33 : Int) (b34 : Int × List Int × List Bool × List (Int × Int) × List (Int × Int) × List Int) (l35 : List Int) :
    T_spec_EpochOk_lp3_m N (n + 1) (T_spec_EpochOk_lp3_sh i33 b34 l35) K =
    (bif decide (i33 < (ilen b34.2.2.2.2.2)) then
    (bif inb i33 (List.length b34.2.2.2.2.2) then
      ((T_spec_l1In N (List.getD b34.2.2.2.2.2 (Int.toNat i33) (0 : Int)) (0 : Int) (9 : Int)).bind fun o40 =>
        (bif !o40.2.1 then
          (K .ret (T_spec_EpochOk_lp3_e0 b34))
          else
          (bif inb i33 (List.length b34.2.2.2.2.2) then
            (bif inb i33 (List.length b34.2.2.2.2.2) then
              (bif inb (List.getD b34.2.2.2.2.2 (Int.toNat i33) (0 : Int)) (List.length l35) then
                (bif inb (List.getD b34.2.2.2.2.2 (Int.toNat i33) (0 : Int)) (List.length l35) then
                  (T_spec_EpochOk_lp3_m N n (T_spec_EpochOk_lp3_sh (iadd .i64 i33 (1 : Int)) b34 (List.set l35 (Int.toNat (List.getD b34.2.2.2.2.2 (Int.toNat i33) (0 : Int))) (iadd .i64 (List.getD l35 (Int.toNat (List.getD b34.2.2.2.2.2 (Int.toNat i33) (0 : Int))) (0 : Int)) (1 : Int)))) K) else none) else none) else none) else none))) else none)
    else
    (K (.exit 6) (T_spec_EpochOk_lp3_e1 b34 i33 (decide (i33 < (ilen b34.2.2.2.2.2))) l35))) := by kernel_rfl

theorem T_spec_EpochOk_lp3_eq (N : Nat) {R : Type} (b34 : Int × List Int × List Bool × List (Int × Int) × List (Int × Int) × List Int) (K : Ex → St → Option R) : ∀ (n : Nat) (i33 : Int) (l35 : List Int), T_spec_EpochOk_lp3_m N n (T_spec_EpochOk_lp3_sh i33 b34 l35) K = T_spec_EpochOk_lp3 N b34 (K .ret (T_spec_EpochOk_lp3_e0 b34)) (fun i37 t38 l39 => (K (.exit 6) (T_spec_EpochOk_lp3_e1 b34 i37 t38 l39))) n i33 l35
  | 0, _, _ => rfl
  | n + 1, i33, l35 => by rw [T_spec_EpochOk_lp3_step, T_spec_EpochOk_lp3]; (try simp only [T_spec_EpochOk_lp3_eq N b34 K n])

def T_spec_EpochOk_lp4_sh (i44 : Int) (b45 : Int × List Int × List Bool × List (Int × Int) × List (Int × Int) × List Int) (l46 : List Int) : St := { env := [(1, .s (.one (.ptr 0 0))), (4, .s (.one (.own 1))), (8, .s (.one (.val (.int .i64) (i44 : Int))))], objs := [(0, .box [.val (.int .i64) (b45.1 : Int), .val (.slice (.int .i64)) (b45.2.1 : List Int), .val (.slice (.bool)) (b45.2.2.1 : List Bool), .val (.slice (.prod (.int .i64) (.int .i64))) (b45.2.2.2.1 : List (Int × Int)), .val (.slice (.prod (.int .i64) (.int .i64))) (b45.2.2.2.2.1 : List (Int × Int)), .val (.slice (.int .i64)) (b45.2.2.2.2.2 : List Int)]), (1, .arr (.int .i64) (l46 : List Int))], nx := 2 }

def T_spec_EpochOk_lp4_e0 (b45 : Int × List Int × List Bool × List (Int × Int) × List (Int × Int) × List Int) (l46 : List Int) : St := { env := [(2, .s (.one (.val (.bool) (false : Bool))))], objs := [], nx := 0 }

def T_spec_EpochOk_lp4_e1 (b45 : Int × List Int × List Bool × List (Int × Int) × List (Int × Int) × List Int) (l46 : List Int) (i47 : Int) (t48 : Bool) : St := { env := [(1, .s (.one (.ptr 0 0))), (4, .s (.one (.own 1))), (8, .s (.one (.val (.int .i64) (i47 : Int)))), (146, .s (.one (.val (.bool) (t48 : Bool))))], objs := [(0, .box [.val (.int .i64) (b45.1 : Int), .val (.slice (.int .i64)) (b45.2.1 : List Int), .val (.slice (.bool)) (b45.2.2.1 : List Bool), .val (.slice (.prod (.int .i64) (.int .i64))) (b45.2.2.2.1 : List (Int × Int)), .val (.slice (.prod (.int .i64) (.int .i64))) (b45.2.2.2.2.1 : List (Int × Int)), .val (.slice (.int .i64)) (b45.2.2.2.2.2 : List Int)]), (1, .arr (.int .i64) (l46 : List Int))], nx := 2 }

noncomputable def T_spec_EpochOk_lp4_m (N : Nat) {R : Type} (n : Nat) (st : St) (K : Ex → St → Option R) : Option R := loopN (roundG (T_spec_EpochOk_ann 100027) fun st k => sx tab (T_spec_EpochOk_ctx N) T_spec_EpochOk_ann N (nthLoop Try.f41 4) st k) n st K

theorem T_spec_EpochOk_lp4_step (N : Nat) {R : Type} (n : Nat) (K : Ex → St → Option R) (i44 : Int) (b45 : Int × List Int × List Bool × List (Int × Int) × List (Int × Int) × List Int) (l46 : List Int) :
    T_spec_EpochOk_lp4_m N (n + 1) (T_spec_EpochOk_lp4_sh i44 b45 l46) K =
    (bif decide (i44 < (10 : Int)) then
    (bif inb i44 (List.length l46) then
      (bif (List.getD l46 (Int.toNat i44) (0 : Int)) != (1 : Int) then
        (K .ret (T_spec_EpochOk_lp4_e0 b45 l46))
        else
        (T_spec_EpochOk_lp4_m N n (T_spec_EpochOk_lp4_sh (iadd .i64 i44 (1 : Int)) b45 l46) K)) else none)
    else
    (K (.exit 8) (T_spec_EpochOk_lp4_e1 b45 l46 i44 (decide (i44 < (10 : Int)))))) := by kernel_rfl

theorem T_spec_EpochOk_lp4_eq (N : Nat) {R : Type} (b45 : Int × List Int × List Bool × List (Int × Int) × List (Int × Int) × List Int) (l46 : List Int) (K : Ex → St → Option R) : ∀ (n : Nat) (i44 : Int), T_spec_EpochOk_lp4_m N n (T_spec_EpochOk_lp4_sh i44 b45 l46) K = T_spec_EpochOk_lp4 N b45 l46 (K .ret (T_spec_EpochOk_lp4_e0 b45 l46)) (fun i47 t48 => (K (.exit 8) (T_spec_EpochOk_lp4_e1 b45 l46 i47 t48))) n i44
  | 0, _ => rfl
  | n + 1, i44 => by rw [T_spec_EpochOk_lp4_step, T_spec_EpochOk_lp4]; (try simp only [T_spec_EpochOk_lp4_eq N b45 l46 K n])

def T_spec_EpochOk_lp5_sh (i51 : Int) (b52 : Int × List Int × List Bool × List (Int × Int) × List (Int × Int) × List Int) : St := { env := [(1, .s (.one (.ptr 0 0))), (9, .s (.one (.val (.int .i64) (i51 : Int))))], objs := [(0, .box [.val (.int .i64) (b52.1 : Int), .val (.slice (.int .i64)) (b52.2.1 : List Int), .val (.slice (.bool)) (b52.2.2.1 : List Bool), .val (.slice (.prod (.int .i64) (.int .i64))) (b52.2.2.2.1 : List (Int × Int)), .val (.slice (.prod (.int .i64) (.int .i64))) (b52.2.2.2.2.1 : List (Int × Int)), .val (.slice (.int .i64)) (b52.2.2.2.2.2 : List Int)])], nx := 1 }

def T_spec_EpochOk_lp5_e0 (b52 : Int × List Int × List Bool × List (Int × Int) × List (Int × Int) × List Int) : St := { env := [(2, .s (.one (.val (.bool) (false : Bool))))], objs := [], nx := 0 }

def T_spec_EpochOk_lp5_e1 (b52 : Int × List Int × List Bool × List (Int × Int) × List (Int × Int) × List Int) (i55 : Int) (t56 : Bool) : St := { env := [(1, .s (.one (.ptr 0 0))), (9, .s (.one (.val (.int .i64) (i55 : Int)))), (158, .s (.one (.val (.bool) (t56 : Bool))))], objs := [(0, .box [.val (.int .i64) (b52.1 : Int), .val (.slice (.int .i64)) (b52.2.1 : List Int), .val (.slice (.bool)) (b52.2.2.1 : List Bool), .val (.slice (.prod (.int .i64) (.int .i64))) (b52.2.2.2.1 : List (Int × Int)), .val (.slice (.prod (.int .i64) (.int .i64))) (b52.2.2.2.2.1 : List (Int × Int)), .val (.slice (.int .i64)) (b52.2.2.2.2.2 : List Int)])], nx := 1 }

noncomputable def T_spec_EpochOk_lp5_m (N : Nat) {R : Type} (n : Nat) (st : St) (K : Ex → St → Option R) : Option R := loopN (roundG (T_spec_EpochOk_ann 100032) fun st k => sx tab (T_spec_EpochOk_ctx N) T_spec_EpochOk_ann N (nthLoop Try.f41 5) st k) n st K

theorem T_spec_EpochOk_lp5_step (N : Nat) {R : Type} (n : Nat) (K : Ex → St → Option R) (i51 : Int) (b52 : Int × List Int × List Bool × List (Int × Int) × List (Int × Int) × List Int) :
    T_spec_EpochOk_lp5_m N (n + 1) (T_spec_EpochOk_lp5_sh i51 b52) K =
    (bif decide (i51 < (ilen b52.2.2.2.2.1)) then
    (bif inb i51 (List.length b52.2.2.2.2.1) then
      ((T_spec_l1In N (List.getD b52.2.2.2.2.1 (Int.toNat i51) ((0 : Int), (0 : Int))).1 (0 : Int) (2 : Int)).bind fun o57 =>
        (bif !o57.2.1 then
          (K .ret (T_spec_EpochOk_lp5_e0 b52))
          else
          ((T_spec_l1In N (List.getD b52.2.2.2.2.1 (Int.toNat i51) ((0 : Int), (0 : Int))).2 (0 : Int) (9 : Int)).bind fun o58 =>
            (bif !o58.2.1 then
              (K .ret (T_spec_EpochOk_lp5_e0 b52))
              else
              (bif inb (List.getD b52.2.2.2.2.1 (Int.toNat i51) ((0 : Int), (0 : Int))).1 (List.length b52.2.1) then
                (bif decide ((List.getD b52.2.1 (Int.toNat (List.getD b52.2.2.2.2.1 (Int.toNat i51) ((0 : Int), (0 : Int))).1) (0 : Int)) < (0 : Int)) then
                  (K .ret (T_spec_EpochOk_lp5_e0 b52))
                  else
                  (T_spec_EpochOk_lp5_m N n (T_spec_EpochOk_lp5_sh (iadd .i64 i51 (1 : Int)) b52) K)) else none))))) else none)
    else
    (K (.exit 10) (T_spec_EpochOk_lp5_e1 b52 i51 (decide (i51 < (ilen b52.2.2.2.2.1)))))) := by kernel_rfl

theorem T_spec_EpochOk_lp5_eq (N : Nat) {R : Type} (b52 : Int × List Int × List Bool × List (Int × Int) × List (Int × Int) × List Int) (K : Ex → St → Option R) : ∀ (n : Nat) (i51 : Int), T_spec_EpochOk_lp5_m N n (T_spec_EpochOk_lp5_sh i51 b52) K = T_spec_EpochOk_lp5 N b52 (K .ret (T_spec_EpochOk_lp5_e0 b52)) (fun i55 t56 => (K (.exit 10) (T_spec_EpochOk_lp5_e1 b52 i55 t56))) n i51
  | 0, _ => rfl
  | n + 1, i51 => by rw [T_spec_EpochOk_lp5_step, T_spec_EpochOk_lp5]; (try simp only [T_spec_EpochOk_lp5_eq N b52 K n])

theorem T_spec_EpochOk_c1 (N : Nat) (e1 : Int × List Int × List Bool × List (Int × Int) × List (Int × Int) × List Int) :
    ((ctxK (R := ODen (T_spec_EpochOk_sg N).ps × RDen (T_spec_EpochOk_sg N).rs) tab (T_spec_EpochOk_ctx N) T_spec_EpochOk_ann N (theCode Try.f41) [1, 1, 0, 1, 0] (retK tab (T_spec_EpochOk_sg N) Try.f41.results.toList some)) .ret (T_spec_EpochOk_lp0_e0 e1)) =
    (some (α := ODen (T_spec_EpochOk_sg N).ps × RDen (T_spec_EpochOk_sg N).rs) ((), (false, ()))) := by kernel_rfl

theorem T_spec_EpochOk_c4 (N : Nat) (e1 : Int × List Int × List Bool × List (Int × Int) × List (Int × Int) × List Int) :
    ((ctxK (R := ODen (T_spec_EpochOk_sg N).ps × RDen (T_spec_EpochOk_sg N).rs) tab (T_spec_EpochOk_ctx N) T_spec_EpochOk_ann N (theCode Try.f41) [1, 1, 1, 1, 1, 0, 1, 0] (retK tab (T_spec_EpochOk_sg N) Try.f41.results.toList some)) .ret (T_spec_EpochOk_lp2_e0 e1)) =
    (some (α := ODen (T_spec_EpochOk_sg N).ps × RDen (T_spec_EpochOk_sg N).rs) ((), (false, ()))) := by kernel_rfl

theorem T_spec_EpochOk_c6 (N : Nat) (e1 : Int × List Int × List Bool × List (Int × Int) × List (Int × Int) × List Int) :
    ((ctxK (R := ODen (T_spec_EpochOk_sg N).ps × RDen (T_spec_EpochOk_sg N).rs) tab (T_spec_EpochOk_ctx N) T_spec_EpochOk_ann N (theCode Try.f41) [1, 1, 1, 1, 1, 1, 0, 1, 0] (retK tab (T_spec_EpochOk_sg N) Try.f41.results.toList some)) .ret (T_spec_EpochOk_lp3_e0 e1)) =
    (some (α := ODen (T_spec_EpochOk_sg N).ps × RDen (T_spec_EpochOk_sg N).rs) ((), (false, ()))) := by kernel_rfl

theorem T_spec_EpochOk_c8 (N : Nat) (e1 : Int × List Int × List Bool × List (Int × Int) × List (Int × Int) × List Int) (l43 : List Int) :
    ((ctxK (R := ODen (T_spec_EpochOk_sg N).ps × RDen (T_spec_EpochOk_sg N).rs) tab (T_spec_EpochOk_ctx N) T_spec_EpochOk_ann N (theCode Try.f41) [1, 1, 1, 1, 1, 1, 1, 0, 1, 0] (retK tab (T_spec_EpochOk_sg N) Try.f41.results.toList some)) .ret (T_spec_EpochOk_lp4_e0 e1 l43)) =
    (some (α := ODen (T_spec_EpochOk_sg N).ps × RDen (T_spec_EpochOk_sg N).rs) ((), (false, ()))) := by kernel_rfl

theorem T_spec_EpochOk_c10 (N : Nat) (e1 : Int × List Int × List Bool × List (Int × Int) × List (Int × Int) × List Int) :
    ((ctxK (R := ODen (T_spec_EpochOk_sg N).ps × RDen (T_spec_EpochOk_sg N).rs) tab (T_spec_EpochOk_ctx N) T_spec_EpochOk_ann N (theCode Try.f41) [1, 1, 1, 1, 1, 1, 1, 1, 0, 1, 0] (retK tab (T_spec_EpochOk_sg N) Try.f41.results.toList some)) .ret (T_spec_EpochOk_lp5_e0 e1)) =
    (some (α := ODen (T_spec_EpochOk_sg N).ps × RDen (T_spec_EpochOk_sg N).rs) ((), (false, ()))) := by kernel_rfl

theorem T_spec_EpochOk_c11 (N : Nat) (e1 : Int × List Int × List Bool × List (Int × Int) × List (Int × Int) × List Int) (i59 : Int) (t60 : Bool) :
    ((ctxK (R := ODen (T_spec_EpochOk_sg N).ps × RDen (T_spec_EpochOk_sg N).rs) tab (T_spec_EpochOk_ctx N) T_spec_EpochOk_ann N (theCode Try.f41) [1, 1, 1, 1, 1, 1, 1, 1, 0, 1, 0] (retK tab (T_spec_EpochOk_sg N) Try.f41.results.toList some)) (.exit 10) (T_spec_EpochOk_lp5_e1 e1 i59 t60)) =
    (some (α := ODen (T_spec_EpochOk_sg N).ps × RDen (T_spec_EpochOk_sg N).rs) ((), (true, ()))) := by kernel_rfl

theorem T_spec_EpochOk_c9 (N : Nat) (e1 : Int × List Int × List Bool × List (Int × Int) × List (Int × Int) × List Int) (l43 : List Int) (i49 : Int) (t50 : Bool) :
    ((ctxK (R := ODen (T_spec_EpochOk_sg N).ps × RDen (T_spec_EpochOk_sg N).rs) tab (T_spec_EpochOk_ctx N) T_spec_EpochOk_ann N (theCode Try.f41) [1, 1, 1, 1, 1, 1, 1, 0, 1, 0] (retK tab (T_spec_EpochOk_sg N) Try.f41.results.toList some)) (.exit 8) (T_spec_EpochOk_lp4_e1 e1 l43 i49 t50)) =
    (T_spec_EpochOk_lp5 N e1
    (some (α := ODen (T_spec_EpochOk_sg N).ps × RDen (T_spec_EpochOk_sg N).rs) ((), (false, ())))
    (fun i59 t60 =>
      (some (α := ODen (T_spec_EpochOk_sg N).ps × RDen (T_spec_EpochOk_sg N).rs) ((), (true, ()))))
     N (0 : Int)) := by
  have h : ((ctxK (R := ODen (T_spec_EpochOk_sg N).ps × RDen (T_spec_EpochOk_sg N).rs) tab (T_spec_EpochOk_ctx N) T_spec_EpochOk_ann N (theCode Try.f41) [1, 1, 1, 1, 1, 1, 1, 0, 1, 0] (retK tab (T_spec_EpochOk_sg N) Try.f41.results.toList some)) (.exit 8) (T_spec_EpochOk_lp4_e1 e1 l43 i49 t50)) =
    (T_spec_EpochOk_lp5_m N N (T_spec_EpochOk_lp5_sh (0 : Int) e1) (ctxK (R := ODen (T_spec_EpochOk_sg N).ps × RDen (T_spec_EpochOk_sg N).rs) tab (T_spec_EpochOk_ctx N) T_spec_EpochOk_ann N (theCode Try.f41) [1, 1, 1, 1, 1, 1, 1, 1, 0, 1, 0] (retK tab (T_spec_EpochOk_sg N) Try.f41.results.toList some))) := by kernel_rfl
  rw [h]
  (try simp only [T_spec_EpochOk_lp5_eq, T_spec_EpochOk_c10, T_spec_EpochOk_c11]) <;> rfl

theorem T_spec_EpochOk_c7 (N : Nat) (e1 : Int × List Int × List Bool × List (Int × Int) × List (Int × Int) × List Int) (i41 : Int) (t42 : Bool) (l43 : List Int) :
    ((ctxK (R := ODen (T_spec_EpochOk_sg N).ps × RDen (T_spec_EpochOk_sg N).rs) tab (T_spec_EpochOk_ctx N) T_spec_EpochOk_ann N (theCode Try.f41) [1, 1, 1, 1, 1, 1, 0, 1, 0] (retK tab (T_spec_EpochOk_sg N) Try.f41.results.toList some)) (.exit 6) (T_spec_EpochOk_lp3_e1 e1 i41 t42 l43)) =
    (T_spec_EpochOk_lp4 N e1 l43
    (some (α := ODen (T_spec_EpochOk_sg N).ps × RDen (T_spec_EpochOk_sg N).rs) ((), (false, ())))
    (fun i49 t50 =>
      (T_spec_EpochOk_lp5 N e1
        (some (α := ODen (T_spec_EpochOk_sg N).ps × RDen (T_spec_EpochOk_sg N).rs) ((), (false, ())))
        (fun i59 t60 =>
          (some (α := ODen (T_spec_EpochOk_sg N).ps × RDen (T_spec_EpochOk_sg N).rs) ((), (true, ()))))
         N (0 : Int)))
     N (0 : Int)) := by
  have h : ((ctxK (R := ODen (T_spec_EpochOk_sg N).ps × RDen (T_spec_EpochOk_sg N).rs) tab (T_spec_EpochOk_ctx N) T_spec_EpochOk_ann N (theCode Try.f41) [1, 1, 1, 1, 1, 1, 0, 1, 0] (retK tab (T_spec_EpochOk_sg N) Try.f41.results.toList some)) (.exit 6) (T_spec_EpochOk_lp3_e1 e1 i41 t42 l43)) =
    (T_spec_EpochOk_lp4_m N N (T_spec_EpochOk_lp4_sh (0 : Int) e1 l43) (ctxK (R := ODen (T_spec_EpochOk_sg N).ps × RDen (T_spec_EpochOk_sg N).rs) tab (T_spec_EpochOk_ctx N) T_spec_EpochOk_ann N (theCode Try.f41) [1, 1, 1, 1, 1, 1, 1, 0, 1, 0] (retK tab (T_spec_EpochOk_sg N) Try.f41.results.toList some))) := by kernel_rfl
  rw [h]
  (try simp only [T_spec_EpochOk_lp4_eq, T_spec_EpochOk_c8, T_spec_EpochOk_c9]) <;> rfl

theorem T_spec_EpochOk_c5 (N : Nat) (e1 : Int × List Int × List Bool × List (Int × Int) × List (Int × Int) × List Int) (i30 : Int) (t31 : Bool) (l32 : List Int) :
    ((ctxK (R := ODen (T_spec_EpochOk_sg N).ps × RDen (T_spec_EpochOk_sg N).rs) tab (T_spec_EpochOk_ctx N) T_spec_EpochOk_ann N (theCode Try.f41) [1, 1, 1, 1, 1, 0, 1, 0] (retK tab (T_spec_EpochOk_sg N) Try.f41.results.toList some)) (.exit 4) (T_spec_EpochOk_lp2_e1 e1 i30 t31 l32)) =
    (T_spec_EpochOk_lp3 N e1
    (some (α := ODen (T_spec_EpochOk_sg N).ps × RDen (T_spec_EpochOk_sg N).rs) ((), (false, ())))
    (fun i41 t42 l43 =>
      (T_spec_EpochOk_lp4 N e1 l43
        (some (α := ODen (T_spec_EpochOk_sg N).ps × RDen (T_spec_EpochOk_sg N).rs) ((), (false, ())))
        (fun i49 t50 =>
          (T_spec_EpochOk_lp5 N e1
            (some (α := ODen (T_spec_EpochOk_sg N).ps × RDen (T_spec_EpochOk_sg N).rs) ((), (false, ())))
            (fun i59 t60 =>
              (some (α := ODen (T_spec_EpochOk_sg N).ps × RDen (T_spec_EpochOk_sg N).rs) ((), (true, ()))))
             N (0 : Int)))
         N (0 : Int)))
     N (0 : Int) l32) := by
  have h : ((ctxK (R := ODen (T_spec_EpochOk_sg N).ps × RDen (T_spec_EpochOk_sg N).rs) tab (T_spec_EpochOk_ctx N) T_spec_EpochOk_ann N (theCode Try.f41) [1, 1, 1, 1, 1, 0, 1, 0] (retK tab (T_spec_EpochOk_sg N) Try.f41.results.toList some)) (.exit 4) (T_spec_EpochOk_lp2_e1 e1 i30 t31 l32)) =
    (T_spec_EpochOk_lp3_m N N (T_spec_EpochOk_lp3_sh (0 : Int) e1 l32) (ctxK (R := ODen (T_spec_EpochOk_sg N).ps × RDen (T_spec_EpochOk_sg N).rs) tab (T_spec_EpochOk_ctx N) T_spec_EpochOk_ann N (theCode Try.f41) [1, 1, 1, 1, 1, 1, 0, 1, 0] (retK tab (T_spec_EpochOk_sg N) Try.f41.results.toList some))) := by kernel_rfl
  rw [h]
  (try simp only [T_spec_EpochOk_lp3_eq, T_spec_EpochOk_c6, T_spec_EpochOk_c7]) <;> rfl

theorem T_spec_EpochOk_c3 (N : Nat) (e1 : Int × List Int × List Bool × List (Int × Int) × List (Int × Int) × List Int) (i17 : Int) (t18 : Bool) (l19 : List Int) :
    ((ctxK (R := ODen (T_spec_EpochOk_sg N).ps × RDen (T_spec_EpochOk_sg N).rs) tab (T_spec_EpochOk_ctx N) T_spec_EpochOk_ann N (theCode Try.f41) [1, 1, 1, 1, 0, 1, 0] (retK tab (T_spec_EpochOk_sg N) Try.f41.results.toList some)) (.exit 2) (T_spec_EpochOk_lp1_e0 e1 i17 t18 l19)) =
    (T_spec_EpochOk_lp2 N e1
    (some (α := ODen (T_spec_EpochOk_sg N).ps × RDen (T_spec_EpochOk_sg N).rs) ((), (false, ())))
    (fun i30 t31 l32 =>
      (T_spec_EpochOk_lp3 N e1
        (some (α := ODen (T_spec_EpochOk_sg N).ps × RDen (T_spec_EpochOk_sg N).rs) ((), (false, ())))
        (fun i41 t42 l43 =>
          (T_spec_EpochOk_lp4 N e1 l43
            (some (α := ODen (T_spec_EpochOk_sg N).ps × RDen (T_spec_EpochOk_sg N).rs) ((), (false, ())))
            (fun i49 t50 =>
              (T_spec_EpochOk_lp5 N e1
                (some (α := ODen (T_spec_EpochOk_sg N).ps × RDen (T_spec_EpochOk_sg N).rs) ((), (false, ())))
                (fun i59 t60 =>
                  (some (α := ODen (T_spec_EpochOk_sg N).ps × RDen (T_spec_EpochOk_sg N).rs) ((), (true, ()))))
                 N (0 : Int)))
             N (0 : Int)))
         N (0 : Int) l32))
     N (0 : Int) l19) := by
  have h : ((ctxK (R := ODen (T_spec_EpochOk_sg N).ps × RDen (T_spec_EpochOk_sg N).rs) tab (T_spec_EpochOk_ctx N) T_spec_EpochOk_ann N (theCode Try.f41) [1, 1, 1, 1, 0, 1, 0] (retK tab (T_spec_EpochOk_sg N) Try.f41.results.toList some)) (.exit 2) (T_spec_EpochOk_lp1_e0 e1 i17 t18 l19)) =
    (T_spec_EpochOk_lp2_m N N (T_spec_EpochOk_lp2_sh (0 : Int) e1 l19) (ctxK (R := ODen (T_spec_EpochOk_sg N).ps × RDen (T_spec_EpochOk_sg N).rs) tab (T_spec_EpochOk_ctx N) T_spec_EpochOk_ann N (theCode Try.f41) [1, 1, 1, 1, 1, 0, 1, 0] (retK tab (T_spec_EpochOk_sg N) Try.f41.results.toList some))) := by kernel_rfl
  rw [h]
  (try simp only [T_spec_EpochOk_lp2_eq, T_spec_EpochOk_c4, T_spec_EpochOk_c5]) <;> rfl

theorem T_spec_EpochOk_c2 (N : Nat) (e1 : Int × List Int × List Bool × List (Int × Int) × List (Int × Int) × List Int) (i9 : Int) (t10 : Bool) :
    ((ctxK (R := ODen (T_spec_EpochOk_sg N).ps × RDen (T_spec_EpochOk_sg N).rs) tab (T_spec_EpochOk_ctx N) T_spec_EpochOk_ann N (theCode Try.f41) [1, 1, 0, 1, 0] (retK tab (T_spec_EpochOk_sg N) Try.f41.results.toList some)) (.exit 0) (T_spec_EpochOk_lp0_e1 e1 i9 t10)) =
    (bif ((decide ((0 : Int) ≤ (10 : Int))) && (decide ((10 : Int) ≤ (10 : Int)))) && (room (Int.toNat (10 : Int))) then
    (T_spec_EpochOk_lp1 N e1
      (fun i17 t18 l19 =>
        (T_spec_EpochOk_lp2 N e1
          (some (α := ODen (T_spec_EpochOk_sg N).ps × RDen (T_spec_EpochOk_sg N).rs) ((), (false, ())))
          (fun i30 t31 l32 =>
            (T_spec_EpochOk_lp3 N e1
              (some (α := ODen (T_spec_EpochOk_sg N).ps × RDen (T_spec_EpochOk_sg N).rs) ((), (false, ())))
              (fun i41 t42 l43 =>
                (T_spec_EpochOk_lp4 N e1 l43
                  (some (α := ODen (T_spec_EpochOk_sg N).ps × RDen (T_spec_EpochOk_sg N).rs) ((), (false, ())))
                  (fun i49 t50 =>
                    (T_spec_EpochOk_lp5 N e1
                      (some (α := ODen (T_spec_EpochOk_sg N).ps × RDen (T_spec_EpochOk_sg N).rs) ((), (false, ())))
                      (fun i59 t60 =>
                        (some (α := ODen (T_spec_EpochOk_sg N).ps × RDen (T_spec_EpochOk_sg N).rs) ((), (true, ()))))
                       N (0 : Int)))
                   N (0 : Int)))
               N (0 : Int) l32))
           N (0 : Int) l19))
       N (0 : Int) (List.replicate (Int.toNat (10 : Int)) (0 : Int))) else none) := by
  have h : ((ctxK (R := ODen (T_spec_EpochOk_sg N).ps × RDen (T_spec_EpochOk_sg N).rs) tab (T_spec_EpochOk_ctx N) T_spec_EpochOk_ann N (theCode Try.f41) [1, 1, 0, 1, 0] (retK tab (T_spec_EpochOk_sg N) Try.f41.results.toList some)) (.exit 0) (T_spec_EpochOk_lp0_e1 e1 i9 t10)) =
    (bif ((decide ((0 : Int) ≤ (10 : Int))) && (decide ((10 : Int) ≤ (10 : Int)))) && (room (Int.toNat (10 : Int))) then
    (T_spec_EpochOk_lp1_m N N (T_spec_EpochOk_lp1_sh (0 : Int) e1 (List.replicate (Int.toNat (10 : Int)) (0 : Int))) (ctxK (R := ODen (T_spec_EpochOk_sg N).ps × RDen (T_spec_EpochOk_sg N).rs) tab (T_spec_EpochOk_ctx N) T_spec_EpochOk_ann N (theCode Try.f41) [1, 1, 1, 1, 0, 1, 0] (retK tab (T_spec_EpochOk_sg N) Try.f41.results.toList some))) else none) := by kernel_rfl
  rw [h]
  (try simp only [T_spec_EpochOk_lp1_eq, T_spec_EpochOk_c3]) <;> rfl

theorem T_spec_EpochOk_den (N : Nat) (e1 : Int × List Int × List Bool × List (Int × Int) × List (Int × Int) × List Int) :
    den (R := ODen (T_spec_EpochOk_sg N).ps × RDen (T_spec_EpochOk_sg N).rs) tab (T_spec_EpochOk_ctx N) T_spec_EpochOk_ann N (T_spec_EpochOk_sg N) Try.f41 (e1, ()) some =
    (bif (ilen e1.2.1) != (3 : Int) then
    (some (α := ODen (T_spec_EpochOk_sg N).ps × RDen (T_spec_EpochOk_sg N).rs) ((), (false, ())))
    else
    (bif (ilen e1.2.2.1) != (10 : Int) then
      (some (α := ODen (T_spec_EpochOk_sg N).ps × RDen (T_spec_EpochOk_sg N).rs) ((), (false, ())))
      else
      ((T_spec_l1In N e1.1 (0 : Int) (205 : Int)).bind fun o2 =>
        (bif !o2.2.1 then
          (some (α := ODen (T_spec_EpochOk_sg N).ps × RDen (T_spec_EpochOk_sg N).rs) ((), (false, ())))
          else
          (T_spec_EpochOk_lp0 N e1
            (some (α := ODen (T_spec_EpochOk_sg N).ps × RDen (T_spec_EpochOk_sg N).rs) ((), (false, ())))
            (fun i9 t10 =>
              (bif ((decide ((0 : Int) ≤ (10 : Int))) && (decide ((10 : Int) ≤ (10 : Int)))) && (room (Int.toNat (10 : Int))) then
                (T_spec_EpochOk_lp1 N e1
                  (fun i17 t18 l19 =>
                    (T_spec_EpochOk_lp2 N e1
                      (some (α := ODen (T_spec_EpochOk_sg N).ps × RDen (T_spec_EpochOk_sg N).rs) ((), (false, ())))
                      (fun i30 t31 l32 =>
                        (T_spec_EpochOk_lp3 N e1
                          (some (α := ODen (T_spec_EpochOk_sg N).ps × RDen (T_spec_EpochOk_sg N).rs) ((), (false, ())))
                          (fun i41 t42 l43 =>
                            (T_spec_EpochOk_lp4 N e1 l43
                              (some (α := ODen (T_spec_EpochOk_sg N).ps × RDen (T_spec_EpochOk_sg N).rs) ((), (false, ())))
                              (fun i49 t50 =>
                                (T_spec_EpochOk_lp5 N e1
                                  (some (α := ODen (T_spec_EpochOk_sg N).ps × RDen (T_spec_EpochOk_sg N).rs) ((), (false, ())))
                                  (fun i59 t60 =>
                                    (some (α := ODen (T_spec_EpochOk_sg N).ps × RDen (T_spec_EpochOk_sg N).rs) ((), (true, ()))))
                                   N (0 : Int)))
                               N (0 : Int)))
                           N (0 : Int) l32))
                       N (0 : Int) l19))
                   N (0 : Int) (List.replicate (Int.toNat (10 : Int)) (0 : Int))) else none))
             N (0 : Int)))))) := by
  have h : den (R := ODen (T_spec_EpochOk_sg N).ps × RDen (T_spec_EpochOk_sg N).rs) tab (T_spec_EpochOk_ctx N) T_spec_EpochOk_ann N (T_spec_EpochOk_sg N) Try.f41 (e1, ()) some =
    (bif (ilen e1.2.1) != (3 : Int) then
    (some (α := ODen (T_spec_EpochOk_sg N).ps × RDen (T_spec_EpochOk_sg N).rs) ((), (false, ())))
    else
    (bif (ilen e1.2.2.1) != (10 : Int) then
      (some (α := ODen (T_spec_EpochOk_sg N).ps × RDen (T_spec_EpochOk_sg N).rs) ((), (false, ())))
      else
      ((T_spec_l1In N e1.1 (0 : Int) (205 : Int)).bind fun o2 =>
        (bif !o2.2.1 then
          (some (α := ODen (T_spec_EpochOk_sg N).ps × RDen (T_spec_EpochOk_sg N).rs) ((), (false, ())))
          else
          (T_spec_EpochOk_lp0_m N N (T_spec_EpochOk_lp0_sh (0 : Int) e1) (ctxK (R := ODen (T_spec_EpochOk_sg N).ps × RDen (T_spec_EpochOk_sg N).rs) tab (T_spec_EpochOk_ctx N) T_spec_EpochOk_ann N (theCode Try.f41) [1, 1, 0, 1, 0] (retK tab (T_spec_EpochOk_sg N) Try.f41.results.toList some))))))) := by kernel_rfl
  rw [h]
  (try simp only [T_spec_EpochOk_lp0_eq, T_spec_EpochOk_c1, T_spec_EpochOk_c2]) <;> rfl

theorem T_spec_EpochOk_ok (N : Nat) : chkBody Try.f41 (T_spec_EpochOk_sg N).ps = true := by kernel_rfl

theorem T_spec_EpochOk_callable : Callable Try.prog 41 := callable_of Try.func41 (show chkFn Try.f41 = true by kernel_rfl)

theorem T_spec_EpochOk_good (N : Nat) : Good Try.prog 41 (T_spec_EpochOk_sg N) :=
  good_body mixedOk tabOk (ctx_cons (T_spec_l1In_good N) T_spec_l1In_callable ctx_nil) Try.func41 (T_spec_EpochOk_ok N) (fun d _ h => ⟨N, (T_spec_EpochOk_den N d.1).trans h⟩)

noncomputable def T_impl_within_sg (N : Nat) : Sig := Sig.of [.v (.int .i64) false, .v (.int .i64) false, .v (.int .i64) false] [.v (.bool) false] (fun d => T_impl_within N d.1 d.2.1 d.2.2.1)

def T_impl_within_ann : Nat → List Ghost
  | _ => []

noncomputable def T_impl_within_ctx (N : Nat) : Ctx := []

theorem T_impl_within_den (N : Nat) (x1 : Int) (lo2 : Int) (hi3 : Int) :
    den (R := ODen (T_impl_within_sg N).ps × RDen (T_impl_within_sg N).rs) tab (T_impl_within_ctx N) T_impl_within_ann N (T_impl_within_sg N) Try.f58 (x1, lo2, hi3, ()) some =
    (bif decide (x1 ≥ lo2) then
    (some (α := ODen (T_impl_within_sg N).ps × RDen (T_impl_within_sg N).rs) ((), (decide (x1 ≤ hi3), ())))
    else
    (some (α := ODen (T_impl_within_sg N).ps × RDen (T_impl_within_sg N).rs) ((), (false, ())))) := by kernel_rfl

theorem T_impl_within_ok (N : Nat) : chkBody Try.f58 (T_impl_within_sg N).ps = true := by kernel_rfl

theorem T_impl_within_callable : Callable Try.prog 58 := callable_of Try.func58 (show chkFn Try.f58 = true by kernel_rfl)

theorem T_impl_within_good (N : Nat) : Good Try.prog 58 (T_impl_within_sg N) :=
  good_body mixedOk tabOk ctx_nil Try.func58 (T_impl_within_ok N) (fun d _ h => ⟨N, (T_impl_within_den N d.1 d.2.1 d.2.2.1).trans h⟩)

noncomputable def T_impl_copyInts_sg (N : Nat) : Sig := Sig.of [.v (.slice (.int .i64)) false] [.v (.own (.int .i64)) false] (fun d => T_impl_copyInts N d.1)

def T_impl_copyInts_ann : Nat → List Ghost
  | _ => []

noncomputable def T_impl_copyInts_ctx (N : Nat) : Ctx := []

theorem T_impl_copyInts_den (N : Nat) (l1 : List Int) :
    den (R := ODen (T_impl_copyInts_sg N).ps × RDen (T_impl_copyInts_sg N).rs) tab (T_impl_copyInts_ctx N) T_impl_copyInts_ann N (T_impl_copyInts_sg N) Try.f51 (l1, ()) some =
    (bif room (List.length l1) then
    (some (α := ODen (T_impl_copyInts_sg N).ps × RDen (T_impl_copyInts_sg N).rs) ((), (l1, ()))) else none) := by kernel_rfl

theorem T_impl_copyInts_ok (N : Nat) : chkBody Try.f51 (T_impl_copyInts_sg N).ps = true := by kernel_rfl

theorem T_impl_copyInts_callable : Callable Try.prog 51 := callable_of Try.func51 (show chkFn Try.f51 = true by kernel_rfl)

theorem T_impl_copyInts_good (N : Nat) : Good Try.prog 51 (T_impl_copyInts_sg N) :=
  good_body mixedOk tabOk ctx_nil Try.func51 (T_impl_copyInts_ok N) (fun d _ h => ⟨N, (T_impl_copyInts_den N d.1).trans h⟩)

noncomputable def T_impl_EpochOk_sg (N : Nat) : Sig := Sig.of [.v (.prod (.int .i64) (.prod (.slice (.int .i64)) (.prod (.slice (.bool)) (.prod (.slice (.prod (.int .i64) (.int .i64))) (.prod (.slice (.prod (.int .i64) (.int .i64))) (.slice (.int .i64))))))) true] [.v (.bool) false] (fun d => T_impl_EpochOk N d.1)

def T_impl_EpochOk_ann : Nat → List Ghost
  | 4 => [.canon [1, 34, 35, 36, 37]]
  | 5 => [.canon [1, 4, 34, 35, 36]]
  | 6 => [.canon [1, 34, 35, 36, 58]]
  | 7 => [.canon [2]]
  | 8 => [.canon [1, 34, 35, 36]]
  | 11 => [.canon [1, 5, 61, 62, 63, 64]]
  | 12 => [.canon [1, 5, 6, 7, 61, 62, 63]]
  | 13 => [.canon [1, 5, 6, 61, 62, 63, 68]]
  | 14 => [.canon [1, 5, 61, 62, 63]]
  | 15 => [.canon [1, 5, 61, 62, 63]]
  | 18 => [.canon [1, 5, 8, 79, 80, 81, 82]]
  | 19 => [.canon [1, 5, 8, 10, 79, 80, 81]]
  | 20 => [.canon [1, 5, 8, 10, 79, 80, 81, 97]]
  | 21 => [.canon [2]]
  | 22 => [.canon [1, 5, 8, 79, 80, 81]]
  | 23 => [.canon [1, 5, 8, 79, 80, 81]]
  | 25 => [.canon [1, 5, 104, 105, 106, 107]]
  | 26 => [.canon [1, 5, 12, 104, 105, 106]]
  | 27 => [.canon [1, 5, 12, 104, 105, 106, 112]]
  | 28 => [.canon [2]]
  | 29 => [.canon [1, 5, 104, 105, 106]]
  | 30 => [.canon [1, 5, 104, 105, 106]]
  | 32 => [.canon [1, 119, 120, 121]]
  | 33 => [.canon [1, 14, 119, 120]]
  | 34 => [.canon [1, 119, 120, 124]]
  | 35 => [.canon [2]]
  | 36 => [.canon [1, 119, 120]]
  | 38 => [.canon [1, 127, 128, 129, 130]]
  | 39 => [.canon [1, 16, 127, 128, 129]]
  | 40 => [.canon [1, 127, 128, 129, 151]]
  | 41 => [.canon [2]]
  | 42 => [.canon [1, 127, 128, 129]]
  | 100004 => [.canon [1, 34, 35, 36]]
  | 100011 => [.canon [1, 5, 61, 62, 63]]
  | 100018 => [.canon [1, 5, 8, 79, 80, 81]]
  | 100025 => [.canon [1, 5, 104, 105, 106]]
  | 100032 => [.canon [1, 119, 120]]
  | 100038 => [.canon [1, 127, 128, 129]]
  | _ => []

noncomputable def T_impl_EpochOk_ctx (N : Nat) : Ctx := [(58, T_impl_within_sg N), (51, T_impl_copyInts_sg N)]

def T_impl_EpochOk_lp0_sh (t3 : List Int) (t5 : Int) (b6 : Int × List Int × List Bool × List (Int × Int) × List (Int × Int) × List Int) : St := { env := [(1, .s (.one (.ptr 0 0))), (34, .s (.one (.val (.slice (.int .i64)) (t3 : List Int)))), (35, .s (.one (.val (.int .i64) (ilen b6.2.1 : Int)))), (36, .s (.one (.val (.int .i64) (t5 : Int))))], objs := [(0, .box [.val (.int .i64) (b6.1 : Int), .val (.slice (.int .i64)) (b6.2.1 : List Int), .val (.slice (.bool)) (b6.2.2.1 : List Bool), .val (.slice (.prod (.int .i64) (.int .i64))) (b6.2.2.2.1 : List (Int × Int)), .val (.slice (.prod (.int .i64) (.int .i64))) (b6.2.2.2.2.1 : List (Int × Int)), .val (.slice (.int .i64)) (b6.2.2.2.2.2 : List Int)])], nx := 1 }

def T_impl_EpochOk_lp0_e0 (t3 : List Int) (b6 : Int × List Int × List Bool × List (Int × Int) × List (Int × Int) × List Int) : St := { env := [(2, .s (.one (.val (.bool) (false : Bool))))], objs := [], nx := 0 }

def T_impl_EpochOk_lp0_e1 (t3 : List Int) (b6 : Int × List Int × List Bool × List (Int × Int) × List (Int × Int) × List Int) (t7 : Int) (t8 : Bool) : St := { env := [(1, .s (.one (.ptr 0 0))), (34, .s (.one (.val (.slice (.int .i64)) (t3 : List Int)))), (35, .s (.one (.val (.int .i64) (ilen b6.2.1 : Int)))), (36, .s (.one (.val (.int .i64) (t7 : Int)))), (37, .s (.one (.val (.bool) (t8 : Bool))))], objs := [(0, .box [.val (.int .i64) (b6.1 : Int), .val (.slice (.int .i64)) (b6.2.1 : List Int), .val (.slice (.bool)) (b6.2.2.1 : List Bool), .val (.slice (.prod (.int .i64) (.int .i64))) (b6.2.2.2.1 : List (Int × Int)), .val (.slice (.prod (.int .i64) (.int .i64))) (b6.2.2.2.2.1 : List (Int × Int)), .val (.slice (.int .i64)) (b6.2.2.2.2.2 : List Int)])], nx := 1 }

noncomputable def T_impl_EpochOk_lp0_m (N : Nat) {R : Type} (n : Nat) (st : St) (K : Ex → St → Option R) : Option R := loopN (roundG (T_impl_EpochOk_ann 100004) fun st k => sx tab (T_impl_EpochOk_ctx N) T_impl_EpochOk_ann N (nthLoop Try.f42 0) st k) n st K

theorem T_impl_EpochOk_lp0_step (N : Nat) {R : Type} (n : Nat) (K : Ex → St → Option R) (t3 : List Int) (t5 : Int) (b6 : Int × List Int × List Bool × List (Int × Int) × List (Int × Int) × List Int) :
    T_impl_EpochOk_lp0_m N (n + 1) (T_impl_EpochOk_lp0_sh t3 t5 b6) K =
    (bif decide (t5 < (ilen b6.2.1)) then
    (bif inb t5 (List.length t3) then
      (bif (List.getD t3 (Int.toNat t5) (0 : Int)) != (-1 : Int) then
        (bif (List.getD t3 (Int.toNat t5) (0 : Int)) != b6.1 then
          (bif (List.getD t3 (Int.toNat t5) (0 : Int)) != (isub .i64 b6.1 (1 : Int)) then
            (K .ret (T_impl_EpochOk_lp0_e0 t3 b6))
            else
            (bif decide ((List.getD t3 (Int.toNat t5) (0 : Int)) < (0 : Int)) then
              (K .ret (T_impl_EpochOk_lp0_e0 t3 b6))
              else
              (T_impl_EpochOk_lp0_m N n (T_impl_EpochOk_lp0_sh t3 (iadd .i64 t5 (1 : Int)) b6) K)))
          else
          (T_impl_EpochOk_lp0_m N n (T_impl_EpochOk_lp0_sh t3 (iadd .i64 t5 (1 : Int)) b6) K))
        else
        (T_impl_EpochOk_lp0_m N n (T_impl_EpochOk_lp0_sh t3 (iadd .i64 t5 (1 : Int)) b6) K)) else none)
    else
    (K (.exit 0) (T_impl_EpochOk_lp0_e1 t3 b6 t5 (decide (t5 < (ilen b6.2.1)))))) := by kernel_rfl

theorem T_impl_EpochOk_lp0_eq (N : Nat) {R : Type} (t3 : List Int) (b6 : Int × List Int × List Bool × List (Int × Int) × List (Int × Int) × List Int) (K : Ex → St → Option R) : ∀ (n : Nat) (t5 : Int), T_impl_EpochOk_lp0_m N n (T_impl_EpochOk_lp0_sh t3 t5 b6) K = T_impl_EpochOk_lp0 N t3 b6 (K .ret (T_impl_EpochOk_lp0_e0 t3 b6)) (fun t7 t8 => (K (.exit 0) (T_impl_EpochOk_lp0_e1 t3 b6 t7 t8))) n t5
  | 0, _ => rfl
  | n + 1, t5 => by rw [T_impl_EpochOk_lp0_step, T_impl_EpochOk_lp0]; (try simp only [T_impl_EpochOk_lp0_eq N t3 b6 K n])

def T_impl_EpochOk_lp1_sh (t11 : List Bool) (t13 : Int) (b14 : Int × List Int × List Bool × List (Int × Int) × List (Int × Int) × List Int) (l15 : List Int) : St := { env := [(1, .s (.one (.ptr 0 0))), (5, .s (.one (.aptr 1))), (61, .s (.one (.val (.slice (.bool)) (t11 : List Bool)))), (62, .s (.one (.val (.int .i64) (ilen b14.2.2.1 : Int)))), (63, .s (.one (.val (.int .i64) (t13 : Int))))], objs := [(0, .box [.val (.int .i64) (b14.1 : Int), .val (.slice (.int .i64)) (b14.2.1 : List Int), .val (.slice (.bool)) (b14.2.2.1 : List Bool), .val (.slice (.prod (.int .i64) (.int .i64))) (b14.2.2.2.1 : List (Int × Int)), .val (.slice (.prod (.int .i64) (.int .i64))) (b14.2.2.2.2.1 : List (Int × Int)), .val (.slice (.int .i64)) (b14.2.2.2.2.2 : List Int)]), (1, .arr (.int .i64) (l15 : List Int))], nx := 2 }

def T_impl_EpochOk_lp1_e0 (t11 : List Bool) (b14 : Int × List Int × List Bool × List (Int × Int) × List (Int × Int) × List Int) (t16 : Int) (t17 : Bool) (l18 : List Int) : St := { env := [(1, .s (.one (.ptr 0 0))), (5, .s (.one (.aptr 1))), (61, .s (.one (.val (.slice (.bool)) (t11 : List Bool)))), (62, .s (.one (.val (.int .i64) (ilen b14.2.2.1 : Int)))), (63, .s (.one (.val (.int .i64) (t16 : Int)))), (64, .s (.one (.val (.bool) (t17 : Bool))))], objs := [(0, .box [.val (.int .i64) (b14.1 : Int), .val (.slice (.int .i64)) (b14.2.1 : List Int), .val (.slice (.bool)) (b14.2.2.1 : List Bool), .val (.slice (.prod (.int .i64) (.int .i64))) (b14.2.2.2.1 : List (Int × Int)), .val (.slice (.prod (.int .i64) (.int .i64))) (b14.2.2.2.2.1 : List (Int × Int)), .val (.slice (.int .i64)) (b14.2.2.2.2.2 : List Int)]), (1, .arr (.int .i64) (l18 : List Int))], nx := 2 }

noncomputable def T_impl_EpochOk_lp1_m (N : Nat) {R : Type} (n : Nat) (st : St) (K : Ex → St → Option R) : Option R := loopN (roundG (T_impl_EpochOk_ann 100011) fun st k => sx tab (T_impl_EpochOk_ctx N) T_impl_EpochOk_ann N (nthLoop Try.f42 1) st k) n st K

theorem T_impl_EpochOk_lp1_step (N : Nat) {R : Type} (n : Nat) (K : Ex → St → Option R) (t11 : List Bool) (t13 : Int) (b14 : Int × List Int × List Bool × List (Int × Int) × List (Int × Int) × List Int) (l15 : List Int) :
    T_impl_EpochOk_lp1_m N (n + 1) (T_impl_EpochOk_lp1_sh t11 t13 b14 l15) K =
    (bif decide (t13 < (ilen b14.2.2.1)) then
    (bif inb t13 (List.length t11) then
      (bif List.getD t11 (Int.toNat t13) false then
        (bif (inb t13 10) && (decide ((List.length l15) = 10)) then
          (bif (inb t13 10) && (decide ((List.length l15) = 10)) then
            (T_impl_EpochOk_lp1_m N n (T_impl_EpochOk_lp1_sh t11 (iadd .i64 t13 (1 : Int)) b14 (List.set l15 (Int.toNat t13) (iadd .i64 (List.getD l15 (Int.toNat t13) (0 : Int)) (1 : Int)))) K) else none) else none)
        else
        (T_impl_EpochOk_lp1_m N n (T_impl_EpochOk_lp1_sh t11 (iadd .i64 t13 (1 : Int)) b14 l15) K)) else none)
    else
    (K (.exit 2) (T_impl_EpochOk_lp1_e0 t11 b14 t13 (decide (t13 < (ilen b14.2.2.1))) l15))) := by kernel_rfl

theorem T_impl_EpochOk_lp1_eq (N : Nat) {R : Type} (t11 : List Bool) (b14 : Int × List Int × List Bool × List (Int × Int) × List (Int × Int) × List Int) (K : Ex → St → Option R) : ∀ (n : Nat) (t13 : Int) (l15 : List Int), T_impl_EpochOk_lp1_m N n (T_impl_EpochOk_lp1_sh t11 t13 b14 l15) K = T_impl_EpochOk_lp1 N t11 b14 (fun t16 t17 l18 => (K (.exit 2) (T_impl_EpochOk_lp1_e0 t11 b14 t16 t17 l18))) n t13 l15
  | 0, _, _ => rfl
  | n + 1, t13, l15 => by rw [T_impl_EpochOk_lp1_step, T_impl_EpochOk_lp1]; (try simp only [T_impl_EpochOk_lp1_eq N t11 b14 K n])

def T_impl_EpochOk_lp2_sh (t23 : List (Int × Int)) (t25 : Int) (b26 : Int × List Int × List Bool × List (Int × Int) × List (Int × Int) × List Int) (l27 : List Int) (l28 : List Int) : St := { env := [(1, .s (.one (.ptr 0 0))), (5, .s (.one (.aptr 1))), (8, .s (.one (.own 2))), (79, .s (.one (.val (.slice (.prod (.int .i64) (.int .i64))) (t23 : List (Int × Int))))), (80, .s (.one (.val (.int .i64) (ilen b26.2.2.2.1 : Int)))), (81, .s (.one (.val (.int .i64) (t25 : Int))))], objs := [(0, .box [.val (.int .i64) (b26.1 : Int), .val (.slice (.int .i64)) (b26.2.1 : List Int), .val (.slice (.bool)) (b26.2.2.1 : List Bool), .val (.slice (.prod (.int .i64) (.int .i64))) (b26.2.2.2.1 : List (Int × Int)), .val (.slice (.prod (.int .i64) (.int .i64))) (b26.2.2.2.2.1 : List (Int × Int)), .val (.slice (.int .i64)) (b26.2.2.2.2.2 : List Int)]), (1, .arr (.int .i64) (l27 : List Int)), (2, .arr (.int .i64) (l28 : List Int))], nx := 3 }

def T_impl_EpochOk_lp2_e0 (t23 : List (Int × Int)) (b26 : Int × List Int × List Bool × List (Int × Int) × List (Int × Int) × List Int) (l27 : List Int) : St := { env := [(2, .s (.one (.val (.bool) (false : Bool))))], objs := [], nx := 0 }

def T_impl_EpochOk_lp2_e1 (t23 : List (Int × Int)) (b26 : Int × List Int × List Bool × List (Int × Int) × List (Int × Int) × List Int) (l27 : List Int) (t29 : Int) (t30 : Bool) (l31 : List Int) : St := { env := [(1, .s (.one (.ptr 0 0))), (5, .s (.one (.aptr 1))), (8, .s (.one (.own 2))), (79, .s (.one (.val (.slice (.prod (.int .i64) (.int .i64))) (t23 : List (Int × Int))))), (80, .s (.one (.val (.int .i64) (ilen b26.2.2.2.1 : Int)))), (81, .s (.one (.val (.int .i64) (t29 : Int)))), (82, .s (.one (.val (.bool) (t30 : Bool))))], objs := [(0, .box [.val (.int .i64) (b26.1 : Int), .val (.slice (.int .i64)) (b26.2.1 : List Int), .val (.slice (.bool)) (b26.2.2.1 : List Bool), .val (.slice (.prod (.int .i64) (.int .i64))) (b26.2.2.2.1 : List (Int × Int)), .val (.slice (.prod (.int .i64) (.int .i64))) (b26.2.2.2.2.1 : List (Int × Int)), .val (.slice (.int .i64)) (b26.2.2.2.2.2 : List Int)]), (1, .arr (.int .i64) (l27 : List Int)), (2, .arr (.int .i64) (l31 : List Int))], nx := 3 }

noncomputable def T_impl_EpochOk_lp2_m (N : Nat) {R : Type} (n : Nat) (st : St) (K : Ex → St → Option R) : Option R := loopN (roundG (T_impl_EpochOk_ann 100018) fun st k => sx tab (T_impl_EpochOk_ctx N) T_impl_EpochOk_ann N (nthLoop Try.f42 2) st k) n st K

theorem T_impl_EpochOk_lp2_step (N : Nat) {R : Type} (n : Nat) (K : Ex → St → Option R) (t23 : List (Int × Int)) (t25 : Int) (b26 : Int × List Int × List Bool × List (Int × Int) × List (Int × Int) × List Int) (l27 : List Int) (l28 : List Int) :
    T_impl_EpochOk_lp2_m N (n + 1) (T_impl_EpochOk_lp2_sh t23 t25 b26 l27 l28) K =
    (bif decide (t25 < (ilen b26.2.2.2.1)) then
    (bif inb t25 (List.length t23) then
      (bif (List.getD t23 (Int.toNat t25) ((0 : Int), (0 : Int))).2 != b26.1 then
        (bif (List.getD t23 (Int.toNat t25) ((0 : Int), (0 : Int))).2 != (isub .i64 b26.1 (1 : Int)) then
          (K .ret (T_impl_EpochOk_lp2_e0 t23 b26 l27))
          else
          (bif room ((List.length l28) + (List.length ([(List.getD t23 (Int.toNat t25) ((0 : Int), (0 : Int))).1]))) then
            (T_impl_EpochOk_lp2_m N n (T_impl_EpochOk_lp2_sh t23 (iadd .i64 t25 (1 : Int)) b26 l27 (List.append l28 ([(List.getD t23 (Int.toNat t25) ((0 : Int), (0 : Int))).1]))) K) else none))
        else
        (bif room ((List.length l28) + (List.length ([(List.getD t23 (Int.toNat t25) ((0 : Int), (0 : Int))).1]))) then
          (T_impl_EpochOk_lp2_m N n (T_impl_EpochOk_lp2_sh t23 (iadd .i64 t25 (1 : Int)) b26 l27 (List.append l28 ([(List.getD t23 (Int.toNat t25) ((0 : Int), (0 : Int))).1]))) K) else none)) else none)
    else
    (K (.exit 4) (T_impl_EpochOk_lp2_e1 t23 b26 l27 t25 (decide (t25 < (ilen b26.2.2.2.1))) l28))) := by kernel_rfl

theorem T_impl_EpochOk_lp2_eq (N : Nat) {R : Type} (t23 : List (Int × Int)) (b26 : Int × List Int × List Bool × List (Int × Int) × List (Int × Int) × List Int) (l27 : List Int) (K : Ex → St → Option R) : ∀ (n : Nat) (t25 : Int) (l28 : List Int), T_impl_EpochOk_lp2_m N n (T_impl_EpochOk_lp2_sh t23 t25 b26 l27 l28) K = T_impl_EpochOk_lp2 N t23 b26 l27 (K .ret (T_impl_EpochOk_lp2_e0 t23 b26 l27)) (fun t29 t30 l31 => (K (.exit 4) (T_impl_EpochOk_lp2_e1 t23 b26 l27 t29 t30 l31))) n t25 l28
  | 0, _, _ => rfl
  | n + 1, t25, l28 => by rw [T_impl_EpochOk_lp2_step, T_impl_EpochOk_lp2]; (try simp only [T_impl_EpochOk_lp2_eq N t23 b26 l27 K n])

def T_impl_EpochOk_lp3_sh (t36 : Int) (b37 : Int × List Int × List Bool × List (Int × Int) × List (Int × Int) × List Int) (l38 : List Int) (l39 : List Int) : St := { env := [(1, .s (.one (.ptr 0 0))), (5, .s (.one (.aptr 1))), (104, .s (.one (.own 2))), (105, .s (.one (.val (.int .i64) (ilen l39 : Int)))), (106, .s (.one (.val (.int .i64) (t36 : Int))))], objs := [(0, .box [.val (.int .i64) (b37.1 : Int), .val (.slice (.int .i64)) (b37.2.1 : List Int), .val (.slice (.bool)) (b37.2.2.1 : List Bool), .val (.slice (.prod (.int .i64) (.int .i64))) (b37.2.2.2.1 : List (Int × Int)), .val (.slice (.prod (.int .i64) (.int .i64))) (b37.2.2.2.2.1 : List (Int × Int)), .val (.slice (.int .i64)) (b37.2.2.2.2.2 : List Int)]), (1, .arr (.int .i64) (l38 : List Int)), (2, .arr (.int .i64) (l39 : List Int))], nx := 3 }

def T_impl_EpochOk_lp3_e0 (b37 : Int × List Int × List Bool × List (Int × Int) × List (Int × Int) × List Int) (l39 : List Int) : St := { env := [(2, .s (.one (.val (.bool) (false : Bool))))], objs := [], nx := 0 }

def T_impl_EpochOk_lp3_e1 (b37 : Int × List Int × List Bool × List (Int × Int) × List (Int × Int) × List Int) (l39 : List Int) (t42 : Int) (t43 : Bool) (l44 : List Int) : St := { env := [(1, .s (.one (.ptr 0 0))), (5, .s (.one (.aptr 1))), (104, .s (.one (.own 2))), (105, .s (.one (.val (.int .i64) (ilen l39 : Int)))), (106, .s (.one (.val (.int .i64) (t42 : Int)))), (107, .s (.one (.val (.bool) (t43 : Bool))))], objs := [(0, .box [.val (.int .i64) (b37.1 : Int), .val (.slice (.int .i64)) (b37.2.1 : List Int), .val (.slice (.bool)) (b37.2.2.1 : List Bool), .val (.slice (.prod (.int .i64) (.int .i64))) (b37.2.2.2.1 : List (Int × Int)), .val (.slice (.prod (.int .i64) (.int .i64))) (b37.2.2.2.2.1 : List (Int × Int)), .val (.slice (.int .i64)) (b37.2.2.2.2.2 : List Int)]), (1, .arr (.int .i64) (l44 : List Int)), (2, .arr (.int .i64) (l39 : List Int))], nx := 3 }

noncomputable def T_impl_EpochOk_lp3_m (N : Nat) {R : Type} (n : Nat) (st : St) (K : Ex → St → Option R) : Option R := loopN (roundG (T_impl_EpochOk_ann 100025) fun st k => sx tab (T_impl_EpochOk_ctx N) T_impl_EpochOk_ann N (nthLoop Try.f42 3) st k) n st K

theorem T_impl_EpochOk_lp3_step (N : Nat) {R : Type} (n : Nat) (K : Ex → St → Option R) (t36 : Int) (b37 : Int × List Int × List Bool × List (Int × Int) × List (Int × Int) × List Int) (l38 : List Int) (l39 : List Int) :
    T_impl_EpochOk_lp3_m N (n + 1) (T_impl_EpochOk_lp3_sh t36 b37 l38 l39) K =
    (bif decide (t36 < (ilen l39)) then
    (bif inb t36 (List.length l39) then
      ((T_impl_within N (List.getD l39 (Int.toNat t36) (0 : Int)) (0 : Int) (9 : Int)).bind fun o45 =>
        (bif !o45.2.1 then
          (K .ret (T_impl_EpochOk_lp3_e0 b37 l39))
          else
          (bif (inb (List.getD l39 (Int.toNat t36) (0 : Int)) 10) && (decide ((List.length l38) = 10)) then
            (bif (inb (List.getD l39 (Int.toNat t36) (0 : Int)) 10) && (decide ((List.length l38) = 10)) then
              (T_impl_EpochOk_lp3_m N n (T_impl_EpochOk_lp3_sh (iadd .i64 t36 (1 : Int)) b37 (List.set l38 (Int.toNat (List.getD l39 (Int.toNat t36) (0 : Int))) (iadd .i64 (List.getD l38 (Int.toNat (List.getD l39 (Int.toNat t36) (0 : Int))) (0 : Int)) (1 : Int))) l39) K) else none) else none))) else none)
    else
    (K (.exit 6) (T_impl_EpochOk_lp3_e1 b37 l39 t36 (decide (t36 < (ilen l39))) l38))) := by kernel_rfl

theorem T_impl_EpochOk_lp3_eq (N : Nat) {R : Type} (b37 : Int × List Int × List Bool × List (Int × Int) × List (Int × Int) × List Int) (l39 : List Int) (K : Ex → St → Option R) : ∀ (n : Nat) (t36 : Int) (l38 : List Int), T_impl_EpochOk_lp3_m N n (T_impl_EpochOk_lp3_sh t36 b37 l38 l39) K = T_impl_EpochOk_lp3 N b37 l39 (K .ret (T_impl_EpochOk_lp3_e0 b37 l39)) (fun t42 t43 l44 => (K (.exit 6) (T_impl_EpochOk_lp3_e1 b37 l39 t42 t43 l44))) n t36 l38
  | 0, _, _ => rfl
  | n + 1, t36, l38 => by rw [T_impl_EpochOk_lp3_step, T_impl_EpochOk_lp3]; (try simp only [T_impl_EpochOk_lp3_eq N b37 l39 K n])

def T_impl_EpochOk_lp4_sh (t49 : Int) (t50 : Int) (t51 : Int) (t52 : Int) (t53 : Int) (t54 : Int) (t55 : Int) (t56 : Int) (t57 : Int) (t58 : Int) (t59 : Int) (b60 : Int × List Int × List Bool × List (Int × Int) × List (Int × Int) × List Int) : St := { env := [(1, .s (.one (.ptr 0 0))), (119, .s (.agg [.val (.int .i64) (t49 : Int), .val (.int .i64) (t50 : Int), .val (.int .i64) (t51 : Int), .val (.int .i64) (t52 : Int), .val (.int .i64) (t53 : Int), .val (.int .i64) (t54 : Int), .val (.int .i64) (t55 : Int), .val (.int .i64) (t56 : Int), .val (.int .i64) (t57 : Int), .val (.int .i64) (t58 : Int)])), (120, .s (.one (.val (.int .i64) (t59 : Int))))], objs := [(0, .box [.val (.int .i64) (b60.1 : Int), .val (.slice (.int .i64)) (b60.2.1 : List Int), .val (.slice (.bool)) (b60.2.2.1 : List Bool), .val (.slice (.prod (.int .i64) (.int .i64))) (b60.2.2.2.1 : List (Int × Int)), .val (.slice (.prod (.int .i64) (.int .i64))) (b60.2.2.2.2.1 : List (Int × Int)), .val (.slice (.int .i64)) (b60.2.2.2.2.2 : List Int)])], nx := 1 }

def T_impl_EpochOk_lp4_e0 (t49 : Int) (t50 : Int) (t51 : Int) (t52 : Int) (t53 : Int) (t54 : Int) (t55 : Int) (t56 : Int) (t57 : Int) (t58 : Int) (b60 : Int × List Int × List Bool × List (Int × Int) × List (Int × Int) × List Int) : St := { env := [(2, .s (.one (.val (.bool) (false : Bool))))], objs := [], nx := 0 }

def T_impl_EpochOk_lp4_e1 (t49 : Int) (t50 : Int) (t51 : Int) (t52 : Int) (t53 : Int) (t54 : Int) (t55 : Int) (t56 : Int) (t57 : Int) (t58 : Int) (b60 : Int × List Int × List Bool × List (Int × Int) × List (Int × Int) × List Int) (t61 : Int) (t62 : Bool) : St := { env := [(1, .s (.one (.ptr 0 0))), (119, .s (.agg [.val (.int .i64) (t49 : Int), .val (.int .i64) (t50 : Int), .val (.int .i64) (t51 : Int), .val (.int .i64) (t52 : Int), .val (.int .i64) (t53 : Int), .val (.int .i64) (t54 : Int), .val (.int .i64) (t55 : Int), .val (.int .i64) (t56 : Int), .val (.int .i64) (t57 : Int), .val (.int .i64) (t58 : Int)])), (120, .s (.one (.val (.int .i64) (t61 : Int)))), (121, .s (.one (.val (.bool) (t62 : Bool))))], objs := [(0, .box [.val (.int .i64) (b60.1 : Int), .val (.slice (.int .i64)) (b60.2.1 : List Int), .val (.slice (.bool)) (b60.2.2.1 : List Bool), .val (.slice (.prod (.int .i64) (.int .i64))) (b60.2.2.2.1 : List (Int × Int)), .val (.slice (.prod (.int .i64) (.int .i64))) (b60.2.2.2.2.1 : List (Int × Int)), .val (.slice (.int .i64)) (b60.2.2.2.2.2 : List Int)])], nx := 1 }

noncomputable def T_impl_EpochOk_lp4_m (N : Nat) {R : Type} (n : Nat) (st : St) (K : Ex → St → Option R) : Option R := loopN (roundG (T_impl_EpochOk_ann 100032) fun st k => sx tab (T_impl_EpochOk_ctx N) T_impl_EpochOk_ann N (nthLoop Try.f42 4) st k) n st K

theorem T_impl_EpochOk_lp4_step (N : Nat) {R : Type} (n : Nat) (K : Ex → St → Option R) (t49 : Int) (t50 : Int) (t51 : Int) (t52 : Int) (t53 : Int) (t54 : Int) (t55 : Int) (t56 : Int) (t57 : Int) (t58 : Int) (t59 : Int) (b60 : Int × List Int × List Bool × List (Int × Int) × List (Int × Int) × List Int) :
    T_impl_EpochOk_lp4_m N (n + 1) (T_impl_EpochOk_lp4_sh t49 t50 t51 t52 t53 t54 t55 t56 t57 t58 t59 b60) K =
    (bif decide (t59 < (10 : Int)) then
    (bif inb t59 10 then
      (bif (List.getD ([t49, t50, t51, t52, t53, t54, t55, t56, t57, t58]) (Int.toNat t59) (0 : Int)) != (1 : Int) then
        (K .ret (T_impl_EpochOk_lp4_e0 t49 t50 t51 t52 t53 t54 t55 t56 t57 t58 b60))
        else
        (T_impl_EpochOk_lp4_m N n (T_impl_EpochOk_lp4_sh t49 t50 t51 t52 t53 t54 t55 t56 t57 t58 (iadd .i64 t59 (1 : Int)) b60) K)) else none)
    else
    (K (.exit 8) (T_impl_EpochOk_lp4_e1 t49 t50 t51 t52 t53 t54 t55 t56 t57 t58 b60 t59 (decide (t59 < (10 : Int)))))) := by kernel_rfl

theorem T_impl_EpochOk_lp4_eq (N : Nat) {R : Type} (t49 : Int) (t50 : Int) (t51 : Int) (t52 : Int) (t53 : Int) (t54 : Int) (t55 : Int) (t56 : Int) (t57 : Int) (t58 : Int) (b60 : Int × List Int × List Bool × List (Int × Int) × List (Int × Int) × List Int) (K : Ex → St → Option R) : ∀ (n : Nat) (t59 : Int), T_impl_EpochOk_lp4_m N n (T_impl_EpochOk_lp4_sh t49 t50 t51 t52 t53 t54 t55 t56 t57 t58 t59 b60) K = T_impl_EpochOk_lp4 N t49 t50 t51 t52 t53 t54 t55 t56 t57 t58 b60 (K .ret (T_impl_EpochOk_lp4_e0 t49 t50 t51 t52 t53 t54 t55 t56 t57 t58 b60)) (fun t61 t62 => (K (.exit 8) (T_impl_EpochOk_lp4_e1 t49 t50 t51 t52 t53 t54 t55 t56 t57 t58 b60 t61 t62))) n t59
  | 0, _ => rfl
  | n + 1, t59 => by rw [T_impl_EpochOk_lp4_step, T_impl_EpochOk_lp4]; (try simp only [T_impl_EpochOk_lp4_eq N t49 t50 t51 t52 t53 t54 t55 t56 t57 t58 b60 K n])

def T_impl_EpochOk_lp5_sh (t65 : List (Int × Int)) (t67 : Int) (b68 : Int × List Int × List Bool × List (Int × Int) × List (Int × Int) × List Int) : St := { env := [(1, .s (.one (.ptr 0 0))), (127, .s (.one (.val (.slice (.prod (.int .i64) (.int .i64))) (t65 : List (Int × Int))))), (128, .s (.one (.val (.int .i64) (ilen b68.2.2.2.2.1 : Int)))), (129, .s (.one (.val (.int .i64) (t67 : Int))))], objs := [(0, .box [.val (.int .i64) (b68.1 : Int), .val (.slice (.int .i64)) (b68.2.1 : List Int), .val (.slice (.bool)) (b68.2.2.1 : List Bool), .val (.slice (.prod (.int .i64) (.int .i64))) (b68.2.2.2.1 : List (Int × Int)), .val (.slice (.prod (.int .i64) (.int .i64))) (b68.2.2.2.2.1 : List (Int × Int)), .val (.slice (.int .i64)) (b68.2.2.2.2.2 : List Int)])], nx := 1 }

def T_impl_EpochOk_lp5_e0 (t65 : List (Int × Int)) (b68 : Int × List Int × List Bool × List (Int × Int) × List (Int × Int) × List Int) : St := { env := [(2, .s (.one (.val (.bool) (false : Bool))))], objs := [], nx := 0 }

def T_impl_EpochOk_lp5_e1 (t65 : List (Int × Int)) (b68 : Int × List Int × List Bool × List (Int × Int) × List (Int × Int) × List Int) (t73 : Int) (t74 : Bool) : St := { env := [(1, .s (.one (.ptr 0 0))), (127, .s (.one (.val (.slice (.prod (.int .i64) (.int .i64))) (t65 : List (Int × Int))))), (128, .s (.one (.val (.int .i64) (ilen b68.2.2.2.2.1 : Int)))), (129, .s (.one (.val (.int .i64) (t73 : Int)))), (130, .s (.one (.val (.bool) (t74 : Bool))))], objs := [(0, .box [.val (.int .i64) (b68.1 : Int), .val (.slice (.int .i64)) (b68.2.1 : List Int), .val (.slice (.bool)) (b68.2.2.1 : List Bool), .val (.slice (.prod (.int .i64) (.int .i64))) (b68.2.2.2.1 : List (Int × Int)), .val (.slice (.prod (.int .i64) (.int .i64))) (b68.2.2.2.2.1 : List (Int × Int)), .val (.slice (.int .i64)) (b68.2.2.2.2.2 : List Int)])], nx := 1 }

noncomputable def T_impl_EpochOk_lp5_m (N : Nat) {R : Type} (n : Nat) (st : St) (K : Ex → St → Option R) : Option R := loopN (roundG (T_impl_EpochOk_ann 100038) fun st k => sx tab (T_impl_EpochOk_ctx N) T_impl_EpochOk_ann N (nthLoop Try.f42 5) st k) n st K

theorem T_impl_EpochOk_lp5_step (N : Nat) {R : Type} (n : Nat) (K : Ex → St → Option R) (t65 : List (Int × Int)) (t67 : Int) (b68 : Int × List Int × List Bool × List (Int × Int) × List (Int × Int) × List Int) :
    T_impl_EpochOk_lp5_m N (n + 1) (T_impl_EpochOk_lp5_sh t65 t67 b68) K =
    (bif decide (t67 < (ilen b68.2.2.2.2.1)) then
    (bif inb t67 (List.length t65) then
      ((T_impl_within N (List.getD t65 (Int.toNat t67) ((0 : Int), (0 : Int))).1 (0 : Int) (2 : Int)).bind fun o75 =>
        (bif !o75.2.1 then
          (K .ret (T_impl_EpochOk_lp5_e0 t65 b68))
          else
          (bif inb (List.getD t65 (Int.toNat t67) ((0 : Int), (0 : Int))).1 (List.length b68.2.1) then
            (bif decide ((List.getD b68.2.1 (Int.toNat (List.getD t65 (Int.toNat t67) ((0 : Int), (0 : Int))).1) (0 : Int)) < (0 : Int)) then
              (K .ret (T_impl_EpochOk_lp5_e0 t65 b68))
              else
              ((T_impl_within N (List.getD t65 (Int.toNat t67) ((0 : Int), (0 : Int))).2 (0 : Int) (9 : Int)).bind fun o76 =>
                (bif !o76.2.1 then
                  (K .ret (T_impl_EpochOk_lp5_e0 t65 b68))
                  else
                  (T_impl_EpochOk_lp5_m N n (T_impl_EpochOk_lp5_sh t65 (iadd .i64 t67 (1 : Int)) b68) K)))) else none))) else none)
    else
    (K (.exit 10) (T_impl_EpochOk_lp5_e1 t65 b68 t67 (decide (t67 < (ilen b68.2.2.2.2.1)))))) := by kernel_rfl

theorem T_impl_EpochOk_lp5_eq (N : Nat) {R : Type} (t65 : List (Int × Int)) (b68 : Int × List Int × List Bool × List (Int × Int) × List (Int × Int) × List Int) (K : Ex → St → Option R) : ∀ (n : Nat) (t67 : Int), T_impl_EpochOk_lp5_m N n (T_impl_EpochOk_lp5_sh t65 t67 b68) K = T_impl_EpochOk_lp5 N t65 b68 (K .ret (T_impl_EpochOk_lp5_e0 t65 b68)) (fun t73 t74 => (K (.exit 10) (T_impl_EpochOk_lp5_e1 t65 b68 t73 t74))) n t67
  | 0, _ => rfl
  | n + 1, t67 => by rw [T_impl_EpochOk_lp5_step, T_impl_EpochOk_lp5]; (try simp only [T_impl_EpochOk_lp5_eq N t65 b68 K n])

theorem T_impl_EpochOk_c1 (N : Nat) (e1 : Int × List Int × List Bool × List (Int × Int) × List (Int × Int) × List Int) :
    ((ctxK (R := ODen (T_impl_EpochOk_sg N).ps × RDen (T_impl_EpochOk_sg N).rs) tab (T_impl_EpochOk_ctx N) T_impl_EpochOk_ann N (theCode Try.f42) [1, 1, 0, 1, 0] (retK tab (T_impl_EpochOk_sg N) Try.f42.results.toList some)) .ret (T_impl_EpochOk_lp0_e0 e1.2.1 e1)) =
    (some (α := ODen (T_impl_EpochOk_sg N).ps × RDen (T_impl_EpochOk_sg N).rs) ((), (false, ()))) := by kernel_rfl

theorem T_impl_EpochOk_c4 (N : Nat) (e1 : Int × List Int × List Bool × List (Int × Int) × List (Int × Int) × List Int) (l21 : List Int) :
    ((ctxK (R := ODen (T_impl_EpochOk_sg N).ps × RDen (T_impl_EpochOk_sg N).rs) tab (T_impl_EpochOk_ctx N) T_impl_EpochOk_ann N (theCode Try.f42) [1, 1, 1, 1, 1, 1, 0, 1, 0] (retK tab (T_impl_EpochOk_sg N) Try.f42.results.toList some)) .ret (T_impl_EpochOk_lp2_e0 e1.2.2.2.1 e1 l21)) =
    (some (α := ODen (T_impl_EpochOk_sg N).ps × RDen (T_impl_EpochOk_sg N).rs) ((), (false, ()))) := by kernel_rfl

theorem T_impl_EpochOk_c6 (N : Nat) (e1 : Int × List Int × List Bool × List (Int × Int) × List (Int × Int) × List Int) (l34 : List Int) :
    ((ctxK (R := ODen (T_impl_EpochOk_sg N).ps × RDen (T_impl_EpochOk_sg N).rs) tab (T_impl_EpochOk_ctx N) T_impl_EpochOk_ann N (theCode Try.f42) [1, 1, 1, 1, 1, 1, 1, 0, 1, 0] (retK tab (T_impl_EpochOk_sg N) Try.f42.results.toList some)) .ret (T_impl_EpochOk_lp3_e0 e1 l34)) =
    (some (α := ODen (T_impl_EpochOk_sg N).ps × RDen (T_impl_EpochOk_sg N).rs) ((), (false, ()))) := by kernel_rfl

theorem T_impl_EpochOk_c8 (N : Nat) (l48 : List Int) (e1 : Int × List Int × List Bool × List (Int × Int) × List (Int × Int) × List Int) :
    ((ctxK (R := ODen (T_impl_EpochOk_sg N).ps × RDen (T_impl_EpochOk_sg N).rs) tab (T_impl_EpochOk_ctx N) T_impl_EpochOk_ann N (theCode Try.f42) [1, 1, 1, 1, 1, 1, 1, 1, 0, 1, 0] (retK tab (T_impl_EpochOk_sg N) Try.f42.results.toList some)) .ret (T_impl_EpochOk_lp4_e0 (List.getD l48 0 (0 : Int)) (List.getD l48 1 (0 : Int)) (List.getD l48 2 (0 : Int)) (List.getD l48 3 (0 : Int)) (List.getD l48 4 (0 : Int)) (List.getD l48 5 (0 : Int)) (List.getD l48 6 (0 : Int)) (List.getD l48 7 (0 : Int)) (List.getD l48 8 (0 : Int)) (List.getD l48 9 (0 : Int)) e1)) =
    (some (α := ODen (T_impl_EpochOk_sg N).ps × RDen (T_impl_EpochOk_sg N).rs) ((), (false, ()))) := by kernel_rfl

theorem T_impl_EpochOk_c10 (N : Nat) (e1 : Int × List Int × List Bool × List (Int × Int) × List (Int × Int) × List Int) :
    ((ctxK (R := ODen (T_impl_EpochOk_sg N).ps × RDen (T_impl_EpochOk_sg N).rs) tab (T_impl_EpochOk_ctx N) T_impl_EpochOk_ann N (theCode Try.f42) [1, 1, 1, 1, 1, 1, 1, 1, 1, 0, 1, 0] (retK tab (T_impl_EpochOk_sg N) Try.f42.results.toList some)) .ret (T_impl_EpochOk_lp5_e0 e1.2.2.2.2.1 e1)) =
    (some (α := ODen (T_impl_EpochOk_sg N).ps × RDen (T_impl_EpochOk_sg N).rs) ((), (false, ()))) := by kernel_rfl

theorem T_impl_EpochOk_c11 (N : Nat) (e1 : Int × List Int × List Bool × List (Int × Int) × List (Int × Int) × List Int) (t77 : Int) (t78 : Bool) :
    ((ctxK (R := ODen (T_impl_EpochOk_sg N).ps × RDen (T_impl_EpochOk_sg N).rs) tab (T_impl_EpochOk_ctx N) T_impl_EpochOk_ann N (theCode Try.f42) [1, 1, 1, 1, 1, 1, 1, 1, 1, 0, 1, 0] (retK tab (T_impl_EpochOk_sg N) Try.f42.results.toList some)) (.exit 10) (T_impl_EpochOk_lp5_e1 e1.2.2.2.2.1 e1 t77 t78)) =
    (some (α := ODen (T_impl_EpochOk_sg N).ps × RDen (T_impl_EpochOk_sg N).rs) ((), (true, ()))) := by kernel_rfl

theorem T_impl_EpochOk_c9 (N : Nat) (l48 : List Int) (e1 : Int × List Int × List Bool × List (Int × Int) × List (Int × Int) × List Int) (t63 : Int) (t64 : Bool) :
    ((ctxK (R := ODen (T_impl_EpochOk_sg N).ps × RDen (T_impl_EpochOk_sg N).rs) tab (T_impl_EpochOk_ctx N) T_impl_EpochOk_ann N (theCode Try.f42) [1, 1, 1, 1, 1, 1, 1, 1, 0, 1, 0] (retK tab (T_impl_EpochOk_sg N) Try.f42.results.toList some)) (.exit 8) (T_impl_EpochOk_lp4_e1 (List.getD l48 0 (0 : Int)) (List.getD l48 1 (0 : Int)) (List.getD l48 2 (0 : Int)) (List.getD l48 3 (0 : Int)) (List.getD l48 4 (0 : Int)) (List.getD l48 5 (0 : Int)) (List.getD l48 6 (0 : Int)) (List.getD l48 7 (0 : Int)) (List.getD l48 8 (0 : Int)) (List.getD l48 9 (0 : Int)) e1 t63 t64)) =
    (T_impl_EpochOk_lp5 N e1.2.2.2.2.1 e1
    (some (α := ODen (T_impl_EpochOk_sg N).ps × RDen (T_impl_EpochOk_sg N).rs) ((), (false, ())))
    (fun t77 t78 =>
      (some (α := ODen (T_impl_EpochOk_sg N).ps × RDen (T_impl_EpochOk_sg N).rs) ((), (true, ()))))
     N (0 : Int)) := by
  have h : ((ctxK (R := ODen (T_impl_EpochOk_sg N).ps × RDen (T_impl_EpochOk_sg N).rs) tab (T_impl_EpochOk_ctx N) T_impl_EpochOk_ann N (theCode Try.f42) [1, 1, 1, 1, 1, 1, 1, 1, 0, 1, 0] (retK tab (T_impl_EpochOk_sg N) Try.f42.results.toList some)) (.exit 8) (T_impl_EpochOk_lp4_e1 (List.getD l48 0 (0 : Int)) (List.getD l48 1 (0 : Int)) (List.getD l48 2 (0 : Int)) (List.getD l48 3 (0 : Int)) (List.getD l48 4 (0 : Int)) (List.getD l48 5 (0 : Int)) (List.getD l48 6 (0 : Int)) (List.getD l48 7 (0 : Int)) (List.getD l48 8 (0 : Int)) (List.getD l48 9 (0 : Int)) e1 t63 t64)) =
    (T_impl_EpochOk_lp5_m N N (T_impl_EpochOk_lp5_sh e1.2.2.2.2.1 (0 : Int) e1) (ctxK (R := ODen (T_impl_EpochOk_sg N).ps × RDen (T_impl_EpochOk_sg N).rs) tab (T_impl_EpochOk_ctx N) T_impl_EpochOk_ann N (theCode Try.f42) [1, 1, 1, 1, 1, 1, 1, 1, 1, 0, 1, 0] (retK tab (T_impl_EpochOk_sg N) Try.f42.results.toList some))) := by kernel_rfl
  rw [h]
  (try simp only [T_impl_EpochOk_lp5_eq, T_impl_EpochOk_c10, T_impl_EpochOk_c11]) <;> rfl

theorem T_impl_EpochOk_c7 (N : Nat) (e1 : Int × List Int × List Bool × List (Int × Int) × List (Int × Int) × List Int) (l34 : List Int) (t46 : Int) (t47 : Bool) (l48 : List Int) :
    ((ctxK (R := ODen (T_impl_EpochOk_sg N).ps × RDen (T_impl_EpochOk_sg N).rs) tab (T_impl_EpochOk_ctx N) T_impl_EpochOk_ann N (theCode Try.f42) [1, 1, 1, 1, 1, 1, 1, 0, 1, 0] (retK tab (T_impl_EpochOk_sg N) Try.f42.results.toList some)) (.exit 6) (T_impl_EpochOk_lp3_e1 e1 l34 t46 t47 l48)) =
    (bif decide ((List.length l48) = 10) then
    (T_impl_EpochOk_lp4 N (List.getD l48 0 (0 : Int)) (List.getD l48 1 (0 : Int)) (List.getD l48 2 (0 : Int)) (List.getD l48 3 (0 : Int)) (List.getD l48 4 (0 : Int)) (List.getD l48 5 (0 : Int)) (List.getD l48 6 (0 : Int)) (List.getD l48 7 (0 : Int)) (List.getD l48 8 (0 : Int)) (List.getD l48 9 (0 : Int)) e1
      (some (α := ODen (T_impl_EpochOk_sg N).ps × RDen (T_impl_EpochOk_sg N).rs) ((), (false, ())))
      (fun t63 t64 =>
        (T_impl_EpochOk_lp5 N e1.2.2.2.2.1 e1
          (some (α := ODen (T_impl_EpochOk_sg N).ps × RDen (T_impl_EpochOk_sg N).rs) ((), (false, ())))
          (fun t77 t78 =>
            (some (α := ODen (T_impl_EpochOk_sg N).ps × RDen (T_impl_EpochOk_sg N).rs) ((), (true, ()))))
           N (0 : Int)))
       N (0 : Int)) else none) := by
  have h : ((ctxK (R := ODen (T_impl_EpochOk_sg N).ps × RDen (T_impl_EpochOk_sg N).rs) tab (T_impl_EpochOk_ctx N) T_impl_EpochOk_ann N (theCode Try.f42) [1, 1, 1, 1, 1, 1, 1, 0, 1, 0] (retK tab (T_impl_EpochOk_sg N) Try.f42.results.toList some)) (.exit 6) (T_impl_EpochOk_lp3_e1 e1 l34 t46 t47 l48)) =
    (bif decide ((List.length l48) = 10) then
    (T_impl_EpochOk_lp4_m N N (T_impl_EpochOk_lp4_sh (List.getD l48 0 (0 : Int)) (List.getD l48 1 (0 : Int)) (List.getD l48 2 (0 : Int)) (List.getD l48 3 (0 : Int)) (List.getD l48 4 (0 : Int)) (List.getD l48 5 (0 : Int)) (List.getD l48 6 (0 : Int)) (List.getD l48 7 (0 : Int)) (List.getD l48 8 (0 : Int)) (List.getD l48 9 (0 : Int)) (0 : Int) e1) (ctxK (R := ODen (T_impl_EpochOk_sg N).ps × RDen (T_impl_EpochOk_sg N).rs) tab (T_impl_EpochOk_ctx N) T_impl_EpochOk_ann N (theCode Try.f42) [1, 1, 1, 1, 1, 1, 1, 1, 0, 1, 0] (retK tab (T_impl_EpochOk_sg N) Try.f42.results.toList some))) else none) := by kernel_rfl
  rw [h]
  (try simp only [T_impl_EpochOk_lp4_eq, T_impl_EpochOk_c8, T_impl_EpochOk_c9]) <;> rfl

theorem T_impl_EpochOk_c5 (N : Nat) (e1 : Int × List Int × List Bool × List (Int × Int) × List (Int × Int) × List Int) (l21 : List Int) (t32 : Int) (t33 : Bool) (l34 : List Int) :
    ((ctxK (R := ODen (T_impl_EpochOk_sg N).ps × RDen (T_impl_EpochOk_sg N).rs) tab (T_impl_EpochOk_ctx N) T_impl_EpochOk_ann N (theCode Try.f42) [1, 1, 1, 1, 1, 1, 0, 1, 0] (retK tab (T_impl_EpochOk_sg N) Try.f42.results.toList some)) (.exit 4) (T_impl_EpochOk_lp2_e1 e1.2.2.2.1 e1 l21 t32 t33 l34)) =
    (T_impl_EpochOk_lp3 N e1 l34
    (some (α := ODen (T_impl_EpochOk_sg N).ps × RDen (T_impl_EpochOk_sg N).rs) ((), (false, ())))
    (fun t46 t47 l48 =>
      (bif decide ((List.length l48) = 10) then
        (T_impl_EpochOk_lp4 N (List.getD l48 0 (0 : Int)) (List.getD l48 1 (0 : Int)) (List.getD l48 2 (0 : Int)) (List.getD l48 3 (0 : Int)) (List.getD l48 4 (0 : Int)) (List.getD l48 5 (0 : Int)) (List.getD l48 6 (0 : Int)) (List.getD l48 7 (0 : Int)) (List.getD l48 8 (0 : Int)) (List.getD l48 9 (0 : Int)) e1
          (some (α := ODen (T_impl_EpochOk_sg N).ps × RDen (T_impl_EpochOk_sg N).rs) ((), (false, ())))
          (fun t63 t64 =>
            (T_impl_EpochOk_lp5 N e1.2.2.2.2.1 e1
              (some (α := ODen (T_impl_EpochOk_sg N).ps × RDen (T_impl_EpochOk_sg N).rs) ((), (false, ())))
              (fun t77 t78 =>
                (some (α := ODen (T_impl_EpochOk_sg N).ps × RDen (T_impl_EpochOk_sg N).rs) ((), (true, ()))))
               N (0 : Int)))
           N (0 : Int)) else none))
     N (0 : Int) l21) := by
  have h : ((ctxK (R := ODen (T_impl_EpochOk_sg N).ps × RDen (T_impl_EpochOk_sg N).rs) tab (T_impl_EpochOk_ctx N) T_impl_EpochOk_ann N (theCode Try.f42) [1, 1, 1, 1, 1, 1, 0, 1, 0] (retK tab (T_impl_EpochOk_sg N) Try.f42.results.toList some)) (.exit 4) (T_impl_EpochOk_lp2_e1 e1.2.2.2.1 e1 l21 t32 t33 l34)) =
    (T_impl_EpochOk_lp3_m N N (T_impl_EpochOk_lp3_sh (0 : Int) e1 l21 l34) (ctxK (R := ODen (T_impl_EpochOk_sg N).ps × RDen (T_impl_EpochOk_sg N).rs) tab (T_impl_EpochOk_ctx N) T_impl_EpochOk_ann N (theCode Try.f42) [1, 1, 1, 1, 1, 1, 1, 0, 1, 0] (retK tab (T_impl_EpochOk_sg N) Try.f42.results.toList some))) := by kernel_rfl
  rw [h]
  (try simp only [T_impl_EpochOk_lp3_eq, T_impl_EpochOk_c6, T_impl_EpochOk_c7]) <;> rfl

theorem T_impl_EpochOk_c3 (N : Nat) (e1 : Int × List Int × List Bool × List (Int × Int) × List (Int × Int) × List Int) (t19 : Int) (t20 : Bool) (l21 : List Int) :
    ((ctxK (R := ODen (T_impl_EpochOk_sg N).ps × RDen (T_impl_EpochOk_sg N).rs) tab (T_impl_EpochOk_ctx N) T_impl_EpochOk_ann N (theCode Try.f42) [1, 1, 1, 1, 0, 1, 0] (retK tab (T_impl_EpochOk_sg N) Try.f42.results.toList some)) (.exit 2) (T_impl_EpochOk_lp1_e0 e1.2.2.1 e1 t19 t20 l21)) =
    ((T_impl_copyInts N e1.2.2.2.2.2).bind fun o22 =>
    (T_impl_EpochOk_lp2 N e1.2.2.2.1 e1 l21
      (some (α := ODen (T_impl_EpochOk_sg N).ps × RDen (T_impl_EpochOk_sg N).rs) ((), (false, ())))
      (fun t32 t33 l34 =>
        (T_impl_EpochOk_lp3 N e1 l34
          (some (α := ODen (T_impl_EpochOk_sg N).ps × RDen (T_impl_EpochOk_sg N).rs) ((), (false, ())))
          (fun t46 t47 l48 =>
            (bif decide ((List.length l48) = 10) then
              (T_impl_EpochOk_lp4 N (List.getD l48 0 (0 : Int)) (List.getD l48 1 (0 : Int)) (List.getD l48 2 (0 : Int)) (List.getD l48 3 (0 : Int)) (List.getD l48 4 (0 : Int)) (List.getD l48 5 (0 : Int)) (List.getD l48 6 (0 : Int)) (List.getD l48 7 (0 : Int)) (List.getD l48 8 (0 : Int)) (List.getD l48 9 (0 : Int)) e1
                (some (α := ODen (T_impl_EpochOk_sg N).ps × RDen (T_impl_EpochOk_sg N).rs) ((), (false, ())))
                (fun t63 t64 =>
                  (T_impl_EpochOk_lp5 N e1.2.2.2.2.1 e1
                    (some (α := ODen (T_impl_EpochOk_sg N).ps × RDen (T_impl_EpochOk_sg N).rs) ((), (false, ())))
                    (fun t77 t78 =>
                      (some (α := ODen (T_impl_EpochOk_sg N).ps × RDen (T_impl_EpochOk_sg N).rs) ((), (true, ()))))
                     N (0 : Int)))
                 N (0 : Int)) else none))
           N (0 : Int) l21))
       N (0 : Int) o22.2.1)) := by
  have h : ((ctxK (R := ODen (T_impl_EpochOk_sg N).ps × RDen (T_impl_EpochOk_sg N).rs) tab (T_impl_EpochOk_ctx N) T_impl_EpochOk_ann N (theCode Try.f42) [1, 1, 1, 1, 0, 1, 0] (retK tab (T_impl_EpochOk_sg N) Try.f42.results.toList some)) (.exit 2) (T_impl_EpochOk_lp1_e0 e1.2.2.1 e1 t19 t20 l21)) =
    ((T_impl_copyInts N e1.2.2.2.2.2).bind fun o22 =>
    (T_impl_EpochOk_lp2_m N N (T_impl_EpochOk_lp2_sh e1.2.2.2.1 (0 : Int) e1 l21 o22.2.1) (ctxK (R := ODen (T_impl_EpochOk_sg N).ps × RDen (T_impl_EpochOk_sg N).rs) tab (T_impl_EpochOk_ctx N) T_impl_EpochOk_ann N (theCode Try.f42) [1, 1, 1, 1, 1, 1, 0, 1, 0] (retK tab (T_impl_EpochOk_sg N) Try.f42.results.toList some)))) := by kernel_rfl
  rw [h]
  (try simp only [T_impl_EpochOk_lp2_eq, T_impl_EpochOk_c4, T_impl_EpochOk_c5]) <;> rfl

theorem T_impl_EpochOk_c2 (N : Nat) (e1 : Int × List Int × List Bool × List (Int × Int) × List (Int × Int) × List Int) (t9 : Int) (t10 : Bool) :
    ((ctxK (R := ODen (T_impl_EpochOk_sg N).ps × RDen (T_impl_EpochOk_sg N).rs) tab (T_impl_EpochOk_ctx N) T_impl_EpochOk_ann N (theCode Try.f42) [1, 1, 0, 1, 0] (retK tab (T_impl_EpochOk_sg N) Try.f42.results.toList some)) (.exit 0) (T_impl_EpochOk_lp0_e1 e1.2.1 e1 t9 t10)) =
    (T_impl_EpochOk_lp1 N e1.2.2.1 e1
    (fun t19 t20 l21 =>
      ((T_impl_copyInts N e1.2.2.2.2.2).bind fun o22 =>
        (T_impl_EpochOk_lp2 N e1.2.2.2.1 e1 l21
          (some (α := ODen (T_impl_EpochOk_sg N).ps × RDen (T_impl_EpochOk_sg N).rs) ((), (false, ())))
          (fun t32 t33 l34 =>
            (T_impl_EpochOk_lp3 N e1 l34
              (some (α := ODen (T_impl_EpochOk_sg N).ps × RDen (T_impl_EpochOk_sg N).rs) ((), (false, ())))
              (fun t46 t47 l48 =>
                (bif decide ((List.length l48) = 10) then
                  (T_impl_EpochOk_lp4 N (List.getD l48 0 (0 : Int)) (List.getD l48 1 (0 : Int)) (List.getD l48 2 (0 : Int)) (List.getD l48 3 (0 : Int)) (List.getD l48 4 (0 : Int)) (List.getD l48 5 (0 : Int)) (List.getD l48 6 (0 : Int)) (List.getD l48 7 (0 : Int)) (List.getD l48 8 (0 : Int)) (List.getD l48 9 (0 : Int)) e1
                    (some (α := ODen (T_impl_EpochOk_sg N).ps × RDen (T_impl_EpochOk_sg N).rs) ((), (false, ())))
                    (fun t63 t64 =>
                      (T_impl_EpochOk_lp5 N e1.2.2.2.2.1 e1
                        (some (α := ODen (T_impl_EpochOk_sg N).ps × RDen (T_impl_EpochOk_sg N).rs) ((), (false, ())))
                        (fun t77 t78 =>
                          (some (α := ODen (T_impl_EpochOk_sg N).ps × RDen (T_impl_EpochOk_sg N).rs) ((), (true, ()))))
                         N (0 : Int)))
                     N (0 : Int)) else none))
               N (0 : Int) l21))
           N (0 : Int) o22.2.1)))
     N (0 : Int) (List.replicate 10 (0 : Int))) := by
  have h : ((ctxK (R := ODen (T_impl_EpochOk_sg N).ps × RDen (T_impl_EpochOk_sg N).rs) tab (T_impl_EpochOk_ctx N) T_impl_EpochOk_ann N (theCode Try.f42) [1, 1, 0, 1, 0] (retK tab (T_impl_EpochOk_sg N) Try.f42.results.toList some)) (.exit 0) (T_impl_EpochOk_lp0_e1 e1.2.1 e1 t9 t10)) =
    (T_impl_EpochOk_lp1_m N N (T_impl_EpochOk_lp1_sh e1.2.2.1 (0 : Int) e1 (List.replicate 10 (0 : Int))) (ctxK (R := ODen (T_impl_EpochOk_sg N).ps × RDen (T_impl_EpochOk_sg N).rs) tab (T_impl_EpochOk_ctx N) T_impl_EpochOk_ann N (theCode Try.f42) [1, 1, 1, 1, 0, 1, 0] (retK tab (T_impl_EpochOk_sg N) Try.f42.results.toList some))) := by kernel_rfl
  rw [h]
  (try simp only [T_impl_EpochOk_lp1_eq, T_impl_EpochOk_c3]) <;> rfl

theorem T_impl_EpochOk_den (N : Nat) (e1 : Int × List Int × List Bool × List (Int × Int) × List (Int × Int) × List Int) :
    den (R := ODen (T_impl_EpochOk_sg N).ps × RDen (T_impl_EpochOk_sg N).rs) tab (T_impl_EpochOk_ctx N) T_impl_EpochOk_ann N (T_impl_EpochOk_sg N) Try.f42 (e1, ()) some =
    (bif (ilen e1.2.1) != (3 : Int) then
    (some (α := ODen (T_impl_EpochOk_sg N).ps × RDen (T_impl_EpochOk_sg N).rs) ((), (false, ())))
    else
    (bif (ilen e1.2.2.1) != (10 : Int) then
      (some (α := ODen (T_impl_EpochOk_sg N).ps × RDen (T_impl_EpochOk_sg N).rs) ((), (false, ())))
      else
      ((T_impl_within N e1.1 (0 : Int) (205 : Int)).bind fun o2 =>
        (bif !o2.2.1 then
          (some (α := ODen (T_impl_EpochOk_sg N).ps × RDen (T_impl_EpochOk_sg N).rs) ((), (false, ())))
          else
          (T_impl_EpochOk_lp0 N e1.2.1 e1
            (some (α := ODen (T_impl_EpochOk_sg N).ps × RDen (T_impl_EpochOk_sg N).rs) ((), (false, ())))
            (fun t9 t10 =>
              (T_impl_EpochOk_lp1 N e1.2.2.1 e1
                (fun t19 t20 l21 =>
                  ((T_impl_copyInts N e1.2.2.2.2.2).bind fun o22 =>
                    (T_impl_EpochOk_lp2 N e1.2.2.2.1 e1 l21
                      (some (α := ODen (T_impl_EpochOk_sg N).ps × RDen (T_impl_EpochOk_sg N).rs) ((), (false, ())))
                      (fun t32 t33 l34 =>
                        (T_impl_EpochOk_lp3 N e1 l34
                          (some (α := ODen (T_impl_EpochOk_sg N).ps × RDen (T_impl_EpochOk_sg N).rs) ((), (false, ())))
                          (fun t46 t47 l48 =>
                            (bif decide ((List.length l48) = 10) then
                              (T_impl_EpochOk_lp4 N (List.getD l48 0 (0 : Int)) (List.getD l48 1 (0 : Int)) (List.getD l48 2 (0 : Int)) (List.getD l48 3 (0 : Int)) (List.getD l48 4 (0 : Int)) (List.getD l48 5 (0 : Int)) (List.getD l48 6 (0 : Int)) (List.getD l48 7 (0 : Int)) (List.getD l48 8 (0 : Int)) (List.getD l48 9 (0 : Int)) e1
                                (some (α := ODen (T_impl_EpochOk_sg N).ps × RDen (T_impl_EpochOk_sg N).rs) ((), (false, ())))
                                (fun t63 t64 =>
                                  (T_impl_EpochOk_lp5 N e1.2.2.2.2.1 e1
                                    (some (α := ODen (T_impl_EpochOk_sg N).ps × RDen (T_impl_EpochOk_sg N).rs) ((), (false, ())))
                                    (fun t77 t78 =>
                                      (some (α := ODen (T_impl_EpochOk_sg N).ps × RDen (T_impl_EpochOk_sg N).rs) ((), (true, ()))))
                                     N (0 : Int)))
                                 N (0 : Int)) else none))
                           N (0 : Int) l21))
                       N (0 : Int) o22.2.1)))
                 N (0 : Int) (List.replicate 10 (0 : Int))))
             N (0 : Int)))))) := by
  have h : den (R := ODen (T_impl_EpochOk_sg N).ps × RDen (T_impl_EpochOk_sg N).rs) tab (T_impl_EpochOk_ctx N) T_impl_EpochOk_ann N (T_impl_EpochOk_sg N) Try.f42 (e1, ()) some =
    (bif (ilen e1.2.1) != (3 : Int) then
    (some (α := ODen (T_impl_EpochOk_sg N).ps × RDen (T_impl_EpochOk_sg N).rs) ((), (false, ())))
    else
    (bif (ilen e1.2.2.1) != (10 : Int) then
      (some (α := ODen (T_impl_EpochOk_sg N).ps × RDen (T_impl_EpochOk_sg N).rs) ((), (false, ())))
      else
      ((T_impl_within N e1.1 (0 : Int) (205 : Int)).bind fun o2 =>
        (bif !o2.2.1 then
          (some (α := ODen (T_impl_EpochOk_sg N).ps × RDen (T_impl_EpochOk_sg N).rs) ((), (false, ())))
          else
          (T_impl_EpochOk_lp0_m N N (T_impl_EpochOk_lp0_sh e1.2.1 (0 : Int) e1) (ctxK (R := ODen (T_impl_EpochOk_sg N).ps × RDen (T_impl_EpochOk_sg N).rs) tab (T_impl_EpochOk_ctx N) T_impl_EpochOk_ann N (theCode Try.f42) [1, 1, 0, 1, 0] (retK tab (T_impl_EpochOk_sg N) Try.f42.results.toList some))))))) := by kernel_rfl
  rw [h]
  (try simp only [T_impl_EpochOk_lp0_eq, T_impl_EpochOk_c1, T_impl_EpochOk_c2]) <;> rfl

theorem T_impl_EpochOk_ok (N : Nat) : chkBody Try.f42 (T_impl_EpochOk_sg N).ps = true := by kernel_rfl

theorem T_impl_EpochOk_callable : Callable Try.prog 42 := callable_of Try.func42 (show chkFn Try.f42 = true by kernel_rfl)

theorem T_impl_EpochOk_good (N : Nat) : Good Try.prog 42 (T_impl_EpochOk_sg N) :=
  good_body mixedOk tabOk (ctx_cons (T_impl_within_good N) T_impl_within_callable (ctx_cons (T_impl_copyInts_good N) T_impl_copyInts_callable ctx_nil)) Try.func42 (T_impl_EpochOk_ok N) (fun d _ h => ⟨N, (T_impl_EpochOk_den N d.1).trans h⟩)

noncomputable def T_laws_eqIntS_sg (N : Nat) : Sig := Sig.of [.v (.slice (.int .i64)) false, .v (.slice (.int .i64)) false] [.v (.bool) false] (fun d => T_laws_eqIntS N d.1 d.2.1)

def T_laws_eqIntS_ann : Nat → List Ghost
  | 4 => [.canon [0, 1, 5, 14]]
  | 5 => [.canon [0, 1, 5]]
  | 6 => [.canon [0, 1, 5, 25]]
  | 7 => [.canon [4]]
  | 100004 => [.canon [0, 1, 5]]
  | _ => []

noncomputable def T_laws_eqIntS_ctx (N : Nat) : Ctx := []

def T_laws_eqIntS_lp0_sh (a3 : List Int) (b4 : List Int) (i5 : Int) : St := { env := [(0, .s (.one (.val (.slice (.int .i64)) (a3 : List Int)))), (1, .s (.one (.val (.slice (.int .i64)) (b4 : List Int)))), (5, .s (.one (.val (.int .i64) (i5 : Int))))], objs := [], nx := 0 }

def T_laws_eqIntS_lp0_e0 (a3 : List Int) (b4 : List Int) : St := { env := [(4, .s (.one (.val (.bool) (false : Bool))))], objs := [], nx := 0 }

def T_laws_eqIntS_lp0_e1 (a3 : List Int) (b4 : List Int) (i6 : Int) (t7 : Bool) : St := { env := [(0, .s (.one (.val (.slice (.int .i64)) (a3 : List Int)))), (1, .s (.one (.val (.slice (.int .i64)) (b4 : List Int)))), (5, .s (.one (.val (.int .i64) (i6 : Int)))), (14, .s (.one (.val (.bool) (t7 : Bool))))], objs := [], nx := 0 }

noncomputable def T_laws_eqIntS_lp0_m (N : Nat) {R : Type} (n : Nat) (st : St) (K : Ex → St → Option R) : Option R := loopN (roundG (T_laws_eqIntS_ann 100004) fun st k => sx tab (T_laws_eqIntS_ctx N) T_laws_eqIntS_ann N (nthLoop Try.f14 0) st k) n st K

theorem T_laws_eqIntS_lp0_step (N : Nat) {R : Type} (n : Nat) (K : Ex → St → Option R) (a3 : List Int) (b4 : List Int) (i5 : Int) :
    T_laws_eqIntS_lp0_m N (n + 1) (T_laws_eqIntS_lp0_sh a3 b4 i5) K =
    (bif decide (i5 < (ilen a3)) then
    (bif inb i5 (List.length a3) then
      (bif inb i5 (List.length b4) then
        (bif (List.getD a3 (Int.toNat i5) (0 : Int)) != (List.getD b4 (Int.toNat i5) (0 : Int)) then
          (K .ret (T_laws_eqIntS_lp0_e0 a3 b4))
          else
          (T_laws_eqIntS_lp0_m N n (T_laws_eqIntS_lp0_sh a3 b4 (iadd .i64 i5 (1 : Int))) K)) else none) else none)
    else
    (K (.exit 0) (T_laws_eqIntS_lp0_e1 a3 b4 i5 (decide (i5 < (ilen a3)))))) := by kernel_rfl

theorem T_laws_eqIntS_lp0_eq (N : Nat) {R : Type} (a3 : List Int) (b4 : List Int) (K : Ex → St → Option R) : ∀ (n : Nat) (i5 : Int), T_laws_eqIntS_lp0_m N n (T_laws_eqIntS_lp0_sh a3 b4 i5) K = T_laws_eqIntS_lp0 N a3 b4 (K .ret (T_laws_eqIntS_lp0_e0 a3 b4)) (fun i6 t7 => (K (.exit 0) (T_laws_eqIntS_lp0_e1 a3 b4 i6 t7))) n i5
  | 0, _ => rfl
  | n + 1, i5 => by rw [T_laws_eqIntS_lp0_step, T_laws_eqIntS_lp0]; (try simp only [T_laws_eqIntS_lp0_eq N a3 b4 K n])

theorem T_laws_eqIntS_c1 (N : Nat) (a1 : List Int) (b2 : List Int) :
    ((ctxK (R := ODen (T_laws_eqIntS_sg N).ps × RDen (T_laws_eqIntS_sg N).rs) tab (T_laws_eqIntS_ctx N) T_laws_eqIntS_ann N (theCode Try.f14) [1, 1, 0, 1, 0] (retK tab (T_laws_eqIntS_sg N) Try.f14.results.toList some)) .ret (T_laws_eqIntS_lp0_e0 a1 b2)) =
    (some (α := ODen (T_laws_eqIntS_sg N).ps × RDen (T_laws_eqIntS_sg N).rs) ((), (false, ()))) := by kernel_rfl

theorem T_laws_eqIntS_c2 (N : Nat) (a1 : List Int) (b2 : List Int) (i8 : Int) (t9 : Bool) :
    ((ctxK (R := ODen (T_laws_eqIntS_sg N).ps × RDen (T_laws_eqIntS_sg N).rs) tab (T_laws_eqIntS_ctx N) T_laws_eqIntS_ann N (theCode Try.f14) [1, 1, 0, 1, 0] (retK tab (T_laws_eqIntS_sg N) Try.f14.results.toList some)) (.exit 0) (T_laws_eqIntS_lp0_e1 a1 b2 i8 t9)) =
    (some (α := ODen (T_laws_eqIntS_sg N).ps × RDen (T_laws_eqIntS_sg N).rs) ((), (true, ()))) := by kernel_rfl

theorem T_laws_eqIntS_den (N : Nat) (a1 : List Int) (b2 : List Int) :
    den (R := ODen (T_laws_eqIntS_sg N).ps × RDen (T_laws_eqIntS_sg N).rs) tab (T_laws_eqIntS_ctx N) T_laws_eqIntS_ann N (T_laws_eqIntS_sg N) Try.f14 (a1, b2, ()) some =
    (bif (ilen a1) != (ilen b2) then
    (some (α := ODen (T_laws_eqIntS_sg N).ps × RDen (T_laws_eqIntS_sg N).rs) ((), (false, ())))
    else
    (T_laws_eqIntS_lp0 N a1 b2
      (some (α := ODen (T_laws_eqIntS_sg N).ps × RDen (T_laws_eqIntS_sg N).rs) ((), (false, ())))
      (fun i8 t9 =>
        (some (α := ODen (T_laws_eqIntS_sg N).ps × RDen (T_laws_eqIntS_sg N).rs) ((), (true, ()))))
       N (0 : Int))) := by
  have h : den (R := ODen (T_laws_eqIntS_sg N).ps × RDen (T_laws_eqIntS_sg N).rs) tab (T_laws_eqIntS_ctx N) T_laws_eqIntS_ann N (T_laws_eqIntS_sg N) Try.f14 (a1, b2, ()) some =
    (bif (ilen a1) != (ilen b2) then
    (some (α := ODen (T_laws_eqIntS_sg N).ps × RDen (T_laws_eqIntS_sg N).rs) ((), (false, ())))
    else
    (T_laws_eqIntS_lp0_m N N (T_laws_eqIntS_lp0_sh a1 b2 (0 : Int)) (ctxK (R := ODen (T_laws_eqIntS_sg N).ps × RDen (T_laws_eqIntS_sg N).rs) tab (T_laws_eqIntS_ctx N) T_laws_eqIntS_ann N (theCode Try.f14) [1, 1, 0, 1, 0] (retK tab (T_laws_eqIntS_sg N) Try.f14.results.toList some)))) := by kernel_rfl
  rw [h]
  (try simp only [T_laws_eqIntS_lp0_eq, T_laws_eqIntS_c1, T_laws_eqIntS_c2]) <;> rfl

theorem T_laws_eqIntS_ok (N : Nat) : chkBody Try.f14 (T_laws_eqIntS_sg N).ps = true := by kernel_rfl

theorem T_laws_eqIntS_callable : Callable Try.prog 14 := callable_of Try.func14 (show chkFn Try.f14 = true by kernel_rfl)

theorem T_laws_eqIntS_good (N : Nat) : Good Try.prog 14 (T_laws_eqIntS_sg N) :=
  good_body mixedOk tabOk ctx_nil Try.func14 (T_laws_eqIntS_ok N) (fun d _ h => ⟨N, (T_laws_eqIntS_den N d.1 d.2.1).trans h⟩)

noncomputable def T_laws_eqBoolS_sg (N : Nat) : Sig := Sig.of [.v (.slice (.bool)) false, .v (.slice (.bool)) false] [.v (.bool) false] (fun d => T_laws_eqBoolS N d.1 d.2.1)

def T_laws_eqBoolS_ann : Nat → List Ghost
  | 4 => [.canon [0, 1, 5, 14]]
  | 5 => [.canon [0, 1, 5]]
  | 6 => [.canon [0, 1, 5, 25]]
  | 7 => [.canon [4]]
  | 100004 => [.canon [0, 1, 5]]
  | _ => []

noncomputable def T_laws_eqBoolS_ctx (N : Nat) : Ctx := []

def T_laws_eqBoolS_lp0_sh (a3 : List Bool) (b4 : List Bool) (i5 : Int) : St := { env := [(0, .s (.one (.val (.slice (.bool)) (a3 : List Bool)))), (1, .s (.one (.val (.slice (.bool)) (b4 : List Bool)))), (5, .s (.one (.val (.int .i64) (i5 : Int))))], objs := [], nx := 0 }

def T_laws_eqBoolS_lp0_e0 (a3 : List Bool) (b4 : List Bool) : St := { env := [(4, .s (.one (.val (.bool) (false : Bool))))], objs := [], nx := 0 }

def T_laws_eqBoolS_lp0_e1 (a3 : List Bool) (b4 : List Bool) (i6 : Int) (t7 : Bool) : St := { env := [(0, .s (.one (.val (.slice (.bool)) (a3 : List Bool)))), (1, .s (.one (.val (.slice (.bool)) (b4 : List Bool)))), (5, .s (.one (.val (.int .i64) (i6 : Int)))), (14, .s (.one (.val (.bool) (t7 : Bool))))], objs := [], nx := 0 }

noncomputable def T_laws_eqBoolS_lp0_m (N : Nat) {R : Type} (n : Nat) (st : St) (K : Ex → St → Option R) : Option R := loopN (roundG (T_laws_eqBoolS_ann 100004) fun st k => sx tab (T_laws_eqBoolS_ctx N) T_laws_eqBoolS_ann N (nthLoop Try.f72 0) st k) n st K

theorem T_laws_eqBoolS_lp0_step (N : Nat) {R : Type} (n : Nat) (K : Ex → St → Option R) (a3 : List Bool) (b4 : List Bool) (i5 : Int) :
    T_laws_eqBoolS_lp0_m N (n + 1) (T_laws_eqBoolS_lp0_sh a3 b4 i5) K =
    (bif decide (i5 < (ilen a3)) then
    (bif inb i5 (List.length a3) then
      (bif inb i5 (List.length b4) then
        (bif !(beq (List.getD a3 (Int.toNat i5) false) (List.getD b4 (Int.toNat i5) false)) then
          (K .ret (T_laws_eqBoolS_lp0_e0 a3 b4))
          else
          (T_laws_eqBoolS_lp0_m N n (T_laws_eqBoolS_lp0_sh a3 b4 (iadd .i64 i5 (1 : Int))) K)) else none) else none)
    else
    (K (.exit 0) (T_laws_eqBoolS_lp0_e1 a3 b4 i5 (decide (i5 < (ilen a3)))))) := by kernel_rfl

theorem T_laws_eqBoolS_lp0_eq (N : Nat) {R : Type} (a3 : List Bool) (b4 : List Bool) (K : Ex → St → Option R) : ∀ (n : Nat) (i5 : Int), T_laws_eqBoolS_lp0_m N n (T_laws_eqBoolS_lp0_sh a3 b4 i5) K = T_laws_eqBoolS_lp0 N a3 b4 (K .ret (T_laws_eqBoolS_lp0_e0 a3 b4)) (fun i6 t7 => (K (.exit 0) (T_laws_eqBoolS_lp0_e1 a3 b4 i6 t7))) n i5
  | 0, _ => rfl
  | n + 1, i5 => by rw [T_laws_eqBoolS_lp0_step, T_laws_eqBoolS_lp0]; (try simp only [T_laws_eqBoolS_lp0_eq N a3 b4 K n])

theorem T_laws_eqBoolS_c1 (N : Nat) (a1 : List Bool) (b2 : List Bool) :
    ((ctxK (R := ODen (T_laws_eqBoolS_sg N).ps × RDen (T_laws_eqBoolS_sg N).rs) tab (T_laws_eqBoolS_ctx N) T_laws_eqBoolS_ann N (theCode Try.f72) [1, 1, 0, 1, 0] (retK tab (T_laws_eqBoolS_sg N) Try.f72.results.toList some)) .ret (T_laws_eqBoolS_lp0_e0 a1 b2)) =
    (some (α := ODen (T_laws_eqBoolS_sg N).ps × RDen (T_laws_eqBoolS_sg N).rs) ((), (false, ()))) := by kernel_rfl

theorem T_laws_eqBoolS_c2 (N : Nat) (a1 : List Bool) (b2 : List Bool) (i8 : Int) (t9 : Bool) :
    ((ctxK (R := ODen (T_laws_eqBoolS_sg N).ps × RDen (T_laws_eqBoolS_sg N).rs) tab (T_laws_eqBoolS_ctx N) T_laws_eqBoolS_ann N (theCode Try.f72) [1, 1, 0, 1, 0] (retK tab (T_laws_eqBoolS_sg N) Try.f72.results.toList some)) (.exit 0) (T_laws_eqBoolS_lp0_e1 a1 b2 i8 t9)) =
    (some (α := ODen (T_laws_eqBoolS_sg N).ps × RDen (T_laws_eqBoolS_sg N).rs) ((), (true, ()))) := by kernel_rfl

theorem T_laws_eqBoolS_den (N : Nat) (a1 : List Bool) (b2 : List Bool) :
    den (R := ODen (T_laws_eqBoolS_sg N).ps × RDen (T_laws_eqBoolS_sg N).rs) tab (T_laws_eqBoolS_ctx N) T_laws_eqBoolS_ann N (T_laws_eqBoolS_sg N) Try.f72 (a1, b2, ()) some =
    (bif (ilen a1) != (ilen b2) then
    (some (α := ODen (T_laws_eqBoolS_sg N).ps × RDen (T_laws_eqBoolS_sg N).rs) ((), (false, ())))
    else
    (T_laws_eqBoolS_lp0 N a1 b2
      (some (α := ODen (T_laws_eqBoolS_sg N).ps × RDen (T_laws_eqBoolS_sg N).rs) ((), (false, ())))
      (fun i8 t9 =>
        (some (α := ODen (T_laws_eqBoolS_sg N).ps × RDen (T_laws_eqBoolS_sg N).rs) ((), (true, ()))))
       N (0 : Int))) := by
  have h : den (R := ODen (T_laws_eqBoolS_sg N).ps × RDen (T_laws_eqBoolS_sg N).rs) tab (T_laws_eqBoolS_ctx N) T_laws_eqBoolS_ann N (T_laws_eqBoolS_sg N) Try.f72 (a1, b2, ()) some =
    (bif (ilen a1) != (ilen b2) then
    (some (α := ODen (T_laws_eqBoolS_sg N).ps × RDen (T_laws_eqBoolS_sg N).rs) ((), (false, ())))
    else
    (T_laws_eqBoolS_lp0_m N N (T_laws_eqBoolS_lp0_sh a1 b2 (0 : Int)) (ctxK (R := ODen (T_laws_eqBoolS_sg N).ps × RDen (T_laws_eqBoolS_sg N).rs) tab (T_laws_eqBoolS_ctx N) T_laws_eqBoolS_ann N (theCode Try.f72) [1, 1, 0, 1, 0] (retK tab (T_laws_eqBoolS_sg N) Try.f72.results.toList some)))) := by kernel_rfl
  rw [h]
  (try simp only [T_laws_eqBoolS_lp0_eq, T_laws_eqBoolS_c1, T_laws_eqBoolS_c2]) <;> rfl

theorem T_laws_eqBoolS_ok (N : Nat) : chkBody Try.f72 (T_laws_eqBoolS_sg N).ps = true := by kernel_rfl

theorem T_laws_eqBoolS_callable : Callable Try.prog 72 := callable_of Try.func72 (show chkFn Try.f72 = true by kernel_rfl)

theorem T_laws_eqBoolS_good (N : Nat) : Good Try.prog 72 (T_laws_eqBoolS_sg N) :=
  good_body mixedOk tabOk ctx_nil Try.func72 (T_laws_eqBoolS_ok N) (fun d _ h => ⟨N, (T_laws_eqBoolS_den N d.1 d.2.1).trans h⟩)

noncomputable def T_laws_eqEpBag_sg (N : Nat) : Sig := Sig.of [.v (.prod (.int .i64) (.int .i64)) true, .v (.prod (.int .i64) (.int .i64)) true] [.v (.bool) false] (fun d => T_laws_eqEpBag N d.1 d.2.1)

def T_laws_eqEpBag_ann : Nat → List Ghost
  | _ => []

noncomputable def T_laws_eqEpBag_ctx (N : Nat) : Ctx := []

theorem T_laws_eqEpBag_den (N : Nat) (a1 : Int × Int) (b2 : Int × Int) :
    den (R := ODen (T_laws_eqEpBag_sg N).ps × RDen (T_laws_eqEpBag_sg N).rs) tab (T_laws_eqEpBag_ctx N) T_laws_eqEpBag_ann N (T_laws_eqEpBag_sg N) Try.f94 (a1, b2, ()) some =
    (bif a1.1 != b2.1 then
    (some (α := ODen (T_laws_eqEpBag_sg N).ps × RDen (T_laws_eqEpBag_sg N).rs) ((), (false, ())))
    else
    (bif a1.2 != b2.2 then
      (some (α := ODen (T_laws_eqEpBag_sg N).ps × RDen (T_laws_eqEpBag_sg N).rs) ((), (false, ())))
      else
      (some (α := ODen (T_laws_eqEpBag_sg N).ps × RDen (T_laws_eqEpBag_sg N).rs) ((), (true, ()))))) := by kernel_rfl

theorem T_laws_eqEpBag_ok (N : Nat) : chkBody Try.f94 (T_laws_eqEpBag_sg N).ps = true := by kernel_rfl

theorem T_laws_eqEpBag_callable : Callable Try.prog 94 := callable_of Try.func94 (show chkFn Try.f94 = true by kernel_rfl)

theorem T_laws_eqEpBag_good (N : Nat) : Good Try.prog 94 (T_laws_eqEpBag_sg N) :=
  good_body mixedOk tabOk ctx_nil Try.func94 (T_laws_eqEpBag_ok N) (fun d _ h => ⟨N, (T_laws_eqEpBag_den N d.1 d.2.1).trans h⟩)

noncomputable def T_laws_eqEpBagS_sg (N : Nat) : Sig := Sig.of [.v (.slice (.prod (.int .i64) (.int .i64))) false, .v (.slice (.prod (.int .i64) (.int .i64))) false] [.v (.bool) false] (fun d => T_laws_eqEpBagS N d.1 d.2.1)

def T_laws_eqEpBagS_ann : Nat → List Ghost
  | 4 => [.canon [0, 1, 5, 14]]
  | 5 => [.canon [0, 1, 5]]
  | 6 => [.canon [0, 1, 5, 26]]
  | 7 => [.canon [4]]
  | 100004 => [.canon [0, 1, 5]]
  | _ => []

noncomputable def T_laws_eqEpBagS_ctx (N : Nat) : Ctx := [(94, T_laws_eqEpBag_sg N)]

def T_laws_eqEpBagS_lp0_sh (a3 : List (Int × Int)) (b4 : List (Int × Int)) (i5 : Int) : St := { env := [(0, .s (.one (.val (.slice (.prod (.int .i64) (.int .i64))) (a3 : List (Int × Int))))), (1, .s (.one (.val (.slice (.prod (.int .i64) (.int .i64))) (b4 : List (Int × Int))))), (5, .s (.one (.val (.int .i64) (i5 : Int))))], objs := [], nx := 0 }

def T_laws_eqEpBagS_lp0_e0 (a3 : List (Int × Int)) (b4 : List (Int × Int)) : St := { env := [(4, .s (.one (.val (.bool) (false : Bool))))], objs := [], nx := 0 }

def T_laws_eqEpBagS_lp0_e1 (a3 : List (Int × Int)) (b4 : List (Int × Int)) (i7 : Int) (t8 : Bool) : St := { env := [(0, .s (.one (.val (.slice (.prod (.int .i64) (.int .i64))) (a3 : List (Int × Int))))), (1, .s (.one (.val (.slice (.prod (.int .i64) (.int .i64))) (b4 : List (Int × Int))))), (5, .s (.one (.val (.int .i64) (i7 : Int)))), (14, .s (.one (.val (.bool) (t8 : Bool))))], objs := [], nx := 0 }

noncomputable def T_laws_eqEpBagS_lp0_m (N : Nat) {R : Type} (n : Nat) (st : St) (K : Ex → St → Option R) : Option R := loopN (roundG (T_laws_eqEpBagS_ann 100004) fun st k => sx tab (T_laws_eqEpBagS_ctx N) T_laws_eqEpBagS_ann N (nthLoop Try.f73 0) st k) n st K

theorem T_laws_eqEpBagS_lp0_step (N : Nat) {R : Type} (n : Nat) (K : Ex → St → Option R) (a3 : List (Int × Int)) (b4 : List (Int × Int)) (i5 : Int) :
    T_laws_eqEpBagS_lp0_m N (n + 1) (T_laws_eqEpBagS_lp0_sh a3 b4 i5) K =
    (bif decide (i5 < (ilen a3)) then
    (bif inb i5 (List.length a3) then
      (bif inb i5 (List.length b4) then
        ((T_laws_eqEpBag N (List.getD a3 (Int.toNat i5) ((0 : Int), (0 : Int))) (List.getD b4 (Int.toNat i5) ((0 : Int), (0 : Int)))).bind fun o9 =>
          (bif !o9.2.1 then
            (K .ret (T_laws_eqEpBagS_lp0_e0 a3 b4))
            else
            (T_laws_eqEpBagS_lp0_m N n (T_laws_eqEpBagS_lp0_sh a3 b4 (iadd .i64 i5 (1 : Int))) K))) else none) else none)
    else
    (K (.exit 0) (T_laws_eqEpBagS_lp0_e1 a3 b4 i5 (decide (i5 < (ilen a3)))))) := by kernel_rfl

theorem T_laws_eqEpBagS_lp0_eq (N : Nat) {R : Type} (a3 : List (Int × Int)) (b4 : List (Int × Int)) (K : Ex → St → Option R) : ∀ (n : Nat) (i5 : Int), T_laws_eqEpBagS_lp0_m N n (T_laws_eqEpBagS_lp0_sh a3 b4 i5) K = T_laws_eqEpBagS_lp0 N a3 b4 (K .ret (T_laws_eqEpBagS_lp0_e0 a3 b4)) (fun i7 t8 => (K (.exit 0) (T_laws_eqEpBagS_lp0_e1 a3 b4 i7 t8))) n i5
  | 0, _ => rfl
  | n + 1, i5 => by rw [T_laws_eqEpBagS_lp0_step, T_laws_eqEpBagS_lp0]; (try simp only [T_laws_eqEpBagS_lp0_eq N a3 b4 K n])

theorem T_laws_eqEpBagS_c1 (N : Nat) (a1 : List (Int × Int)) (b2 : List (Int × Int)) :
    ((ctxK (R := ODen (T_laws_eqEpBagS_sg N).ps × RDen (T_laws_eqEpBagS_sg N).rs) tab (T_laws_eqEpBagS_ctx N) T_laws_eqEpBagS_ann N (theCode Try.f73) [1, 1, 0, 1, 0] (retK tab (T_laws_eqEpBagS_sg N) Try.f73.results.toList some)) .ret (T_laws_eqEpBagS_lp0_e0 a1 b2)) =
    (some (α := ODen (T_laws_eqEpBagS_sg N).ps × RDen (T_laws_eqEpBagS_sg N).rs) ((), (false, ()))) := by kernel_rfl

theorem T_laws_eqEpBagS_c2 (N : Nat) (a1 : List (Int × Int)) (b2 : List (Int × Int)) (i10 : Int) (t11 : Bool) :
    ((ctxK (R := ODen (T_laws_eqEpBagS_sg N).ps × RDen (T_laws_eqEpBagS_sg N).rs) tab (T_laws_eqEpBagS_ctx N) T_laws_eqEpBagS_ann N (theCode Try.f73) [1, 1, 0, 1, 0] (retK tab (T_laws_eqEpBagS_sg N) Try.f73.results.toList some)) (.exit 0) (T_laws_eqEpBagS_lp0_e1 a1 b2 i10 t11)) =
    (some (α := ODen (T_laws_eqEpBagS_sg N).ps × RDen (T_laws_eqEpBagS_sg N).rs) ((), (true, ()))) := by kernel_rfl

theorem T_laws_eqEpBagS_den (N : Nat) (a1 : List (Int × Int)) (b2 : List (Int × Int)) :
    den (R := ODen (T_laws_eqEpBagS_sg N).ps × RDen (T_laws_eqEpBagS_sg N).rs) tab (T_laws_eqEpBagS_ctx N) T_laws_eqEpBagS_ann N (T_laws_eqEpBagS_sg N) Try.f73 (a1, b2, ()) some =
    (bif (ilen a1) != (ilen b2) then
    (some (α := ODen (T_laws_eqEpBagS_sg N).ps × RDen (T_laws_eqEpBagS_sg N).rs) ((), (false, ())))
    else
    (T_laws_eqEpBagS_lp0 N a1 b2
      (some (α := ODen (T_laws_eqEpBagS_sg N).ps × RDen (T_laws_eqEpBagS_sg N).rs) ((), (false, ())))
      (fun i10 t11 =>
        (some (α := ODen (T_laws_eqEpBagS_sg N).ps × RDen (T_laws_eqEpBagS_sg N).rs) ((), (true, ()))))
       N (0 : Int))) := by
  have h : den (R := ODen (T_laws_eqEpBagS_sg N).ps × RDen (T_laws_eqEpBagS_sg N).rs) tab (T_laws_eqEpBagS_ctx N) T_laws_eqEpBagS_ann N (T_laws_eqEpBagS_sg N) Try.f73 (a1, b2, ()) some =
    (bif (ilen a1) != (ilen b2) then
    (some (α := ODen (T_laws_eqEpBagS_sg N).ps × RDen (T_laws_eqEpBagS_sg N).rs) ((), (false, ())))
    else
    (T_laws_eqEpBagS_lp0_m N N (T_laws_eqEpBagS_lp0_sh a1 b2 (0 : Int)) (ctxK (R := ODen (T_laws_eqEpBagS_sg N).ps × RDen (T_laws_eqEpBagS_sg N).rs) tab (T_laws_eqEpBagS_ctx N) T_laws_eqEpBagS_ann N (theCode Try.f73) [1, 1, 0, 1, 0] (retK tab (T_laws_eqEpBagS_sg N) Try.f73.results.toList some)))) := by kernel_rfl
  rw [h]
  (try simp only [T_laws_eqEpBagS_lp0_eq, T_laws_eqEpBagS_c1, T_laws_eqEpBagS_c2]) <;> rfl

theorem T_laws_eqEpBagS_ok (N : Nat) : chkBody Try.f73 (T_laws_eqEpBagS_sg N).ps = true := by kernel_rfl

theorem T_laws_eqEpBagS_callable : Callable Try.prog 73 := callable_of Try.func73 (show chkFn Try.f73 = true by kernel_rfl)

theorem T_laws_eqEpBagS_good (N : Nat) : Good Try.prog 73 (T_laws_eqEpBagS_sg N) :=
  good_body mixedOk tabOk (ctx_cons (T_laws_eqEpBag_good N) T_laws_eqEpBag_callable ctx_nil) Try.func73 (T_laws_eqEpBagS_ok N) (fun d _ h => ⟨N, (T_laws_eqEpBagS_den N d.1 d.2.1).trans h⟩)

noncomputable def T_laws_eqEpHold_sg (N : Nat) : Sig := Sig.of [.v (.prod (.int .i64) (.int .i64)) true, .v (.prod (.int .i64) (.int .i64)) true] [.v (.bool) false] (fun d => T_laws_eqEpHold N d.1 d.2.1)

def T_laws_eqEpHold_ann : Nat → List Ghost
  | _ => []

noncomputable def T_laws_eqEpHold_ctx (N : Nat) : Ctx := []

theorem T_laws_eqEpHold_den (N : Nat) (a1 : Int × Int) (b2 : Int × Int) :
    den (R := ODen (T_laws_eqEpHold_sg N).ps × RDen (T_laws_eqEpHold_sg N).rs) tab (T_laws_eqEpHold_ctx N) T_laws_eqEpHold_ann N (T_laws_eqEpHold_sg N) Try.f95 (a1, b2, ()) some =
    (bif a1.1 != b2.1 then
    (some (α := ODen (T_laws_eqEpHold_sg N).ps × RDen (T_laws_eqEpHold_sg N).rs) ((), (false, ())))
    else
    (bif a1.2 != b2.2 then
      (some (α := ODen (T_laws_eqEpHold_sg N).ps × RDen (T_laws_eqEpHold_sg N).rs) ((), (false, ())))
      else
      (some (α := ODen (T_laws_eqEpHold_sg N).ps × RDen (T_laws_eqEpHold_sg N).rs) ((), (true, ()))))) := by kernel_rfl

theorem T_laws_eqEpHold_ok (N : Nat) : chkBody Try.f95 (T_laws_eqEpHold_sg N).ps = true := by kernel_rfl

theorem T_laws_eqEpHold_callable : Callable Try.prog 95 := callable_of Try.func95 (show chkFn Try.f95 = true by kernel_rfl)

theorem T_laws_eqEpHold_good (N : Nat) : Good Try.prog 95 (T_laws_eqEpHold_sg N) :=
  good_body mixedOk tabOk ctx_nil Try.func95 (T_laws_eqEpHold_ok N) (fun d _ h => ⟨N, (T_laws_eqEpHold_den N d.1 d.2.1).trans h⟩)

noncomputable def T_laws_eqEpHoldS_sg (N : Nat) : Sig := Sig.of [.v (.slice (.prod (.int .i64) (.int .i64))) false, .v (.slice (.prod (.int .i64) (.int .i64))) false] [.v (.bool) false] (fun d => T_laws_eqEpHoldS N d.1 d.2.1)

def T_laws_eqEpHoldS_ann : Nat → List Ghost
  | 4 => [.canon [0, 1, 5, 14]]
  | 5 => [.canon [0, 1, 5]]
  | 6 => [.canon [0, 1, 5, 26]]
  | 7 => [.canon [4]]
  | 100004 => [.canon [0, 1, 5]]
  | _ => []

noncomputable def T_laws_eqEpHoldS_ctx (N : Nat) : Ctx := [(95, T_laws_eqEpHold_sg N)]

def T_laws_eqEpHoldS_lp0_sh (a3 : List (Int × Int)) (b4 : List (Int × Int)) (i5 : Int) : St := { env := [(0, .s (.one (.val (.slice (.prod (.int .i64) (.int .i64))) (a3 : List (Int × Int))))), (1, .s (.one (.val (.slice (.prod (.int .i64) (.int .i64))) (b4 : List (Int × Int))))), (5, .s (.one (.val (.int .i64) (i5 : Int))))], objs := [], nx := 0 }

def T_laws_eqEpHoldS_lp0_e0 (a3 : List (Int × Int)) (b4 : List (Int × Int)) : St := { env := [(4, .s (.one (.val (.bool) (false : Bool))))], objs := [], nx := 0 }

def T_laws_eqEpHoldS_lp0_e1 (a3 : List (Int × Int)) (b4 : List (Int × Int)) (i7 : Int) (t8 : Bool) : St := { env := [(0, .s (.one (.val (.slice (.prod (.int .i64) (.int .i64))) (a3 : List (Int × Int))))), (1, .s (.one (.val (.slice (.prod (.int .i64) (.int .i64))) (b4 : List (Int × Int))))), (5, .s (.one (.val (.int .i64) (i7 : Int)))), (14, .s (.one (.val (.bool) (t8 : Bool))))], objs := [], nx := 0 }

noncomputable def T_laws_eqEpHoldS_lp0_m (N : Nat) {R : Type} (n : Nat) (st : St) (K : Ex → St → Option R) : Option R := loopN (roundG (T_laws_eqEpHoldS_ann 100004) fun st k => sx tab (T_laws_eqEpHoldS_ctx N) T_laws_eqEpHoldS_ann N (nthLoop Try.f74 0) st k) n st K

theorem T_laws_eqEpHoldS_lp0_step (N : Nat) {R : Type} (n : Nat) (K : Ex → St → Option R) (a3 : List (Int × Int)) (b4 : List (Int × Int)) (i5 : Int) :
    T_laws_eqEpHoldS_lp0_m N (n + 1) (T_laws_eqEpHoldS_lp0_sh a3 b4 i5) K =
    (bif decide (i5 < (ilen a3)) then
    (bif inb i5 (List.length a3) then
      (bif inb i5 (List.length b4) then
        ((T_laws_eqEpHold N (List.getD a3 (Int.toNat i5) ((0 : Int), (0 : Int))) (List.getD b4 (Int.toNat i5) ((0 : Int), (0 : Int)))).bind fun o9 =>
          (bif !o9.2.1 then
            (K .ret (T_laws_eqEpHoldS_lp0_e0 a3 b4))
            else
            (T_laws_eqEpHoldS_lp0_m N n (T_laws_eqEpHoldS_lp0_sh a3 b4 (iadd .i64 i5 (1 : Int))) K))) else none) else none)
    else
    (K (.exit 0) (T_laws_eqEpHoldS_lp0_e1 a3 b4 i5 (decide (i5 < (ilen a3)))))) := by kernel_rfl

theorem T_laws_eqEpHoldS_lp0_eq (N : Nat) {R : Type} (a3 : List (Int × Int)) (b4 : List (Int × Int)) (K : Ex → St → Option R) : ∀ (n : Nat) (i5 : Int), T_laws_eqEpHoldS_lp0_m N n (T_laws_eqEpHoldS_lp0_sh a3 b4 i5) K = T_laws_eqEpHoldS_lp0 N a3 b4 (K .ret (T_laws_eqEpHoldS_lp0_e0 a3 b4)) (fun i7 t8 => (K (.exit 0) (T_laws_eqEpHoldS_lp0_e1 a3 b4 i7 t8))) n i5
  | 0, _ => rfl
  | n + 1, i5 => by rw [T_laws_eqEpHoldS_lp0_step, T_laws_eqEpHoldS_lp0]; (try simp only [T_laws_eqEpHoldS_lp0_eq N a3 b4 K n])

theorem T_laws_eqEpHoldS_c1 (N : Nat) (a1 : List (Int × Int)) (b2 : List (Int × Int)) :
    ((ctxK (R := ODen (T_laws_eqEpHoldS_sg N).ps × RDen (T_laws_eqEpHoldS_sg N).rs) tab (T_laws_eqEpHoldS_ctx N) T_laws_eqEpHoldS_ann N (theCode Try.f74) [1, 1, 0, 1, 0] (retK tab (T_laws_eqEpHoldS_sg N) Try.f74.results.toList some)) .ret (T_laws_eqEpHoldS_lp0_e0 a1 b2)) =
    (some (α := ODen (T_laws_eqEpHoldS_sg N).ps × RDen (T_laws_eqEpHoldS_sg N).rs) ((), (false, ()))) := by kernel_rfl

theorem T_laws_eqEpHoldS_c2 (N : Nat) (a1 : List (Int × Int)) (b2 : List (Int × Int)) (i10 : Int) (t11 : Bool) :
    ((ctxK (R := ODen (T_laws_eqEpHoldS_sg N).ps × RDen (T_laws_eqEpHoldS_sg N).rs) tab (T_laws_eqEpHoldS_ctx N) T_laws_eqEpHoldS_ann N (theCode Try.f74) [1, 1, 0, 1, 0] (retK tab (T_laws_eqEpHoldS_sg N) Try.f74.results.toList some)) (.exit 0) (T_laws_eqEpHoldS_lp0_e1 a1 b2 i10 t11)) =
    (some (α := ODen (T_laws_eqEpHoldS_sg N).ps × RDen (T_laws_eqEpHoldS_sg N).rs) ((), (true, ()))) := by kernel_rfl

theorem T_laws_eqEpHoldS_den (N : Nat) (a1 : List (Int × Int)) (b2 : List (Int × Int)) :
    den (R := ODen (T_laws_eqEpHoldS_sg N).ps × RDen (T_laws_eqEpHoldS_sg N).rs) tab (T_laws_eqEpHoldS_ctx N) T_laws_eqEpHoldS_ann N (T_laws_eqEpHoldS_sg N) Try.f74 (a1, b2, ()) some =
    (bif (ilen a1) != (ilen b2) then
    (some (α := ODen (T_laws_eqEpHoldS_sg N).ps × RDen (T_laws_eqEpHoldS_sg N).rs) ((), (false, ())))
    else
    (T_laws_eqEpHoldS_lp0 N a1 b2
      (some (α := ODen (T_laws_eqEpHoldS_sg N).ps × RDen (T_laws_eqEpHoldS_sg N).rs) ((), (false, ())))
      (fun i10 t11 =>
        (some (α := ODen (T_laws_eqEpHoldS_sg N).ps × RDen (T_laws_eqEpHoldS_sg N).rs) ((), (true, ()))))
       N (0 : Int))) := by
  have h : den (R := ODen (T_laws_eqEpHoldS_sg N).ps × RDen (T_laws_eqEpHoldS_sg N).rs) tab (T_laws_eqEpHoldS_ctx N) T_laws_eqEpHoldS_ann N (T_laws_eqEpHoldS_sg N) Try.f74 (a1, b2, ()) some =
    (bif (ilen a1) != (ilen b2) then
    (some (α := ODen (T_laws_eqEpHoldS_sg N).ps × RDen (T_laws_eqEpHoldS_sg N).rs) ((), (false, ())))
    else
    (T_laws_eqEpHoldS_lp0_m N N (T_laws_eqEpHoldS_lp0_sh a1 b2 (0 : Int)) (ctxK (R := ODen (T_laws_eqEpHoldS_sg N).ps × RDen (T_laws_eqEpHoldS_sg N).rs) tab (T_laws_eqEpHoldS_ctx N) T_laws_eqEpHoldS_ann N (theCode Try.f74) [1, 1, 0, 1, 0] (retK tab (T_laws_eqEpHoldS_sg N) Try.f74.results.toList some)))) := by kernel_rfl
  rw [h]
  (try simp only [T_laws_eqEpHoldS_lp0_eq, T_laws_eqEpHoldS_c1, T_laws_eqEpHoldS_c2]) <;> rfl

theorem T_laws_eqEpHoldS_ok (N : Nat) : chkBody Try.f74 (T_laws_eqEpHoldS_sg N).ps = true := by kernel_rfl

theorem T_laws_eqEpHoldS_callable : Callable Try.prog 74 := callable_of Try.func74 (show chkFn Try.f74 = true by kernel_rfl)

theorem T_laws_eqEpHoldS_good (N : Nat) : Good Try.prog 74 (T_laws_eqEpHoldS_sg N) :=
  good_body mixedOk tabOk (ctx_cons (T_laws_eqEpHold_good N) T_laws_eqEpHold_callable ctx_nil) Try.func74 (T_laws_eqEpHoldS_ok N) (fun d _ h => ⟨N, (T_laws_eqEpHoldS_den N d.1 d.2.1).trans h⟩)

noncomputable def T_laws_eqEpochs_sg (N : Nat) : Sig := Sig.of [.v (.prod (.int .i64) (.prod (.slice (.int .i64)) (.prod (.slice (.bool)) (.prod (.slice (.prod (.int .i64) (.int .i64))) (.prod (.slice (.prod (.int .i64) (.int .i64))) (.slice (.int .i64))))))) true, .v (.prod (.int .i64) (.prod (.slice (.int .i64)) (.prod (.slice (.bool)) (.prod (.slice (.prod (.int .i64) (.int .i64))) (.prod (.slice (.prod (.int .i64) (.int .i64))) (.slice (.int .i64))))))) true] [.v (.bool) false] (fun d => T_laws_eqEpochs N d.1 d.2.1)

def T_laws_eqEpochs_ann : Nat → List Ghost
  | _ => []

noncomputable def T_laws_eqEpochs_ctx (N : Nat) : Ctx := [(14, T_laws_eqIntS_sg N), (72, T_laws_eqBoolS_sg N), (73, T_laws_eqEpBagS_sg N), (74, T_laws_eqEpHoldS_sg N)]

theorem T_laws_eqEpochs_den (N : Nat) (a1 : Int × List Int × List Bool × List (Int × Int) × List (Int × Int) × List Int) (b2 : Int × List Int × List Bool × List (Int × Int) × List (Int × Int) × List Int) :
    den (R := ODen (T_laws_eqEpochs_sg N).ps × RDen (T_laws_eqEpochs_sg N).rs) tab (T_laws_eqEpochs_ctx N) T_laws_eqEpochs_ann N (T_laws_eqEpochs_sg N) Try.f33 (a1, b2, ()) some =
    (bif a1.1 != b2.1 then
    (some (α := ODen (T_laws_eqEpochs_sg N).ps × RDen (T_laws_eqEpochs_sg N).rs) ((), (false, ())))
    else
    ((T_laws_eqIntS N a1.2.1 b2.2.1).bind fun o3 =>
      (bif !o3.2.1 then
        (some (α := ODen (T_laws_eqEpochs_sg N).ps × RDen (T_laws_eqEpochs_sg N).rs) ((), (false, ())))
        else
        ((T_laws_eqBoolS N a1.2.2.1 b2.2.2.1).bind fun o4 =>
          (bif !o4.2.1 then
            (some (α := ODen (T_laws_eqEpochs_sg N).ps × RDen (T_laws_eqEpochs_sg N).rs) ((), (false, ())))
            else
            ((T_laws_eqEpBagS N a1.2.2.2.1 b2.2.2.2.1).bind fun o5 =>
              (bif !o5.2.1 then
                (some (α := ODen (T_laws_eqEpochs_sg N).ps × RDen (T_laws_eqEpochs_sg N).rs) ((), (false, ())))
                else
                ((T_laws_eqEpHoldS N a1.2.2.2.2.1 b2.2.2.2.2.1).bind fun o6 =>
                  (bif !o6.2.1 then
                    (some (α := ODen (T_laws_eqEpochs_sg N).ps × RDen (T_laws_eqEpochs_sg N).rs) ((), (false, ())))
                    else
                    ((T_laws_eqIntS N a1.2.2.2.2.2 b2.2.2.2.2.2).bind fun o7 =>
                      (bif !o7.2.1 then
                        (some (α := ODen (T_laws_eqEpochs_sg N).ps × RDen (T_laws_eqEpochs_sg N).rs) ((), (false, ())))
                        else
                        (some (α := ODen (T_laws_eqEpochs_sg N).ps × RDen (T_laws_eqEpochs_sg N).rs) ((), (true, ())))))))))))))) := by kernel_rfl

theorem T_laws_eqEpochs_ok (N : Nat) : chkBody Try.f33 (T_laws_eqEpochs_sg N).ps = true := by kernel_rfl

theorem T_laws_eqEpochs_callable : Callable Try.prog 33 := callable_of Try.func33 (show chkFn Try.f33 = true by kernel_rfl)

theorem T_laws_eqEpochs_good (N : Nat) : Good Try.prog 33 (T_laws_eqEpochs_sg N) :=
  good_body mixedOk tabOk (ctx_cons (T_laws_eqIntS_good N) T_laws_eqIntS_callable (ctx_cons (T_laws_eqBoolS_good N) T_laws_eqBoolS_callable (ctx_cons (T_laws_eqEpBagS_good N) T_laws_eqEpBagS_callable (ctx_cons (T_laws_eqEpHoldS_good N) T_laws_eqEpHoldS_callable ctx_nil)))) Try.func33 (T_laws_eqEpochs_ok N) (fun d _ h => ⟨N, (T_laws_eqEpochs_den N d.1 d.2.1).trans h⟩)

noncomputable def T_laws_FnExactEpochOk_sg (N : Nat) : Sig := Sig.of [.v (.prod (.int .i64) (.prod (.slice (.int .i64)) (.prod (.slice (.bool)) (.prod (.slice (.prod (.int .i64) (.int .i64))) (.prod (.slice (.prod (.int .i64) (.int .i64))) (.slice (.int .i64))))))) true] [.v (.bool) false] (fun d => T_laws_FnExactEpochOk N d.1)

def T_laws_FnExactEpochOk_ann : Nat → List Ghost
  | _ => []

noncomputable def T_laws_FnExactEpochOk_ctx (N : Nat) : Ctx := [(29, T_laws_szEpochs_sg N), (31, T_laws_toEpochs_sg N), (41, T_spec_EpochOk_sg N), (42, T_impl_EpochOk_sg N), (33, T_laws_eqEpochs_sg N)]

theorem T_laws_FnExactEpochOk_den (N : Nat) (aE1 : Int × List Int × List Bool × List (Int × Int) × List (Int × Int) × List Int) :
    den (R := ODen (T_laws_FnExactEpochOk_sg N).ps × RDen (T_laws_FnExactEpochOk_sg N).rs) tab (T_laws_FnExactEpochOk_ctx N) T_laws_FnExactEpochOk_ann N (T_laws_FnExactEpochOk_sg N) Try.f8 (aE1, ()) some =
    ((T_laws_szEpochs N aE1 (1048576 : Int)).bind fun o2 =>
    (bif decide (o2.2.1 < (0 : Int)) then
      (some (α := ODen (T_laws_FnExactEpochOk_sg N).ps × RDen (T_laws_FnExactEpochOk_sg N).rs) ((), (true, ())))
      else
      ((T_laws_toEpochs N aE1).bind fun o3 =>
        ((T_spec_EpochOk N o3.2.1).bind fun o4 =>
          ((T_laws_toEpochs N aE1).bind fun o5 =>
            ((T_impl_EpochOk N o5.2.1).bind fun o6 =>
              (bif !(beq o6.2.1 o4.2.1) then
                (some (α := ODen (T_laws_FnExactEpochOk_sg N).ps × RDen (T_laws_FnExactEpochOk_sg N).rs) ((), (false, ())))
                else
                ((T_laws_toEpochs N aE1).bind fun o7 =>
                  ((T_laws_eqEpochs N o5.2.1 o7.2.1).bind fun o8 =>
                    (bif !o8.2.1 then
                      (some (α := ODen (T_laws_FnExactEpochOk_sg N).ps × RDen (T_laws_FnExactEpochOk_sg N).rs) ((), (false, ())))
                      else
                      (some (α := ODen (T_laws_FnExactEpochOk_sg N).ps × RDen (T_laws_FnExactEpochOk_sg N).rs) ((), (true, ()))))))))))))) := by kernel_rfl

theorem T_laws_FnExactEpochOk_ok (N : Nat) : chkBody Try.f8 (T_laws_FnExactEpochOk_sg N).ps = true := by kernel_rfl

theorem T_laws_FnExactEpochOk_callable : Callable Try.prog 8 := callable_of Try.func8 (show chkFn Try.f8 = true by kernel_rfl)

theorem T_laws_FnExactEpochOk_good (N : Nat) : Good Try.prog 8 (T_laws_FnExactEpochOk_sg N) :=
  good_body mixedOk tabOk (ctx_cons (T_laws_szEpochs_good N) T_laws_szEpochs_callable (ctx_cons (T_laws_toEpochs_good N) T_laws_toEpochs_callable (ctx_cons (T_spec_EpochOk_good N) T_spec_EpochOk_callable (ctx_cons (T_impl_EpochOk_good N) T_impl_EpochOk_callable (ctx_cons (T_laws_eqEpochs_good N) T_laws_eqEpochs_callable ctx_nil))))) Try.func8 (T_laws_FnExactEpochOk_ok N) (fun d _ h => ⟨N, (T_laws_FnExactEpochOk_den N d.1).trans h⟩)

end Go.Sx
