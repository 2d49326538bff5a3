/- Each Go function does what its Lean function says. -/
import Derived.Test.YtbmealjpegdhiaaT
import Derived.Test.YtbmealjpegdhiaaProg
namespace Go.Sx
open Go.Proofs
set_option linter.unusedVariables false
set_option linter.unusedSimpArgs false

def tab : Tab := [(3, ⟨.int .i64, false, .basic⟩), (4, ⟨.bool, false, .basic⟩), (26, ⟨.slice (.int .i64), false, .slice 3⟩), (44, ⟨.prod (.int .i64) (.prod (.int .i64) (.int .i64)), true, .struct [(0, 3), (1, 3), (2, 3)]⟩), (45, ⟨.slice (.prod (.int .i64) (.prod (.int .i64) (.int .i64))), false, .slice 44⟩), (47, ⟨.prod (.int .i64) (.prod (.int .i64) (.int .i64)), true, .struct [(0, 3), (1, 3), (2, 3)]⟩), (48, ⟨.slice (.prod (.int .i64) (.prod (.int .i64) (.prod (.prod (.int .i64) (.prod (.int .i64) (.int .i64))) (.int .i64)))), false, .slice 170⟩), (49, ⟨.slice (.prod (.int .i64) (.prod (.int .i64) (.prod (.int .i64) (.prod (.int .i64) (.int .i64))))), false, .slice 172⟩), (51, ⟨.prod (.int .i64) (.prod (.prod (.int .i64) (.prod (.int .i64) (.int .i64))) (.prod (.int .i64) (.prod (.int .i64) (.prod (.slice (.prod (.int .i64) (.prod (.int .i64) (.prod (.prod (.int .i64) (.prod (.int .i64) (.int .i64))) (.int .i64))))) (.slice (.prod (.int .i64) (.prod (.int .i64) (.prod (.int .i64) (.prod (.int .i64) (.int .i64)))))))))), true, .struct [(0, 3), (1, 47), (4, 3), (5, 3), (6, 48), (7, 49)]⟩), (54, ⟨.slice (.prod (.int .i64) (.prod (.int .i64) (.int .i64))), false, .slice 47⟩), (170, ⟨.prod (.int .i64) (.prod (.int .i64) (.prod (.prod (.int .i64) (.prod (.int .i64) (.int .i64))) (.int .i64))), true, .struct [(0, 3), (1, 3), (2, 47), (5, 3)]⟩), (172, ⟨.prod (.int .i64) (.prod (.int .i64) (.prod (.int .i64) (.prod (.int .i64) (.int .i64)))), true, .struct [(0, 3), (1, 3), (2, 47)]⟩)]

theorem mixedOk : Try.prog.follows .mixedOrders = true := by kernel_rfl

theorem tabOk : TabOk Try.prog tab := tab_ok (show chkTab Try.prog tab tab = true by kernel_rfl)

noncomputable def T_laws_szTripleS_sg (N : Nat) : Sig := Sig.of [.v (.slice (.prod (.int .i64) (.prod (.int .i64) (.int .i64)))) false, .v (.int .i64) false] [.v (.int .i64) false] (fun d => T_laws_szTripleS N d.1 d.2.1)

def T_laws_szTripleS_ann : Nat → List Ghost
  | _ => []

noncomputable def T_laws_szTripleS_ctx (N : Nat) : Ctx := []

theorem T_laws_szTripleS_den (N : Nat) (a1 : List (Int × Int × Int)) (left2 : Int) :
    den (R := ODen (T_laws_szTripleS_sg N).ps × RDen (T_laws_szTripleS_sg N).rs) tab (T_laws_szTripleS_ctx N) T_laws_szTripleS_ann N (T_laws_szTripleS_sg N) Try.f24 (a1, left2, ()) some =
    (bif decide ((isub .i64 left2 (ilen a1)) < (0 : Int)) then
    (some (α := ODen (T_laws_szTripleS_sg N).ps × RDen (T_laws_szTripleS_sg N).rs) ((), ((-1 : Int), ())))
    else
    (some (α := ODen (T_laws_szTripleS_sg N).ps × RDen (T_laws_szTripleS_sg N).rs) ((), (isub .i64 left2 (ilen a1), ())))) := by kernel_rfl

theorem T_laws_szTripleS_ok (N : Nat) : chkBody Try.f24 (T_laws_szTripleS_sg N).ps = true := by kernel_rfl

theorem T_laws_szTripleS_callable : Callable Try.prog 24 := callable_of Try.func24 (show chkFn Try.f24 = true by kernel_rfl)

theorem T_laws_szTripleS_good (N : Nat) : Good Try.prog 24 (T_laws_szTripleS_sg N) :=
  good_body mixedOk tabOk ctx_nil Try.func24 (T_laws_szTripleS_ok N) (fun d _ h => ⟨N, (T_laws_szTripleS_den N d.1 d.2.1).trans h⟩)

noncomputable def T_laws_toTriple_sg (N : Nat) : Sig := Sig.of [.v (.prod (.int .i64) (.prod (.int .i64) (.int .i64))) true] [.v (.prod (.int .i64) (.prod (.int .i64) (.int .i64))) true] (fun d => T_laws_toTriple N d.1)

def T_laws_toTriple_ann : Nat → List Ghost
  | _ => []

noncomputable def T_laws_toTriple_ctx (N : Nat) : Ctx := []

theorem T_laws_toTriple_den (N : Nat) (a1 : Int × Int × Int) :
    den (R := ODen (T_laws_toTriple_sg N).ps × RDen (T_laws_toTriple_sg N).rs) tab (T_laws_toTriple_ctx N) T_laws_toTriple_ann N (T_laws_toTriple_sg N) Try.f26 (a1, ()) some =
    (some (α := ODen (T_laws_toTriple_sg N).ps × RDen (T_laws_toTriple_sg N).rs) ((), (a1, ()))) := by kernel_rfl

theorem T_laws_toTriple_ok (N : Nat) : chkBody Try.f26 (T_laws_toTriple_sg N).ps = true := by kernel_rfl

theorem T_laws_toTriple_callable : Callable Try.prog 26 := callable_of Try.func26 (show chkFn Try.f26 = true by kernel_rfl)

theorem T_laws_toTriple_good (N : Nat) : Good Try.prog 26 (T_laws_toTriple_sg N) :=
  good_body mixedOk tabOk ctx_nil Try.func26 (T_laws_toTriple_ok N) (fun d _ h => ⟨N, (T_laws_toTriple_den N d.1).trans h⟩)

noncomputable def T_laws_toTripleS_sg (N : Nat) : Sig := Sig.of [.v (.slice (.prod (.int .i64) (.prod (.int .i64) (.int .i64)))) false] [.v (.own (.prod (.int .i64) (.prod (.int .i64) (.int .i64)))) false] (fun d => T_laws_toTripleS N d.1)

def T_laws_toTripleS_ann : Nat → List Ghost
  | 3 => [.canon [0, 3, 4, 11]]
  | 4 => [.canon [0, 3, 4]]
  | 5 => [.canon [0, 3, 4]]
  | 100003 => [.canon [0, 3, 4]]
  | _ => []

noncomputable def T_laws_toTripleS_ctx (N : Nat) : Ctx := [(26, T_laws_toTriple_sg N)]

def T_laws_toTripleS_lp0_sh (a2 : List (Int × Int × Int)) (i3 : Int) (l4 : List (Int × Int × Int)) : St := { env := [(0, .s (.one (.val (.slice (.prod (.int .i64) (.prod (.int .i64) (.int .i64)))) (a2 : List (Int × Int × Int))))), (3, .s (.one (.own 0))), (4, .s (.one (.val (.int .i64) (i3 : Int))))], objs := [(0, .arr (.prod (.int .i64) (.prod (.int .i64) (.int .i64))) (l4 : List (Int × Int × Int)))], nx := 1 }

def T_laws_toTripleS_lp0_e0 (a2 : List (Int × Int × Int)) (i6 : Int) (t7 : Bool) (l8 : List (Int × Int × Int)) : St := { env := [(0, .s (.one (.val (.slice (.prod (.int .i64) (.prod (.int .i64) (.int .i64)))) (a2 : List (Int × Int × Int))))), (3, .s (.one (.own 0))), (4, .s (.one (.val (.int .i64) (i6 : Int)))), (11, .s (.one (.val (.bool) (t7 : Bool))))], objs := [(0, .arr (.prod (.int .i64) (.prod (.int .i64) (.int .i64))) (l8 : List (Int × Int × Int)))], nx := 1 }

noncomputable def T_laws_toTripleS_lp0_m (N : Nat) {R : Type} (n : Nat) (st : St) (K : Ex → St → Option R) : Option R := loopN (roundG (T_laws_toTripleS_ann 100003) fun st k => sx tab (T_laws_toTripleS_ctx N) T_laws_toTripleS_ann N (nthLoop Try.f27 0) st k) n st K

theorem T_laws_toTripleS_lp0_step (N : Nat) {R : Type} (n : Nat) (K : Ex → St → Option R) (a2 : List (Int × Int × Int)) (i3 : Int) (l4 : List (Int × Int × Int)) :
    T_laws_toTripleS_lp0_m N (n + 1) (T_laws_toTripleS_lp0_sh a2 i3 l4) K =
    (bif decide (i3 < (ilen a2)) then
    (bif inb i3 (List.length a2) then
      ((T_laws_toTriple N (List.getD a2 (Int.toNat i3) ((0 : Int), ((0 : Int), (0 : Int))))).bind fun o9 =>
        (bif inb i3 (List.length l4) then
          (T_laws_toTripleS_lp0_m N n (T_laws_toTripleS_lp0_sh a2 (iadd .i64 i3 (1 : Int)) (List.set l4 (Int.toNat i3) o9.2.1)) K) else none)) else none)
    else
    (K (.exit 0) (T_laws_toTripleS_lp0_e0 a2 i3 (decide (i3 < (ilen a2))) l4))) := by kernel_rfl

theorem T_laws_toTripleS_lp0_eq (N : Nat) {R : Type} (a2 : List (Int × Int × Int)) (K : Ex → St → Option R) : ∀ (n : Nat) (i3 : Int) (l4 : List (Int × Int × Int)), T_laws_toTripleS_lp0_m N n (T_laws_toTripleS_lp0_sh a2 i3 l4) K = T_laws_toTripleS_lp0 N a2 (fun i6 t7 l8 => (K (.exit 0) (T_laws_toTripleS_lp0_e0 a2 i6 t7 l8))) n i3 l4
  | 0, _, _ => rfl
  | n + 1, i3, l4 => by rw [T_laws_toTripleS_lp0_step, T_laws_toTripleS_lp0]; (try simp only [T_laws_toTripleS_lp0_eq N a2 K n])

theorem T_laws_toTripleS_c1 (N : Nat) (a1 : List (Int × Int × Int)) (i10 : Int) (t11 : Bool) (l12 : List (Int × Int × Int)) :
    ((ctxK (R := ODen (T_laws_toTripleS_sg N).ps × RDen (T_laws_toTripleS_sg N).rs) tab (T_laws_toTripleS_ctx N) T_laws_toTripleS_ann N (theCode Try.f27) [1, 1, 0, 1, 0] (retK tab (T_laws_toTripleS_sg N) Try.f27.results.toList some)) (.exit 0) (T_laws_toTripleS_lp0_e0 a1 i10 t11 l12)) =
    (some (α := ODen (T_laws_toTripleS_sg N).ps × RDen (T_laws_toTripleS_sg N).rs) ((), (l12, ()))) := by kernel_rfl

theorem T_laws_toTripleS_den (N : Nat) (a1 : List (Int × Int × Int)) :
    den (R := ODen (T_laws_toTripleS_sg N).ps × RDen (T_laws_toTripleS_sg N).rs) tab (T_laws_toTripleS_ctx N) T_laws_toTripleS_ann N (T_laws_toTripleS_sg N) Try.f27 (a1, ()) some =
    (bif ((decide ((0 : Int) ≤ (ilen a1))) && (decide ((ilen a1) ≤ (ilen a1)))) && (room (Int.toNat (ilen a1))) then
    (T_laws_toTripleS_lp0 N a1
      (fun i10 t11 l12 =>
        (some (α := ODen (T_laws_toTripleS_sg N).ps × RDen (T_laws_toTripleS_sg N).rs) ((), (l12, ()))))
       N (0 : Int) (List.replicate (Int.toNat (ilen a1)) ((0 : Int), ((0 : Int), (0 : Int))))) else none) := by
  have h : den (R := ODen (T_laws_toTripleS_sg N).ps × RDen (T_laws_toTripleS_sg N).rs) tab (T_laws_toTripleS_ctx N) T_laws_toTripleS_ann N (T_laws_toTripleS_sg N) Try.f27 (a1, ()) some =
    (bif ((decide ((0 : Int) ≤ (ilen a1))) && (decide ((ilen a1) ≤ (ilen a1)))) && (room (Int.toNat (ilen a1))) then
    (T_laws_toTripleS_lp0_m N N (T_laws_toTripleS_lp0_sh a1 (0 : Int) (List.replicate (Int.toNat (ilen a1)) ((0 : Int), ((0 : Int), (0 : Int))))) (ctxK (R := ODen (T_laws_toTripleS_sg N).ps × RDen (T_laws_toTripleS_sg N).rs) tab (T_laws_toTripleS_ctx N) T_laws_toTripleS_ann N (theCode Try.f27) [1, 1, 0, 1, 0] (retK tab (T_laws_toTripleS_sg N) Try.f27.results.toList some))) else none) := by kernel_rfl
  rw [h]
  (try simp only [T_laws_toTripleS_lp0_eq, T_laws_toTripleS_c1]) <;> rfl

theorem T_laws_toTripleS_ok (N : Nat) : chkBody Try.f27 (T_laws_toTripleS_sg N).ps = true := by kernel_rfl

theorem T_laws_toTripleS_callable : Callable Try.prog 27 := callable_of Try.func27 (show chkFn Try.f27 = true by kernel_rfl)

theorem T_laws_toTripleS_good (N : Nat) : Good Try.prog 27 (T_laws_toTripleS_sg N) :=
  good_body mixedOk tabOk (ctx_cons (T_laws_toTriple_good N) T_laws_toTriple_callable ctx_nil) Try.func27 (T_laws_toTripleS_ok N) (fun d _ h => ⟨N, (T_laws_toTripleS_den N d.1).trans h⟩)

noncomputable def T_laws_toIntS_sg (N : Nat) : Sig := Sig.of [.v (.slice (.int .i64)) false] [.v (.own (.int .i64)) false] (fun d => T_laws_toIntS N d.1)

def T_laws_toIntS_ann : Nat → List Ghost
  | 3 => [.canon [0, 3, 4, 11]]
  | 4 => [.canon [0, 3, 4]]
  | 5 => [.canon [0, 3, 4]]
  | 100003 => [.canon [0, 3, 4]]
  | _ => []

noncomputable def T_laws_toIntS_ctx (N : Nat) : Ctx := []

def T_laws_toIntS_lp0_sh (a2 : List Int) (i3 : Int) (l4 : List Int) : St := { env := [(0, .s (.one (.val (.slice (.int .i64)) (a2 : List Int)))), (3, .s (.one (.own 0))), (4, .s (.one (.val (.int .i64) (i3 : Int))))], objs := [(0, .arr (.int .i64) (l4 : List Int))], nx := 1 }

def T_laws_toIntS_lp0_e0 (a2 : List Int) (i5 : Int) (t6 : Bool) (l7 : List Int) : St := { env := [(0, .s (.one (.val (.slice (.int .i64)) (a2 : List Int)))), (3, .s (.one (.own 0))), (4, .s (.one (.val (.int .i64) (i5 : Int)))), (11, .s (.one (.val (.bool) (t6 : Bool))))], objs := [(0, .arr (.int .i64) (l7 : List Int))], nx := 1 }

noncomputable def T_laws_toIntS_lp0_m (N : Nat) {R : Type} (n : Nat) (st : St) (K : Ex → St → Option R) : Option R := loopN (roundG (T_laws_toIntS_ann 100003) fun st k => sx tab (T_laws_toIntS_ctx N) T_laws_toIntS_ann N (nthLoop Try.f20 0) st k) n st K

theorem T_laws_toIntS_lp0_step (N : Nat) {R : Type} (n : Nat) (K : Ex → St → Option R) (a2 : List Int) (i3 : Int) (l4 : List Int) :
    T_laws_toIntS_lp0_m N (n + 1) (T_laws_toIntS_lp0_sh a2 i3 l4) K =
    (bif decide (i3 < (ilen a2)) then
    (bif inb i3 (List.length a2) then
      (bif inb i3 (List.length l4) then
        (T_laws_toIntS_lp0_m N n (T_laws_toIntS_lp0_sh a2 (iadd .i64 i3 (1 : Int)) (List.set l4 (Int.toNat i3) (List.getD a2 (Int.toNat i3) (0 : Int)))) K) else none) else none)
    else
    (K (.exit 0) (T_laws_toIntS_lp0_e0 a2 i3 (decide (i3 < (ilen a2))) l4))) := by kernel_rfl

theorem T_laws_toIntS_lp0_eq (N : Nat) {R : Type} (a2 : List Int) (K : Ex → St → Option R) : ∀ (n : Nat) (i3 : Int) (l4 : List Int), T_laws_toIntS_lp0_m N n (T_laws_toIntS_lp0_sh a2 i3 l4) K = T_laws_toIntS_lp0 N a2 (fun i5 t6 l7 => (K (.exit 0) (T_laws_toIntS_lp0_e0 a2 i5 t6 l7))) n i3 l4
  | 0, _, _ => rfl
  | n + 1, i3, l4 => by rw [T_laws_toIntS_lp0_step, T_laws_toIntS_lp0]; (try simp only [T_laws_toIntS_lp0_eq N a2 K n])

theorem T_laws_toIntS_c1 (N : Nat) (a1 : List Int) (i8 : Int) (t9 : Bool) (l10 : List Int) :
    ((ctxK (R := ODen (T_laws_toIntS_sg N).ps × RDen (T_laws_toIntS_sg N).rs) tab (T_laws_toIntS_ctx N) T_laws_toIntS_ann N (theCode Try.f20) [1, 1, 0, 1, 0] (retK tab (T_laws_toIntS_sg N) Try.f20.results.toList some)) (.exit 0) (T_laws_toIntS_lp0_e0 a1 i8 t9 l10)) =
    (some (α := ODen (T_laws_toIntS_sg N).ps × RDen (T_laws_toIntS_sg N).rs) ((), (l10, ()))) := by kernel_rfl

theorem T_laws_toIntS_den (N : Nat) (a1 : List Int) :
    den (R := ODen (T_laws_toIntS_sg N).ps × RDen (T_laws_toIntS_sg N).rs) tab (T_laws_toIntS_ctx N) T_laws_toIntS_ann N (T_laws_toIntS_sg N) Try.f20 (a1, ()) some =
    (bif ((decide ((0 : Int) ≤ (ilen a1))) && (decide ((ilen a1) ≤ (ilen a1)))) && (room (Int.toNat (ilen a1))) then
    (T_laws_toIntS_lp0 N a1
      (fun i8 t9 l10 =>
        (some (α := ODen (T_laws_toIntS_sg N).ps × RDen (T_laws_toIntS_sg N).rs) ((), (l10, ()))))
       N (0 : Int) (List.replicate (Int.toNat (ilen a1)) (0 : Int))) else none) := by
  have h : den (R := ODen (T_laws_toIntS_sg N).ps × RDen (T_laws_toIntS_sg N).rs) tab (T_laws_toIntS_ctx N) T_laws_toIntS_ann N (T_laws_toIntS_sg N) Try.f20 (a1, ()) some =
    (bif ((decide ((0 : Int) ≤ (ilen a1))) && (decide ((ilen a1) ≤ (ilen a1)))) && (room (Int.toNat (ilen a1))) then
    (T_laws_toIntS_lp0_m N N (T_laws_toIntS_lp0_sh a1 (0 : Int) (List.replicate (Int.toNat (ilen a1)) (0 : Int))) (ctxK (R := ODen (T_laws_toIntS_sg N).ps × RDen (T_laws_toIntS_sg N).rs) tab (T_laws_toIntS_ctx N) T_laws_toIntS_ann N (theCode Try.f20) [1, 1, 0, 1, 0] (retK tab (T_laws_toIntS_sg N) Try.f20.results.toList some))) else none) := by kernel_rfl
  rw [h]
  (try simp only [T_laws_toIntS_lp0_eq, T_laws_toIntS_c1]) <;> rfl

theorem T_laws_toIntS_ok (N : Nat) : chkBody Try.f20 (T_laws_toIntS_sg N).ps = true := by kernel_rfl

theorem T_laws_toIntS_callable : Callable Try.prog 20 := callable_of Try.func20 (show chkFn Try.f20 = true by kernel_rfl)

theorem T_laws_toIntS_good (N : Nat) : Good Try.prog 20 (T_laws_toIntS_sg N) :=
  good_body mixedOk tabOk ctx_nil Try.func20 (T_laws_toIntS_ok N) (fun d _ h => ⟨N, (T_laws_toIntS_den N d.1).trans h⟩)

noncomputable def T_spec_l1In_sg (N : Nat) : Sig := Sig.of [.v (.int .i64) false, .v (.int .i64) false, .v (.int .i64) false] [.v (.bool) false] (fun d => T_spec_l1In N d.1 d.2.1 d.2.2.1)

def T_spec_l1In_ann : Nat → List Ghost
  | _ => []

noncomputable def T_spec_l1In_ctx (N : Nat) : Ctx := []

theorem T_spec_l1In_den (N : Nat) (x1 : Int) (low2 : Int) (high3 : Int) :
    den (R := ODen (T_spec_l1In_sg N).ps × RDen (T_spec_l1In_sg N).rs) tab (T_spec_l1In_ctx N) T_spec_l1In_ann N (T_spec_l1In_sg N) Try.f59 (x1, low2, high3, ()) some =
    (bif decide (x1 ≥ low2) then
    (some (α := ODen (T_spec_l1In_sg N).ps × RDen (T_spec_l1In_sg N).rs) ((), (decide (x1 ≤ high3), ())))
    else
    (some (α := ODen (T_spec_l1In_sg N).ps × RDen (T_spec_l1In_sg N).rs) ((), (false, ())))) := by kernel_rfl

theorem T_spec_l1In_ok (N : Nat) : chkBody Try.f59 (T_spec_l1In_sg N).ps = true := by kernel_rfl

theorem T_spec_l1In_callable : Callable Try.prog 59 := callable_of Try.func59 (show chkFn Try.f59 = true by kernel_rfl)

theorem T_spec_l1In_good (N : Nat) : Good Try.prog 59 (T_spec_l1In_sg N) :=
  good_body mixedOk tabOk ctx_nil Try.func59 (T_spec_l1In_ok N) (fun d _ h => ⟨N, (T_spec_l1In_den N d.1 d.2.1 d.2.2.1).trans h⟩)

noncomputable def T_spec_l3Val_sg (N : Nat) : Sig := Sig.of [.v (.int .i64) false] [.v (.bool) false] (fun d => T_spec_l3Val N d.1)

def T_spec_l3Val_ann : Nat → List Ghost
  | _ => []

noncomputable def T_spec_l3Val_ctx (N : Nat) : Ctx := [(59, T_spec_l1In_sg N)]

theorem T_spec_l3Val_den (N : Nat) (v1 : Int) :
    den (R := ODen (T_spec_l3Val_sg N).ps × RDen (T_spec_l3Val_sg N).rs) tab (T_spec_l3Val_ctx N) T_spec_l3Val_ann N (T_spec_l3Val_sg N) Try.f128 (v1, ()) some =
    ((T_spec_l1In N v1 (0 : Int) (65535 : Int)).bind fun o2 =>
    (some (α := ODen (T_spec_l3Val_sg N).ps × RDen (T_spec_l3Val_sg N).rs) ((), (o2.2.1, ())))) := by kernel_rfl

theorem T_spec_l3Val_ok (N : Nat) : chkBody Try.f128 (T_spec_l3Val_sg N).ps = true := by kernel_rfl

theorem T_spec_l3Val_callable : Callable Try.prog 128 := callable_of Try.func128 (show chkFn Try.f128 = true by kernel_rfl)

theorem T_spec_l3Val_good (N : Nat) : Good Try.prog 128 (T_spec_l3Val_sg N) :=
  good_body mixedOk tabOk (ctx_cons (T_spec_l1In_good N) T_spec_l1In_callable ctx_nil) Try.func128 (T_spec_l3Val_ok N) (fun d _ h => ⟨N, (T_spec_l3Val_den N d.1).trans h⟩)

noncomputable def T_spec_l25Ok_sg (N : Nat) : Sig := Sig.of [.v (.prod (.int .i64) (.prod (.int .i64) (.int .i64))) true] [.v (.bool) false] (fun d => T_spec_l25Ok N d.1)

def T_spec_l25Ok_ann : Nat → List Ghost
  | _ => []

noncomputable def T_spec_l25Ok_ctx (N : Nat) : Ctx := [(128, T_spec_l3Val_sg N)]

theorem T_spec_l25Ok_den (N : Nat) (t1 : Int × Int × Int) :
    den (R := ODen (T_spec_l25Ok_sg N).ps × RDen (T_spec_l25Ok_sg N).rs) tab (T_spec_l25Ok_ctx N) T_spec_l25Ok_ann N (T_spec_l25Ok_sg N) Try.f75 (t1, ()) some =
    ((T_spec_l3Val N t1.1).bind fun o2 =>
    (bif o2.2.1 then
      ((T_spec_l3Val N t1.2.1).bind fun o3 =>
        (bif o3.2.1 then
          ((T_spec_l3Val N t1.2.2).bind fun o4 =>
            (some (α := ODen (T_spec_l25Ok_sg N).ps × RDen (T_spec_l25Ok_sg N).rs) ((), (o4.2.1, ()))))
          else
          (some (α := ODen (T_spec_l25Ok_sg N).ps × RDen (T_spec_l25Ok_sg N).rs) ((), (false, ())))))
      else
      (some (α := ODen (T_spec_l25Ok_sg N).ps × RDen (T_spec_l25Ok_sg N).rs) ((), (false, ()))))) := by kernel_rfl

theorem T_spec_l25Ok_ok (N : Nat) : chkBody Try.f75 (T_spec_l25Ok_sg N).ps = true := by kernel_rfl

theorem T_spec_l25Ok_callable : Callable Try.prog 75 := callable_of Try.func75 (show chkFn Try.f75 = true by kernel_rfl)

theorem T_spec_l25Ok_good (N : Nat) : Good Try.prog 75 (T_spec_l25Ok_sg N) :=
  good_body mixedOk tabOk (ctx_cons (T_spec_l3Val_good N) T_spec_l3Val_callable ctx_nil) Try.func75 (T_spec_l25Ok_ok N) (fun d _ h => ⟨N, (T_spec_l25Ok_den N d.1).trans h⟩)

noncomputable def T_spec_TriplesOk_sg (N : Nat) : Sig := Sig.of [.v (.slice (.prod (.int .i64) (.prod (.int .i64) (.int .i64)))) false] [.v (.bool) false] (fun d => T_spec_TriplesOk N d.1)

def T_spec_TriplesOk_ann : Nat → List Ghost
  | 4 => [.canon [0, 3, 10]]
  | 5 => [.canon [0, 3]]
  | 6 => [.canon [0, 3, 18]]
  | 7 => [.canon [2]]
  | 100004 => [.canon [0, 3]]
  | _ => []

noncomputable def T_spec_TriplesOk_ctx (N : Nat) : Ctx := [(75, T_spec_l25Ok_sg N)]

def T_spec_TriplesOk_lp0_sh (l2 : List (Int × Int × Int)) (i3 : Int) : St := { env := [(0, .s (.one (.val (.slice (.prod (.int .i64) (.prod (.int .i64) (.int .i64)))) (l2 : List (Int × Int × Int))))), (3, .s (.one (.val (.int .i64) (i3 : Int))))], objs := [], nx := 0 }

def T_spec_TriplesOk_lp0_e0 (l2 : List (Int × Int × Int)) : St := { env := [(2, .s (.one (.val (.bool) (false : Bool))))], objs := [], nx := 0 }

def T_spec_TriplesOk_lp0_e1 (l2 : List (Int × Int × Int)) (i5 : Int) (t6 : Bool) : St := { env := [(0, .s (.one (.val (.slice (.prod (.int .i64) (.prod (.int .i64) (.int .i64)))) (l2 : List (Int × Int × Int))))), (3, .s (.one (.val (.int .i64) (i5 : Int)))), (10, .s (.one (.val (.bool) (t6 : Bool))))], objs := [], nx := 0 }

noncomputable def T_spec_TriplesOk_lp0_m (N : Nat) {R : Type} (n : Nat) (st : St) (K : Ex → St → Option R) : Option R := loopN (roundG (T_spec_TriplesOk_ann 100004) fun st k => sx tab (T_spec_TriplesOk_ctx N) T_spec_TriplesOk_ann N (nthLoop Try.f76 0) st k) n st K

theorem T_spec_TriplesOk_lp0_step (N : Nat) {R : Type} (n : Nat) (K : Ex → St → Option R) (l2 : List (Int × Int × Int)) (i3 : Int) :
    T_spec_TriplesOk_lp0_m N (n + 1) (T_spec_TriplesOk_lp0_sh l2 i3) K =
    (bif decide (i3 < (ilen l2)) then
    (bif inb i3 (List.length l2) then
      ((T_spec_l25Ok N (List.getD l2 (Int.toNat i3) ((0 : Int), ((0 : Int), (0 : Int))))).bind fun o7 =>
        (bif !o7.2.1 then
          (K .ret (T_spec_TriplesOk_lp0_e0 l2))
          else
          (T_spec_TriplesOk_lp0_m N n (T_spec_TriplesOk_lp0_sh l2 (iadd .i64 i3 (1 : Int))) K))) else none)
    else
    (K (.exit 0) (T_spec_TriplesOk_lp0_e1 l2 i3 (decide (i3 < (ilen l2)))))) := by kernel_rfl

theorem T_spec_TriplesOk_lp0_eq (N : Nat) {R : Type} (l2 : List (Int × Int × Int)) (K : Ex → St → Option R) : ∀ (n : Nat) (i3 : Int), T_spec_TriplesOk_lp0_m N n (T_spec_TriplesOk_lp0_sh l2 i3) K = T_spec_TriplesOk_lp0 N l2 (K .ret (T_spec_TriplesOk_lp0_e0 l2)) (fun i5 t6 => (K (.exit 0) (T_spec_TriplesOk_lp0_e1 l2 i5 t6))) n i3
  | 0, _ => rfl
  | n + 1, i3 => by rw [T_spec_TriplesOk_lp0_step, T_spec_TriplesOk_lp0]; (try simp only [T_spec_TriplesOk_lp0_eq N l2 K n])

theorem T_spec_TriplesOk_c1 (N : Nat) (l1 : List (Int × Int × Int)) :
    ((ctxK (R := ODen (T_spec_TriplesOk_sg N).ps × RDen (T_spec_TriplesOk_sg N).rs) tab (T_spec_TriplesOk_ctx N) T_spec_TriplesOk_ann N (theCode Try.f76) [1, 1, 0, 1, 0] (retK tab (T_spec_TriplesOk_sg N) Try.f76.results.toList some)) .ret (T_spec_TriplesOk_lp0_e0 l1)) =
    (some (α := ODen (T_spec_TriplesOk_sg N).ps × RDen (T_spec_TriplesOk_sg N).rs) ((), (false, ()))) := by kernel_rfl

theorem T_spec_TriplesOk_c2 (N : Nat) (l1 : List (Int × Int × Int)) (i8 : Int) (t9 : Bool) :
    ((ctxK (R := ODen (T_spec_TriplesOk_sg N).ps × RDen (T_spec_TriplesOk_sg N).rs) tab (T_spec_TriplesOk_ctx N) T_spec_TriplesOk_ann N (theCode Try.f76) [1, 1, 0, 1, 0] (retK tab (T_spec_TriplesOk_sg N) Try.f76.results.toList some)) (.exit 0) (T_spec_TriplesOk_lp0_e1 l1 i8 t9)) =
    (some (α := ODen (T_spec_TriplesOk_sg N).ps × RDen (T_spec_TriplesOk_sg N).rs) ((), (true, ()))) := by kernel_rfl

theorem T_spec_TriplesOk_den (N : Nat) (l1 : List (Int × Int × Int)) :
    den (R := ODen (T_spec_TriplesOk_sg N).ps × RDen (T_spec_TriplesOk_sg N).rs) tab (T_spec_TriplesOk_ctx N) T_spec_TriplesOk_ann N (T_spec_TriplesOk_sg N) Try.f76 (l1, ()) some =
    (bif decide ((ilen l1) > (20 : Int)) then
    (some (α := ODen (T_spec_TriplesOk_sg N).ps × RDen (T_spec_TriplesOk_sg N).rs) ((), (false, ())))
    else
    (T_spec_TriplesOk_lp0 N l1
      (some (α := ODen (T_spec_TriplesOk_sg N).ps × RDen (T_spec_TriplesOk_sg N).rs) ((), (false, ())))
      (fun i8 t9 =>
        (some (α := ODen (T_spec_TriplesOk_sg N).ps × RDen (T_spec_TriplesOk_sg N).rs) ((), (true, ()))))
       N (0 : Int))) := by
  have h : den (R := ODen (T_spec_TriplesOk_sg N).ps × RDen (T_spec_TriplesOk_sg N).rs) tab (T_spec_TriplesOk_ctx N) T_spec_TriplesOk_ann N (T_spec_TriplesOk_sg N) Try.f76 (l1, ()) some =
    (bif decide ((ilen l1) > (20 : Int)) then
    (some (α := ODen (T_spec_TriplesOk_sg N).ps × RDen (T_spec_TriplesOk_sg N).rs) ((), (false, ())))
    else
    (T_spec_TriplesOk_lp0_m N N (T_spec_TriplesOk_lp0_sh l1 (0 : Int)) (ctxK (R := ODen (T_spec_TriplesOk_sg N).ps × RDen (T_spec_TriplesOk_sg N).rs) tab (T_spec_TriplesOk_ctx N) T_spec_TriplesOk_ann N (theCode Try.f76) [1, 1, 0, 1, 0] (retK tab (T_spec_TriplesOk_sg N) Try.f76.results.toList some)))) := by kernel_rfl
  rw [h]
  (try simp only [T_spec_TriplesOk_lp0_eq, T_spec_TriplesOk_c1, T_spec_TriplesOk_c2]) <;> rfl

theorem T_spec_TriplesOk_ok (N : Nat) : chkBody Try.f76 (T_spec_TriplesOk_sg N).ps = true := by kernel_rfl

theorem T_spec_TriplesOk_callable : Callable Try.prog 76 := callable_of Try.func76 (show chkFn Try.f76 = true by kernel_rfl)

theorem T_spec_TriplesOk_good (N : Nat) : Good Try.prog 76 (T_spec_TriplesOk_sg N) :=
  good_body mixedOk tabOk (ctx_cons (T_spec_l25Ok_good N) T_spec_l25Ok_callable ctx_nil) Try.func76 (T_spec_TriplesOk_ok N) (fun d _ h => ⟨N, (T_spec_TriplesOk_den N d.1).trans h⟩)

noncomputable def T_spec_l25Write_sg (N : Nat) : Sig := Sig.of [.v (.prod (.int .i64) (.prod (.prod (.int .i64) (.prod (.int .i64) (.int .i64))) (.prod (.int .i64) (.prod (.int .i64) (.prod (.own (.prod (.int .i64) (.prod (.int .i64) (.prod (.prod (.int .i64) (.prod (.int .i64) (.int .i64))) (.int .i64))))) (.own (.prod (.int .i64) (.prod (.int .i64) (.prod (.int .i64) (.prod (.int .i64) (.int .i64))))))))))) true, .v (.slice (.prod (.int .i64) (.prod (.int .i64) (.int .i64)))) false] [.v (.prod (.int .i64) (.prod (.prod (.int .i64) (.prod (.int .i64) (.int .i64))) (.prod (.int .i64) (.prod (.int .i64) (.prod (.own (.prod (.int .i64) (.prod (.int .i64) (.prod (.prod (.int .i64) (.prod (.int .i64) (.int .i64))) (.int .i64))))) (.own (.prod (.int .i64) (.prod (.int .i64) (.prod (.int .i64) (.prod (.int .i64) (.int .i64))))))))))) true] (fun d => T_spec_l25Write N d.1 d.2.1)

def T_spec_l25Write_ann : Nat → List Ghost
  | _ => []

noncomputable def T_spec_l25Write_ctx (N : Nat) : Ctx := []

theorem T_spec_l25Write_den (N : Nat) (w1 : Int × (Int × Int × Int) × Int × Int × List (Int × Int × (Int × Int × Int) × Int) × List (Int × Int × Int × Int × Int)) (l2 : List (Int × Int × Int)) :
    den (R := ODen (T_spec_l25Write_sg N).ps × RDen (T_spec_l25Write_sg N).rs) tab (T_spec_l25Write_ctx N) T_spec_l25Write_ann N (T_spec_l25Write_sg N) Try.f77 (w1, l2, ()) some =
    (bif w1.2.2.1 == (0 : Int) then
    (bif w1.2.2.2.1 == (ilen l2) then
      (some (α := ODen (T_spec_l25Write_sg N).ps × RDen (T_spec_l25Write_sg N).rs) ((), (w1, ())))
      else
      (bif inz (5 : Int) then
        (some (α := ODen (T_spec_l25Write_sg N).ps × RDen (T_spec_l25Write_sg N).rs) ((), ((iadd .i64 w1.1 (1 : Int), (w1.2.1, (irem (iadd .i64 w1.2.2.1 (1 : Int)) (5 : Int), w1.2.2.2))), ()))) else none))
    else
    (bif w1.2.2.1 == (1 : Int) then
      (bif inb w1.2.2.2.1 (List.length l2) then
        (bif inz (5 : Int) then
          (some (α := ODen (T_spec_l25Write_sg N).ps × RDen (T_spec_l25Write_sg N).rs) ((), ((w1.1, (((List.getD l2 (Int.toNat w1.2.2.2.1) ((0 : Int), ((0 : Int), (0 : Int)))).1, w1.2.1.2), (irem (iadd .i64 w1.2.2.1 (1 : Int)) (5 : Int), w1.2.2.2))), ()))) else none) else none)
      else
      (bif w1.2.2.1 == (2 : Int) then
        (bif inb w1.2.2.2.1 (List.length l2) then
          (bif inz (5 : Int) then
            (some (α := ODen (T_spec_l25Write_sg N).ps × RDen (T_spec_l25Write_sg N).rs) ((), ((w1.1, ((w1.2.1.1, ((List.getD l2 (Int.toNat w1.2.2.2.1) ((0 : Int), ((0 : Int), (0 : Int)))).2.1, w1.2.1.2.2)), (irem (iadd .i64 w1.2.2.1 (1 : Int)) (5 : Int), w1.2.2.2))), ()))) else none) else none)
        else
        (bif w1.2.2.1 == (3 : Int) then
          (bif inb w1.2.2.2.1 (List.length l2) then
            (bif inz (5 : Int) then
              (some (α := ODen (T_spec_l25Write_sg N).ps × RDen (T_spec_l25Write_sg N).rs) ((), ((w1.1, ((w1.2.1.1, (w1.2.1.2.1, (List.getD l2 (Int.toNat w1.2.2.2.1) ((0 : Int), ((0 : Int), (0 : Int)))).2.2)), (irem (iadd .i64 w1.2.2.1 (1 : Int)) (5 : Int), w1.2.2.2))), ()))) else none) else none)
          else
          (bif inz (5 : Int) then
            (some (α := ODen (T_spec_l25Write_sg N).ps × RDen (T_spec_l25Write_sg N).rs) ((), ((iadd .i64 w1.1 (1 : Int), (w1.2.1, (irem (iadd .i64 w1.2.2.1 (1 : Int)) (5 : Int), (iadd .i64 w1.2.2.2.1 (1 : Int), w1.2.2.2.2)))), ()))) else none))))) := by kernel_rfl

theorem T_spec_l25Write_ok (N : Nat) : chkBody Try.f77 (T_spec_l25Write_sg N).ps = true := by kernel_rfl

theorem T_spec_l25Write_callable : Callable Try.prog 77 := callable_of Try.func77 (show chkFn Try.f77 = true by kernel_rfl)

theorem T_spec_l25Write_good (N : Nat) : Good Try.prog 77 (T_spec_l25Write_sg N) :=
  good_body mixedOk tabOk ctx_nil Try.func77 (T_spec_l25Write_ok N) (fun d _ h => ⟨N, (T_spec_l25Write_den N d.1 d.2.1).trans h⟩)

noncomputable def T_spec_l25Read_sg (N : Nat) : Sig := Sig.of [.v (.prod (.int .i64) (.prod (.prod (.int .i64) (.prod (.int .i64) (.int .i64))) (.prod (.int .i64) (.prod (.int .i64) (.prod (.own (.prod (.int .i64) (.prod (.int .i64) (.prod (.prod (.int .i64) (.prod (.int .i64) (.int .i64))) (.int .i64))))) (.own (.prod (.int .i64) (.prod (.int .i64) (.prod (.int .i64) (.prod (.int .i64) (.int .i64))))))))))) true, .v (.int .i64) false] [.v (.prod (.int .i64) (.prod (.prod (.int .i64) (.prod (.int .i64) (.int .i64))) (.prod (.int .i64) (.prod (.int .i64) (.prod (.own (.prod (.int .i64) (.prod (.int .i64) (.prod (.prod (.int .i64) (.prod (.int .i64) (.int .i64))) (.int .i64))))) (.own (.prod (.int .i64) (.prod (.int .i64) (.prod (.int .i64) (.prod (.int .i64) (.int .i64))))))))))) true] (fun d => T_spec_l25Read N d.1 d.2.1)

def T_spec_l25Read_ann : Nat → List Ghost
  | _ => []

noncomputable def T_spec_l25Read_ctx (N : Nat) : Ctx := []

theorem T_spec_l25Read_den (N : Nat) (w1 : Int × (Int × Int × Int) × Int × Int × List (Int × Int × (Int × Int × Int) × Int) × List (Int × Int × Int × Int × Int)) (k2 : Int) :
    den (R := ODen (T_spec_l25Read_sg N).ps × RDen (T_spec_l25Read_sg N).rs) tab (T_spec_l25Read_ctx N) T_spec_l25Read_ann N (T_spec_l25Read_sg N) Try.f78 (w1, k2, ()) some =
    (bif inb k2 (List.length w1.2.2.2.2.1) then
    (bif (List.getD w1.2.2.2.2.1 (Int.toNat k2) ((0 : Int), ((0 : Int), (((0 : Int), ((0 : Int), (0 : Int))), (0 : Int))))).1 == (0 : Int) then
      (bif inz (2 : Int) then
        (bif (irem w1.1 (2 : Int)) == (1 : Int) then
          (some (α := ODen (T_spec_l25Read_sg N).ps × RDen (T_spec_l25Read_sg N).rs) ((), (w1, ())))
          else
          (bif inb k2 (List.length w1.2.2.2.2.1) then
            (some (α := ODen (T_spec_l25Read_sg N).ps × RDen (T_spec_l25Read_sg N).rs) ((), ((w1.1, (w1.2.1, (w1.2.2.1, (w1.2.2.2.1, (List.set w1.2.2.2.2.1 (Int.toNat k2) (iadd .i64 (List.getD w1.2.2.2.2.1 (Int.toNat k2) ((0 : Int), ((0 : Int), (((0 : Int), ((0 : Int), (0 : Int))), (0 : Int))))).1 (1 : Int), (w1.1, (List.getD w1.2.2.2.2.1 (Int.toNat k2) ((0 : Int), ((0 : Int), (((0 : Int), ((0 : Int), (0 : Int))), (0 : Int))))).2.2)), w1.2.2.2.2.2))))), ()))) else none)) else none)
      else
      (bif (List.getD w1.2.2.2.2.1 (Int.toNat k2) ((0 : Int), ((0 : Int), (((0 : Int), ((0 : Int), (0 : Int))), (0 : Int))))).1 == (1 : Int) then
        (bif inb k2 (List.length w1.2.2.2.2.1) then
          (some (α := ODen (T_spec_l25Read_sg N).ps × RDen (T_spec_l25Read_sg N).rs) ((), ((w1.1, (w1.2.1, (w1.2.2.1, (w1.2.2.2.1, (List.set w1.2.2.2.2.1 (Int.toNat k2) (iadd .i64 (List.getD w1.2.2.2.2.1 (Int.toNat k2) ((0 : Int), ((0 : Int), (((0 : Int), ((0 : Int), (0 : Int))), (0 : Int))))).1 (1 : Int), ((List.getD w1.2.2.2.2.1 (Int.toNat k2) ((0 : Int), ((0 : Int), (((0 : Int), ((0 : Int), (0 : Int))), (0 : Int))))).2.1, ((w1.2.1.1, (List.getD w1.2.2.2.2.1 (Int.toNat k2) ((0 : Int), ((0 : Int), (((0 : Int), ((0 : Int), (0 : Int))), (0 : Int))))).2.2.1.2), (List.getD w1.2.2.2.2.1 (Int.toNat k2) ((0 : Int), ((0 : Int), (((0 : Int), ((0 : Int), (0 : Int))), (0 : Int))))).2.2.2))), w1.2.2.2.2.2))))), ()))) else none)
        else
        (bif (List.getD w1.2.2.2.2.1 (Int.toNat k2) ((0 : Int), ((0 : Int), (((0 : Int), ((0 : Int), (0 : Int))), (0 : Int))))).1 == (2 : Int) then
          (bif inb k2 (List.length w1.2.2.2.2.1) then
            (some (α := ODen (T_spec_l25Read_sg N).ps × RDen (T_spec_l25Read_sg N).rs) ((), ((w1.1, (w1.2.1, (w1.2.2.1, (w1.2.2.2.1, (List.set w1.2.2.2.2.1 (Int.toNat k2) (iadd .i64 (List.getD w1.2.2.2.2.1 (Int.toNat k2) ((0 : Int), ((0 : Int), (((0 : Int), ((0 : Int), (0 : Int))), (0 : Int))))).1 (1 : Int), ((List.getD w1.2.2.2.2.1 (Int.toNat k2) ((0 : Int), ((0 : Int), (((0 : Int), ((0 : Int), (0 : Int))), (0 : Int))))).2.1, (((List.getD w1.2.2.2.2.1 (Int.toNat k2) ((0 : Int), ((0 : Int), (((0 : Int), ((0 : Int), (0 : Int))), (0 : Int))))).2.2.1.1, (w1.2.1.2.1, (List.getD w1.2.2.2.2.1 (Int.toNat k2) ((0 : Int), ((0 : Int), (((0 : Int), ((0 : Int), (0 : Int))), (0 : Int))))).2.2.1.2.2)), (List.getD w1.2.2.2.2.1 (Int.toNat k2) ((0 : Int), ((0 : Int), (((0 : Int), ((0 : Int), (0 : Int))), (0 : Int))))).2.2.2))), w1.2.2.2.2.2))))), ()))) else none)
          else
          (bif (List.getD w1.2.2.2.2.1 (Int.toNat k2) ((0 : Int), ((0 : Int), (((0 : Int), ((0 : Int), (0 : Int))), (0 : Int))))).1 == (3 : Int) then
            (bif inb k2 (List.length w1.2.2.2.2.1) then
              (some (α := ODen (T_spec_l25Read_sg N).ps × RDen (T_spec_l25Read_sg N).rs) ((), ((w1.1, (w1.2.1, (w1.2.2.1, (w1.2.2.2.1, (List.set w1.2.2.2.2.1 (Int.toNat k2) (iadd .i64 (List.getD w1.2.2.2.2.1 (Int.toNat k2) ((0 : Int), ((0 : Int), (((0 : Int), ((0 : Int), (0 : Int))), (0 : Int))))).1 (1 : Int), ((List.getD w1.2.2.2.2.1 (Int.toNat k2) ((0 : Int), ((0 : Int), (((0 : Int), ((0 : Int), (0 : Int))), (0 : Int))))).2.1, (((List.getD w1.2.2.2.2.1 (Int.toNat k2) ((0 : Int), ((0 : Int), (((0 : Int), ((0 : Int), (0 : Int))), (0 : Int))))).2.2.1.1, ((List.getD w1.2.2.2.2.1 (Int.toNat k2) ((0 : Int), ((0 : Int), (((0 : Int), ((0 : Int), (0 : Int))), (0 : Int))))).2.2.1.2.1, w1.2.1.2.2)), (List.getD w1.2.2.2.2.1 (Int.toNat k2) ((0 : Int), ((0 : Int), (((0 : Int), ((0 : Int), (0 : Int))), (0 : Int))))).2.2.2))), w1.2.2.2.2.2))))), ()))) else none)
            else
            (bif w1.1 == (List.getD w1.2.2.2.2.1 (Int.toNat k2) ((0 : Int), ((0 : Int), (((0 : Int), ((0 : Int), (0 : Int))), (0 : Int))))).2.1 then
              (bif room ((List.length w1.2.2.2.2.2) + (List.length ([(k2, ((List.getD w1.2.2.2.2.1 (Int.toNat k2) ((0 : Int), ((0 : Int), (((0 : Int), ((0 : Int), (0 : Int))), (0 : Int))))).2.1, (List.getD w1.2.2.2.2.1 (Int.toNat k2) ((0 : Int), ((0 : Int), (((0 : Int), ((0 : Int), (0 : Int))), (0 : Int))))).2.2.1))]))) then
                (bif inb k2 (List.length w1.2.2.2.2.1) then
                  (some (α := ODen (T_spec_l25Read_sg N).ps × RDen (T_spec_l25Read_sg N).rs) ((), ((w1.1, (w1.2.1, (w1.2.2.1, (w1.2.2.2.1, (List.set w1.2.2.2.2.1 (Int.toNat k2) ((0 : Int), ((0 : Int), (((0 : Int), ((0 : Int), (0 : Int))), (List.getD w1.2.2.2.2.1 (Int.toNat k2) ((0 : Int), ((0 : Int), (((0 : Int), ((0 : Int), (0 : Int))), (0 : Int))))).2.2.2))), List.append w1.2.2.2.2.2 ([(k2, ((List.getD w1.2.2.2.2.1 (Int.toNat k2) ((0 : Int), ((0 : Int), (((0 : Int), ((0 : Int), (0 : Int))), (0 : Int))))).2.1, (List.getD w1.2.2.2.2.1 (Int.toNat k2) ((0 : Int), ((0 : Int), (((0 : Int), ((0 : Int), (0 : Int))), (0 : Int))))).2.2.1))])))))), ()))) else none) else none)
              else
              (bif inb k2 (List.length w1.2.2.2.2.1) then
                (some (α := ODen (T_spec_l25Read_sg N).ps × RDen (T_spec_l25Read_sg N).rs) ((), ((w1.1, (w1.2.1, (w1.2.2.1, (w1.2.2.2.1, (List.set w1.2.2.2.2.1 (Int.toNat k2) ((0 : Int), ((0 : Int), (((0 : Int), ((0 : Int), (0 : Int))), iadd .i64 (List.getD w1.2.2.2.2.1 (Int.toNat k2) ((0 : Int), ((0 : Int), (((0 : Int), ((0 : Int), (0 : Int))), (0 : Int))))).2.2.2 (1 : Int)))), w1.2.2.2.2.2))))), ()))) else none)))))) else none) := by kernel_rfl

theorem T_spec_l25Read_ok (N : Nat) : chkBody Try.f78 (T_spec_l25Read_sg N).ps = true := by kernel_rfl

theorem T_spec_l25Read_callable : Callable Try.prog 78 := callable_of Try.func78 (show chkFn Try.f78 = true by kernel_rfl)

theorem T_spec_l25Read_good (N : Nat) : Good Try.prog 78 (T_spec_l25Read_sg N) :=
  good_body mixedOk tabOk ctx_nil Try.func78 (T_spec_l25Read_ok N) (fun d _ h => ⟨N, (T_spec_l25Read_den N d.1 d.2.1).trans h⟩)

noncomputable def T_spec_SeqPlay_sg (N : Nat) : Sig := Sig.of [.v (.prod (.int .i64) (.prod (.int .i64) (.int .i64))) true, .v (.slice (.prod (.int .i64) (.prod (.int .i64) (.int .i64)))) false, .v (.slice (.int .i64)) false] [.v (.prod (.int .i64) (.prod (.prod (.int .i64) (.prod (.int .i64) (.int .i64))) (.prod (.int .i64) (.prod (.int .i64) (.prod (.own (.prod (.int .i64) (.prod (.int .i64) (.prod (.prod (.int .i64) (.prod (.int .i64) (.int .i64))) (.int .i64))))) (.own (.prod (.int .i64) (.prod (.int .i64) (.prod (.int .i64) (.prod (.int .i64) (.int .i64))))))))))) true] (fun d => T_spec_SeqPlay N d.1 d.2.1 d.2.2.1)

def T_spec_SeqPlay_ann : Nat → List Ghost
  | 5 => [.canon [1, 2, 6, 7, 8, 29]]
  | 6 => [.canon [1, 2, 6, 7, 8]]
  | 7 => [.canon [1, 2, 6, 7, 8, 36]]
  | 8 => [.canon [1, 2, 6, 7, 8]]
  | 9 => [.canon [1, 2, 6, 7, 8, 44]]
  | 10 => [.canon [1, 2, 6, 7, 8]]
  | 100005 => [.adoptC 7 7 (.prod (.int .i64) (.prod (.int .i64) (.prod (.int .i64) (.prod (.int .i64) (.int .i64))))), .canon [1, 2, 6, 7, 8]]
  | _ => []

noncomputable def T_spec_SeqPlay_ctx (N : Nat) : Ctx := [(75, T_spec_l25Ok_sg N), (76, T_spec_TriplesOk_sg N), (77, T_spec_l25Write_sg N), (59, T_spec_l1In_sg N), (78, T_spec_l25Read_sg N)]

def T_spec_SeqPlay_lp0_sh (l6 : List (Int × Int × Int)) (acts7 : List Int) (i8 : Int) (b15 : Int) (b16 : Int) (b17 : Int) (b18 : Int) (b19 : Int) (b20 : Int) (l21 : List (Int × Int × (Int × Int × Int) × Int)) (l22 : List (Int × Int × Int × Int × Int)) : St := { env := [(1, .s (.one (.val (.slice (.prod (.int .i64) (.prod (.int .i64) (.int .i64)))) (l6 : List (Int × Int × Int))))), (2, .s (.one (.val (.slice (.int .i64)) (acts7 : List Int)))), (6, .s (.one (.ptr 0 0))), (7, .s (.one (.ptr 1 0))), (8, .s (.one (.val (.int .i64) (i8 : Int))))], objs := [(0, .box [.val (.int .i64) ((0 : Int) : Int), .val (.int .i64) ((0 : Int) : Int), .val (.int .i64) ((0 : Int) : Int), .val (.int .i64) ((0 : Int) : Int), .val (.int .i64) ((0 : Int) : Int), .val (.int .i64) ((0 : Int) : Int), .nils, .nils]), (1, .box [.val (.int .i64) (b15 : Int), .val (.int .i64) (b16 : Int), .val (.int .i64) (b17 : Int), .val (.int .i64) (b18 : Int), .val (.int .i64) (b19 : Int), .val (.int .i64) (b20 : Int), .own 2, .own 3]), (2, .arr (.prod (.int .i64) (.prod (.int .i64) (.prod (.prod (.int .i64) (.prod (.int .i64) (.int .i64))) (.int .i64)))) (l21 : List (Int × Int × (Int × Int × Int) × Int))), (3, .arr (.prod (.int .i64) (.prod (.int .i64) (.prod (.int .i64) (.prod (.int .i64) (.int .i64))))) (l22 : List (Int × Int × Int × Int × Int)))], nx := 4 }

def T_spec_SeqPlay_lp0_e0 (l6 : List (Int × Int × Int)) (acts7 : List Int) (i33 : Int) (t34 : Bool) (b35 : Int) (b36 : Int) (b37 : Int) (b38 : Int) (b39 : Int) (b40 : Int) (l41 : List (Int × Int × (Int × Int × Int) × Int)) (l42 : List (Int × Int × Int × Int × Int)) : St := { env := [(1, .s (.one (.val (.slice (.prod (.int .i64) (.prod (.int .i64) (.int .i64)))) (l6 : List (Int × Int × Int))))), (2, .s (.one (.val (.slice (.int .i64)) (acts7 : List Int)))), (6, .s (.one (.ptr 0 0))), (7, .s (.one (.ptr 1 0))), (8, .s (.one (.val (.int .i64) (i33 : Int)))), (29, .s (.one (.val (.bool) (t34 : Bool))))], objs := [(0, .box [.val (.int .i64) ((0 : Int) : Int), .val (.int .i64) ((0 : Int) : Int), .val (.int .i64) ((0 : Int) : Int), .val (.int .i64) ((0 : Int) : Int), .val (.int .i64) ((0 : Int) : Int), .val (.int .i64) ((0 : Int) : Int), .nils, .nils]), (1, .box [.val (.int .i64) (b35 : Int), .val (.int .i64) (b36 : Int), .val (.int .i64) (b37 : Int), .val (.int .i64) (b38 : Int), .val (.int .i64) (b39 : Int), .val (.int .i64) (b40 : Int), .own 2, .own 3]), (2, .arr (.prod (.int .i64) (.prod (.int .i64) (.prod (.prod (.int .i64) (.prod (.int .i64) (.int .i64))) (.int .i64)))) (l41 : List (Int × Int × (Int × Int × Int) × Int))), (3, .arr (.prod (.int .i64) (.prod (.int .i64) (.prod (.int .i64) (.prod (.int .i64) (.int .i64))))) (l42 : List (Int × Int × Int × Int × Int)))], nx := 4 }

noncomputable def T_spec_SeqPlay_lp0_m (N : Nat) {R : Type} (n : Nat) (st : St) (K : Ex → St → Option R) : Option R := loopN (roundG (T_spec_SeqPlay_ann 100005) fun st k => sx tab (T_spec_SeqPlay_ctx N) T_spec_SeqPlay_ann N (nthLoop Try.f25 0) st k) n st K

theorem T_spec_SeqPlay_lp0_step (N : Nat) {R : Type} (n : Nat) (K : Ex → St → Option R) (l6 : List (Int × Int × Int)) (acts7 : List Int) (i8 : Int) (b15 : Int) (b16 : Int) (b17 : Int) (b18 : Int) (b19 : Int) (b20 : Int) (l21 : List (Int × Int × (Int × Int × Int) × Int)) (l22 : List (Int × Int × Int × Int × Int)) :
    T_spec_SeqPlay_lp0_m N (n + 1) (T_spec_SeqPlay_lp0_sh l6 acts7 i8 b15 b16 b17 b18 b19 b20 l21 l22) K =
    (bif decide (i8 < (ilen acts7)) then
    (bif inb i8 (List.length acts7) then
      (bif (List.getD acts7 (Int.toNat i8) (0 : Int)) == (0 : Int) then
        ((T_spec_l25Write N (b15, ((b16, (b17, b18)), (b19, (b20, (l21, l22))))) l6).bind fun o43 =>
          (bif inb i8 (List.length acts7) then
            ((T_spec_l1In N (List.getD acts7 (Int.toNat i8) (0 : Int)) (1 : Int) (3 : Int)).bind fun o44 =>
              (bif o44.2.1 then
                (bif inb i8 (List.length acts7) then
                  ((T_spec_l25Read N o43.2.1 (isub .i64 (List.getD acts7 (Int.toNat i8) (0 : Int)) (1 : Int))).bind fun o45 =>
                    (T_spec_SeqPlay_lp0_m N n (T_spec_SeqPlay_lp0_sh l6 acts7 (iadd .i64 i8 (1 : Int)) o45.2.1.1 o45.2.1.2.1.1 o45.2.1.2.1.2.1 o45.2.1.2.1.2.2 o45.2.1.2.2.1 o45.2.1.2.2.2.1 o45.2.1.2.2.2.2.1 o45.2.1.2.2.2.2.2) K)) else none)
                else
                (T_spec_SeqPlay_lp0_m N n (T_spec_SeqPlay_lp0_sh l6 acts7 (iadd .i64 i8 (1 : Int)) o43.2.1.1 o43.2.1.2.1.1 o43.2.1.2.1.2.1 o43.2.1.2.1.2.2 o43.2.1.2.2.1 o43.2.1.2.2.2.1 o43.2.1.2.2.2.2.1 o43.2.1.2.2.2.2.2) K))) else none))
        else
        (bif inb i8 (List.length acts7) then
          ((T_spec_l1In N (List.getD acts7 (Int.toNat i8) (0 : Int)) (1 : Int) (3 : Int)).bind fun o46 =>
            (bif o46.2.1 then
              (bif inb i8 (List.length acts7) then
                ((T_spec_l25Read N (b15, ((b16, (b17, b18)), (b19, (b20, (l21, l22))))) (isub .i64 (List.getD acts7 (Int.toNat i8) (0 : Int)) (1 : Int))).bind fun o47 =>
                  (T_spec_SeqPlay_lp0_m N n (T_spec_SeqPlay_lp0_sh l6 acts7 (iadd .i64 i8 (1 : Int)) o47.2.1.1 o47.2.1.2.1.1 o47.2.1.2.1.2.1 o47.2.1.2.1.2.2 o47.2.1.2.2.1 o47.2.1.2.2.2.1 o47.2.1.2.2.2.2.1 o47.2.1.2.2.2.2.2) K)) else none)
              else
              (T_spec_SeqPlay_lp0_m N n (T_spec_SeqPlay_lp0_sh l6 acts7 (iadd .i64 i8 (1 : Int)) b15 b16 b17 b18 b19 b20 l21 l22) K))) else none)) else none)
    else
    (K (.exit 0) (T_spec_SeqPlay_lp0_e0 l6 acts7 i8 (decide (i8 < (ilen acts7))) b15 b16 b17 b18 b19 b20 l21 l22))) := by kernel_rfl

theorem T_spec_SeqPlay_lp0_eq (N : Nat) {R : Type} (l6 : List (Int × Int × Int)) (acts7 : List Int) (K : Ex → St → Option R) : ∀ (n : Nat) (i8 : Int) (b15 : Int) (b16 : Int) (b17 : Int) (b18 : Int) (b19 : Int) (b20 : Int) (l21 : List (Int × Int × (Int × Int × Int) × Int)) (l22 : List (Int × Int × Int × Int × Int)), T_spec_SeqPlay_lp0_m N n (T_spec_SeqPlay_lp0_sh l6 acts7 i8 b15 b16 b17 b18 b19 b20 l21 l22) K = T_spec_SeqPlay_lp0 N l6 acts7 (fun i33 t34 b35 b36 b37 b38 b39 b40 l41 l42 => (K (.exit 0) (T_spec_SeqPlay_lp0_e0 l6 acts7 i33 t34 b35 b36 b37 b38 b39 b40 l41 l42))) n i8 b15 b16 b17 b18 b19 b20 l21 l22
  | 0, _, _, _, _, _, _, _, _, _ => rfl
  | n + 1, i8, b15, b16, b17, b18, b19, b20, l21, l22 => by rw [T_spec_SeqPlay_lp0_step, T_spec_SeqPlay_lp0]; (try simp only [T_spec_SeqPlay_lp0_eq N l6 acts7 K n])

theorem T_spec_SeqPlay_c1 (N : Nat) (l2 : List (Int × Int × Int)) (acts3 : List Int) (i48 : Int) (t49 : Bool) (b50 : Int) (b51 : Int) (b52 : Int) (b53 : Int) (b54 : Int) (b55 : Int) (l56 : List (Int × Int × (Int × Int × Int) × Int)) (l57 : List (Int × Int × Int × Int × Int)) :
    ((ctxK (R := ODen (T_spec_SeqPlay_sg N).ps × RDen (T_spec_SeqPlay_sg N).rs) tab (T_spec_SeqPlay_ctx N) T_spec_SeqPlay_ann N (theCode Try.f25) [1, 1, 1, 0, 1, 0] (retK tab (T_spec_SeqPlay_sg N) Try.f25.results.toList some)) (.exit 0) (T_spec_SeqPlay_lp0_e0 l2 acts3 i48 t49 b50 b51 b52 b53 b54 b55 l56 l57)) =
    (some (α := ODen (T_spec_SeqPlay_sg N).ps × RDen (T_spec_SeqPlay_sg N).rs) ((), ((b50, ((b51, (b52, b53)), (b54, (b55, (l56, l57))))), ()))) := by kernel_rfl

theorem T_spec_SeqPlay_c2 (N : Nat) (l2 : List (Int × Int × Int)) (acts3 : List Int) (i58 : Int) (t59 : Bool) (b60 : Int) (b61 : Int) (b62 : Int) (b63 : Int) (b64 : Int) (b65 : Int) (l66 : List (Int × Int × (Int × Int × Int) × Int)) (l67 : List (Int × Int × Int × Int × Int)) :
    ((ctxK (R := ODen (T_spec_SeqPlay_sg N).ps × RDen (T_spec_SeqPlay_sg N).rs) tab (T_spec_SeqPlay_ctx N) T_spec_SeqPlay_ann N (theCode Try.f25) [1, 1, 1, 0, 1, 0] (retK tab (T_spec_SeqPlay_sg N) Try.f25.results.toList some)) (.exit 0) (T_spec_SeqPlay_lp0_e0 l2 acts3 i58 t59 b60 b61 b62 b63 b64 b65 l66 l67)) =
    (some (α := ODen (T_spec_SeqPlay_sg N).ps × RDen (T_spec_SeqPlay_sg N).rs) ((), ((b60, ((b61, (b62, b63)), (b64, (b65, (l66, l67))))), ()))) := by kernel_rfl

theorem T_spec_SeqPlay_den (N : Nat) (start1 : Int × Int × Int) (l2 : List (Int × Int × Int)) (acts3 : List Int) :
    den (R := ODen (T_spec_SeqPlay_sg N).ps × RDen (T_spec_SeqPlay_sg N).rs) tab (T_spec_SeqPlay_ctx N) T_spec_SeqPlay_ann N (T_spec_SeqPlay_sg N) Try.f25 (start1, l2, acts3, ()) some =
    ((T_spec_l25Ok N start1).bind fun o4 =>
    (bif !o4.2.1 then
      (some (α := ODen (T_spec_SeqPlay_sg N).ps × RDen (T_spec_SeqPlay_sg N).rs) ((), (((0 : Int), (((0 : Int), ((0 : Int), (0 : Int))), ((0 : Int), ((0 : Int), (([] : List (Int × Int × (Int × Int × Int) × Int)), ([] : List (Int × Int × Int × Int × Int))))))), ())))
      else
      ((T_spec_TriplesOk N l2).bind fun o5 =>
        (bif !o5.2.1 then
          (some (α := ODen (T_spec_SeqPlay_sg N).ps × RDen (T_spec_SeqPlay_sg N).rs) ((), (((0 : Int), (((0 : Int), ((0 : Int), (0 : Int))), ((0 : Int), ((0 : Int), (([] : List (Int × Int × (Int × Int × Int) × Int)), ([] : List (Int × Int × Int × Int × Int))))))), ())))
          else
          (bif decide ((ilen acts3) > (200 : Int)) then
            (some (α := ODen (T_spec_SeqPlay_sg N).ps × RDen (T_spec_SeqPlay_sg N).rs) ((), (((0 : Int), (((0 : Int), ((0 : Int), (0 : Int))), ((0 : Int), ((0 : Int), (([] : List (Int × Int × (Int × Int × Int) × Int)), ([] : List (Int × Int × Int × Int × Int))))))), ())))
            else
            (both
              (bif ((decide ((0 : Int) ≤ (3 : Int))) && (decide ((3 : Int) ≤ (3 : Int)))) && (room (Int.toNat (3 : Int))) then
                (T_spec_SeqPlay_lp0 N l2 acts3
                  (fun i48 t49 b50 b51 b52 b53 b54 b55 l56 l57 =>
                    (some (α := ODen (T_spec_SeqPlay_sg N).ps × RDen (T_spec_SeqPlay_sg N).rs) ((), ((b50, ((b51, (b52, b53)), (b54, (b55, (l56, l57))))), ()))))
                   N (0 : Int) (0 : Int) start1.1 start1.2.1 start1.2.2 (0 : Int) (0 : Int) (List.replicate (Int.toNat (3 : Int)) ((0 : Int), ((0 : Int), (((0 : Int), ((0 : Int), (0 : Int))), (0 : Int))))) ([] : List (Int × Int × Int × Int × Int))) else none)
              (bif ((decide ((0 : Int) ≤ (3 : Int))) && (decide ((3 : Int) ≤ (3 : Int)))) && (room (Int.toNat (3 : Int))) then
                (T_spec_SeqPlay_lp0 N l2 acts3
                  (fun i58 t59 b60 b61 b62 b63 b64 b65 l66 l67 =>
                    (some (α := ODen (T_spec_SeqPlay_sg N).ps × RDen (T_spec_SeqPlay_sg N).rs) ((), ((b60, ((b61, (b62, b63)), (b64, (b65, (l66, l67))))), ()))))
                   N (0 : Int) (0 : Int) start1.1 start1.2.1 start1.2.2 (0 : Int) (0 : Int) (List.replicate (Int.toNat (3 : Int)) ((0 : Int), ((0 : Int), (((0 : Int), ((0 : Int), (0 : Int))), (0 : Int))))) ([] : List (Int × Int × Int × Int × Int))) else none))))))) := by
  have h : den (R := ODen (T_spec_SeqPlay_sg N).ps × RDen (T_spec_SeqPlay_sg N).rs) tab (T_spec_SeqPlay_ctx N) T_spec_SeqPlay_ann N (T_spec_SeqPlay_sg N) Try.f25 (start1, l2, acts3, ()) some =
    ((T_spec_l25Ok N start1).bind fun o4 =>
    (bif !o4.2.1 then
      (some (α := ODen (T_spec_SeqPlay_sg N).ps × RDen (T_spec_SeqPlay_sg N).rs) ((), (((0 : Int), (((0 : Int), ((0 : Int), (0 : Int))), ((0 : Int), ((0 : Int), (([] : List (Int × Int × (Int × Int × Int) × Int)), ([] : List (Int × Int × Int × Int × Int))))))), ())))
      else
      ((T_spec_TriplesOk N l2).bind fun o5 =>
        (bif !o5.2.1 then
          (some (α := ODen (T_spec_SeqPlay_sg N).ps × RDen (T_spec_SeqPlay_sg N).rs) ((), (((0 : Int), (((0 : Int), ((0 : Int), (0 : Int))), ((0 : Int), ((0 : Int), (([] : List (Int × Int × (Int × Int × Int) × Int)), ([] : List (Int × Int × Int × Int × Int))))))), ())))
          else
          (bif decide ((ilen acts3) > (200 : Int)) then
            (some (α := ODen (T_spec_SeqPlay_sg N).ps × RDen (T_spec_SeqPlay_sg N).rs) ((), (((0 : Int), (((0 : Int), ((0 : Int), (0 : Int))), ((0 : Int), ((0 : Int), (([] : List (Int × Int × (Int × Int × Int) × Int)), ([] : List (Int × Int × Int × Int × Int))))))), ())))
            else
            (both
              (bif ((decide ((0 : Int) ≤ (3 : Int))) && (decide ((3 : Int) ≤ (3 : Int)))) && (room (Int.toNat (3 : Int))) then
                (T_spec_SeqPlay_lp0_m N N (T_spec_SeqPlay_lp0_sh l2 acts3 (0 : Int) (0 : Int) start1.1 start1.2.1 start1.2.2 (0 : Int) (0 : Int) (List.replicate (Int.toNat (3 : Int)) ((0 : Int), ((0 : Int), (((0 : Int), ((0 : Int), (0 : Int))), (0 : Int))))) ([] : List (Int × Int × Int × Int × Int))) (ctxK (R := ODen (T_spec_SeqPlay_sg N).ps × RDen (T_spec_SeqPlay_sg N).rs) tab (T_spec_SeqPlay_ctx N) T_spec_SeqPlay_ann N (theCode Try.f25) [1, 1, 1, 0, 1, 0] (retK tab (T_spec_SeqPlay_sg N) Try.f25.results.toList some))) else none)
              (bif ((decide ((0 : Int) ≤ (3 : Int))) && (decide ((3 : Int) ≤ (3 : Int)))) && (room (Int.toNat (3 : Int))) then
                (T_spec_SeqPlay_lp0_m N N (T_spec_SeqPlay_lp0_sh l2 acts3 (0 : Int) (0 : Int) start1.1 start1.2.1 start1.2.2 (0 : Int) (0 : Int) (List.replicate (Int.toNat (3 : Int)) ((0 : Int), ((0 : Int), (((0 : Int), ((0 : Int), (0 : Int))), (0 : Int))))) ([] : List (Int × Int × Int × Int × Int))) (ctxK (R := ODen (T_spec_SeqPlay_sg N).ps × RDen (T_spec_SeqPlay_sg N).rs) tab (T_spec_SeqPlay_ctx N) T_spec_SeqPlay_ann N (theCode Try.f25) [1, 1, 1, 0, 1, 0] (retK tab (T_spec_SeqPlay_sg N) Try.f25.results.toList some))) else none))))))) := by kernel_rfl
  rw [h]
  (try simp only [T_spec_SeqPlay_lp0_eq, T_spec_SeqPlay_c1, T_spec_SeqPlay_c2]) <;> rfl

theorem T_spec_SeqPlay_ok (N : Nat) : chkBody Try.f25 (T_spec_SeqPlay_sg N).ps = true := by kernel_rfl

theorem T_spec_SeqPlay_callable : Callable Try.prog 25 := callable_of Try.func25 (show chkFn Try.f25 = true by kernel_rfl)

theorem T_spec_SeqPlay_good (N : Nat) : Good Try.prog 25 (T_spec_SeqPlay_sg N) :=
  good_body mixedOk tabOk (ctx_cons (T_spec_l25Ok_good N) T_spec_l25Ok_callable (ctx_cons (T_spec_TriplesOk_good N) T_spec_TriplesOk_callable (ctx_cons (T_spec_l25Write_good N) T_spec_l25Write_callable (ctx_cons (T_spec_l1In_good N) T_spec_l1In_callable (ctx_cons (T_spec_l25Read_good N) T_spec_l25Read_callable ctx_nil))))) Try.func25 (T_spec_SeqPlay_ok N) (fun d _ h => ⟨N, (T_spec_SeqPlay_den N d.1 d.2.1 d.2.2.1).trans h⟩)

noncomputable def T_impl_within_sg (N : Nat) : Sig := Sig.of [.v (.int .i64) false, .v (.int .i64) false, .v (.int .i64) false] [.v (.bool) false] (fun d => T_impl_within N d.1 d.2.1 d.2.2.1)

def T_impl_within_ann : Nat → List Ghost
  | _ => []

noncomputable def T_impl_within_ctx (N : Nat) : Ctx := []

theorem T_impl_within_den (N : Nat) (x1 : Int) (lo2 : Int) (hi3 : Int) :
    den (R := ODen (T_impl_within_sg N).ps × RDen (T_impl_within_sg N).rs) tab (T_impl_within_ctx N) T_impl_within_ann N (T_impl_within_sg N) Try.f63 (x1, lo2, hi3, ()) some =
    (bif decide (x1 ≥ lo2) then
    (some (α := ODen (T_impl_within_sg N).ps × RDen (T_impl_within_sg N).rs) ((), (decide (x1 ≤ hi3), ())))
    else
    (some (α := ODen (T_impl_within_sg N).ps × RDen (T_impl_within_sg N).rs) ((), (false, ())))) := by kernel_rfl

theorem T_impl_within_ok (N : Nat) : chkBody Try.f63 (T_impl_within_sg N).ps = true := by kernel_rfl

theorem T_impl_within_callable : Callable Try.prog 63 := callable_of Try.func63 (show chkFn Try.f63 = true by kernel_rfl)

theorem T_impl_within_good (N : Nat) : Good Try.prog 63 (T_impl_within_sg N) :=
  good_body mixedOk tabOk ctx_nil Try.func63 (T_impl_within_ok N) (fun d _ h => ⟨N, (T_impl_within_den N d.1 d.2.1 d.2.2.1).trans h⟩)

noncomputable def T_impl_isValue_sg (N : Nat) : Sig := Sig.of [.v (.int .i64) false] [.v (.bool) false] (fun d => T_impl_isValue N d.1)

def T_impl_isValue_ann : Nat → List Ghost
  | _ => []

noncomputable def T_impl_isValue_ctx (N : Nat) : Ctx := [(63, T_impl_within_sg N)]

theorem T_impl_isValue_den (N : Nat) (v1 : Int) :
    den (R := ODen (T_impl_isValue_sg N).ps × RDen (T_impl_isValue_sg N).rs) tab (T_impl_isValue_ctx N) T_impl_isValue_ann N (T_impl_isValue_sg N) Try.f133 (v1, ()) some =
    ((T_impl_within N v1 (0 : Int) (65535 : Int)).bind fun o2 =>
    (some (α := ODen (T_impl_isValue_sg N).ps × RDen (T_impl_isValue_sg N).rs) ((), (o2.2.1, ())))) := by kernel_rfl

theorem T_impl_isValue_ok (N : Nat) : chkBody Try.f133 (T_impl_isValue_sg N).ps = true := by kernel_rfl

theorem T_impl_isValue_callable : Callable Try.prog 133 := callable_of Try.func133 (show chkFn Try.f133 = true by kernel_rfl)

theorem T_impl_isValue_good (N : Nat) : Good Try.prog 133 (T_impl_isValue_sg N) :=
  good_body mixedOk tabOk (ctx_cons (T_impl_within_good N) T_impl_within_callable ctx_nil) Try.func133 (T_impl_isValue_ok N) (fun d _ h => ⟨N, (T_impl_isValue_den N d.1).trans h⟩)

noncomputable def T_impl_isTriple_sg (N : Nat) : Sig := Sig.of [.v (.prod (.int .i64) (.prod (.int .i64) (.int .i64))) true] [.v (.bool) false] (fun d => T_impl_isTriple N d.1)

def T_impl_isTriple_ann : Nat → List Ghost
  | _ => []

noncomputable def T_impl_isTriple_ctx (N : Nat) : Ctx := [(133, T_impl_isValue_sg N)]

theorem T_impl_isTriple_den (N : Nat) (t1 : Int × Int × Int) :
    den (R := ODen (T_impl_isTriple_sg N).ps × RDen (T_impl_isTriple_sg N).rs) tab (T_impl_isTriple_ctx N) T_impl_isTriple_ann N (T_impl_isTriple_sg N) Try.f79 (t1, ()) some =
    ((T_impl_isValue N t1.1).bind fun o2 =>
    (bif o2.2.1 then
      ((T_impl_isValue N t1.2.1).bind fun o3 =>
        (bif o3.2.1 then
          ((T_impl_isValue N t1.2.2).bind fun o4 =>
            (some (α := ODen (T_impl_isTriple_sg N).ps × RDen (T_impl_isTriple_sg N).rs) ((), (o4.2.1, ()))))
          else
          (some (α := ODen (T_impl_isTriple_sg N).ps × RDen (T_impl_isTriple_sg N).rs) ((), (false, ())))))
      else
      (some (α := ODen (T_impl_isTriple_sg N).ps × RDen (T_impl_isTriple_sg N).rs) ((), (false, ()))))) := by kernel_rfl

theorem T_impl_isTriple_ok (N : Nat) : chkBody Try.f79 (T_impl_isTriple_sg N).ps = true := by kernel_rfl

theorem T_impl_isTriple_callable : Callable Try.prog 79 := callable_of Try.func79 (show chkFn Try.f79 = true by kernel_rfl)

theorem T_impl_isTriple_good (N : Nat) : Good Try.prog 79 (T_impl_isTriple_sg N) :=
  good_body mixedOk tabOk (ctx_cons (T_impl_isValue_good N) T_impl_isValue_callable ctx_nil) Try.func79 (T_impl_isTriple_ok N) (fun d _ h => ⟨N, (T_impl_isTriple_den N d.1).trans h⟩)

noncomputable def T_impl_TriplesOk_sg (N : Nat) : Sig := Sig.of [.v (.slice (.prod (.int .i64) (.prod (.int .i64) (.int .i64)))) false] [.v (.bool) false] (fun d => T_impl_TriplesOk N d.1)

def T_impl_TriplesOk_ann : Nat → List Ghost
  | 2 => [.canon [0, 5, 6, 7, 8]]
  | 3 => [.canon [0, 4, 5, 6, 7]]
  | 4 => [.canon [0, 5, 6, 7, 13]]
  | 5 => [.canon [2]]
  | 6 => [.canon [0, 5, 6, 7]]
  | 100002 => [.canon [0, 5, 6, 7]]
  | _ => []

noncomputable def T_impl_TriplesOk_ctx (N : Nat) : Ctx := [(79, T_impl_isTriple_sg N)]

def T_impl_TriplesOk_lp0_sh (l2 : List (Int × Int × Int)) (t5 : Int) : St := { env := [(0, .s (.one (.val (.slice (.prod (.int .i64) (.prod (.int .i64) (.int .i64)))) (l2 : List (Int × Int × Int))))), (5, .s (.one (.val (.slice (.prod (.int .i64) (.prod (.int .i64) (.int .i64)))) (l2 : List (Int × Int × Int))))), (6, .s (.one (.val (.int .i64) (ilen l2 : Int)))), (7, .s (.one (.val (.int .i64) (t5 : Int))))], objs := [], nx := 0 }

def T_impl_TriplesOk_lp0_e0 (l2 : List (Int × Int × Int)) : St := { env := [(2, .s (.one (.val (.bool) (false : Bool))))], objs := [], nx := 0 }

def T_impl_TriplesOk_lp0_e1 (l2 : List (Int × Int × Int)) (t8 : Int) (t9 : Bool) : St := { env := [(0, .s (.one (.val (.slice (.prod (.int .i64) (.prod (.int .i64) (.int .i64)))) (l2 : List (Int × Int × Int))))), (5, .s (.one (.val (.slice (.prod (.int .i64) (.prod (.int .i64) (.int .i64)))) (l2 : List (Int × Int × Int))))), (6, .s (.one (.val (.int .i64) (ilen l2 : Int)))), (7, .s (.one (.val (.int .i64) (t8 : Int)))), (8, .s (.one (.val (.bool) (t9 : Bool))))], objs := [], nx := 0 }

noncomputable def T_impl_TriplesOk_lp0_m (N : Nat) {R : Type} (n : Nat) (st : St) (K : Ex → St → Option R) : Option R := loopN (roundG (T_impl_TriplesOk_ann 100002) fun st k => sx tab (T_impl_TriplesOk_ctx N) T_impl_TriplesOk_ann N (nthLoop Try.f80 0) st k) n st K

theorem T_impl_TriplesOk_lp0_step (N : Nat) {R : Type} (n : Nat) (K : Ex → St → Option R) (l2 : List (Int × Int × Int)) (t5 : Int) :
    T_impl_TriplesOk_lp0_m N (n + 1) (T_impl_TriplesOk_lp0_sh l2 t5) K =
    (bif decide (t5 < (ilen l2)) then
    (bif inb t5 (List.length l2) then
      ((T_impl_isTriple N (List.getD l2 (Int.toNat t5) ((0 : Int), ((0 : Int), (0 : Int))))).bind fun o10 =>
        (bif !o10.2.1 then
          (K .ret (T_impl_TriplesOk_lp0_e0 l2))
          else
          (T_impl_TriplesOk_lp0_m N n (T_impl_TriplesOk_lp0_sh l2 (iadd .i64 t5 (1 : Int))) K))) else none)
    else
    (K (.exit 0) (T_impl_TriplesOk_lp0_e1 l2 t5 (decide (t5 < (ilen l2)))))) := by kernel_rfl

theorem T_impl_TriplesOk_lp0_eq (N : Nat) {R : Type} (l2 : List (Int × Int × Int)) (K : Ex → St → Option R) : ∀ (n : Nat) (t5 : Int), T_impl_TriplesOk_lp0_m N n (T_impl_TriplesOk_lp0_sh l2 t5) K = T_impl_TriplesOk_lp0 N l2 (K .ret (T_impl_TriplesOk_lp0_e0 l2)) (fun t8 t9 => (K (.exit 0) (T_impl_TriplesOk_lp0_e1 l2 t8 t9))) n t5
  | 0, _ => rfl
  | n + 1, t5 => by rw [T_impl_TriplesOk_lp0_step, T_impl_TriplesOk_lp0]; (try simp only [T_impl_TriplesOk_lp0_eq N l2 K n])

theorem T_impl_TriplesOk_c1 (N : Nat) (l1 : List (Int × Int × Int)) :
    ((ctxK (R := ODen (T_impl_TriplesOk_sg N).ps × RDen (T_impl_TriplesOk_sg N).rs) tab (T_impl_TriplesOk_ctx N) T_impl_TriplesOk_ann N (theCode Try.f80) [1, 0, 1, 0] (retK tab (T_impl_TriplesOk_sg N) Try.f80.results.toList some)) .ret (T_impl_TriplesOk_lp0_e0 l1)) =
    (some (α := ODen (T_impl_TriplesOk_sg N).ps × RDen (T_impl_TriplesOk_sg N).rs) ((), (false, ()))) := by kernel_rfl

theorem T_impl_TriplesOk_c2 (N : Nat) (l1 : List (Int × Int × Int)) (t11 : Int) (t12 : Bool) :
    ((ctxK (R := ODen (T_impl_TriplesOk_sg N).ps × RDen (T_impl_TriplesOk_sg N).rs) tab (T_impl_TriplesOk_ctx N) T_impl_TriplesOk_ann N (theCode Try.f80) [1, 0, 1, 0] (retK tab (T_impl_TriplesOk_sg N) Try.f80.results.toList some)) (.exit 0) (T_impl_TriplesOk_lp0_e1 l1 t11 t12)) =
    (some (α := ODen (T_impl_TriplesOk_sg N).ps × RDen (T_impl_TriplesOk_sg N).rs) ((), (decide ((ilen l1) ≤ (20 : Int)), ()))) := by kernel_rfl

theorem T_impl_TriplesOk_den (N : Nat) (l1 : List (Int × Int × Int)) :
    den (R := ODen (T_impl_TriplesOk_sg N).ps × RDen (T_impl_TriplesOk_sg N).rs) tab (T_impl_TriplesOk_ctx N) T_impl_TriplesOk_ann N (T_impl_TriplesOk_sg N) Try.f80 (l1, ()) some =
    (T_impl_TriplesOk_lp0 N l1
    (some (α := ODen (T_impl_TriplesOk_sg N).ps × RDen (T_impl_TriplesOk_sg N).rs) ((), (false, ())))
    (fun t11 t12 =>
      (some (α := ODen (T_impl_TriplesOk_sg N).ps × RDen (T_impl_TriplesOk_sg N).rs) ((), (decide ((ilen l1) ≤ (20 : Int)), ()))))
     N (0 : Int)) := by
  have h : den (R := ODen (T_impl_TriplesOk_sg N).ps × RDen (T_impl_TriplesOk_sg N).rs) tab (T_impl_TriplesOk_ctx N) T_impl_TriplesOk_ann N (T_impl_TriplesOk_sg N) Try.f80 (l1, ()) some =
    (T_impl_TriplesOk_lp0_m N N (T_impl_TriplesOk_lp0_sh l1 (0 : Int)) (ctxK (R := ODen (T_impl_TriplesOk_sg N).ps × RDen (T_impl_TriplesOk_sg N).rs) tab (T_impl_TriplesOk_ctx N) T_impl_TriplesOk_ann N (theCode Try.f80) [1, 0, 1, 0] (retK tab (T_impl_TriplesOk_sg N) Try.f80.results.toList some))) := by kernel_rfl
  rw [h]
  (try simp only [T_impl_TriplesOk_lp0_eq, T_impl_TriplesOk_c1, T_impl_TriplesOk_c2]) <;> rfl

theorem T_impl_TriplesOk_ok (N : Nat) : chkBody Try.f80 (T_impl_TriplesOk_sg N).ps = true := by kernel_rfl

theorem T_impl_TriplesOk_callable : Callable Try.prog 80 := callable_of Try.func80 (show chkFn Try.f80 = true by kernel_rfl)

theorem T_impl_TriplesOk_good (N : Nat) : Good Try.prog 80 (T_impl_TriplesOk_sg N) :=
  good_body mixedOk tabOk (ctx_cons (T_impl_isTriple_good N) T_impl_isTriple_callable ctx_nil) Try.func80 (T_impl_TriplesOk_ok N) (fun d _ h => ⟨N, (T_impl_TriplesOk_den N d.1).trans h⟩)

noncomputable def T_impl_SeqWorld_write_sg (N : Nat) : Sig := Sig.of [.box (.prod (.int .i64) (.prod (.prod (.int .i64) (.prod (.int .i64) (.int .i64))) (.prod (.int .i64) (.prod (.int .i64) (.prod (.own (.prod (.int .i64) (.prod (.int .i64) (.prod (.prod (.int .i64) (.prod (.int .i64) (.int .i64))) (.int .i64))))) (.own (.prod (.int .i64) (.prod (.int .i64) (.prod (.int .i64) (.prod (.int .i64) (.int .i64))))))))))), .v (.slice (.prod (.int .i64) (.prod (.int .i64) (.int .i64)))) false] [] (fun d => T_impl_SeqWorld_write N d.1 d.2.1)

def T_impl_SeqWorld_write_ann : Nat → List Ghost
  | _ => []

noncomputable def T_impl_SeqWorld_write_ctx (N : Nat) : Ctx := []

theorem T_impl_SeqWorld_write_den (N : Nat) (w1 : Int × (Int × Int × Int) × Int × Int × List (Int × Int × (Int × Int × Int) × Int) × List (Int × Int × Int × Int × Int)) (l2 : List (Int × Int × Int)) :
    den (R := ODen (T_impl_SeqWorld_write_sg N).ps × RDen (T_impl_SeqWorld_write_sg N).rs) tab (T_impl_SeqWorld_write_ctx N) T_impl_SeqWorld_write_ann N (T_impl_SeqWorld_write_sg N) Try.f81 (w1, l2, ()) some =
    (bif w1.2.2.1 == (0 : Int) then
    (bif w1.2.2.2.1 == (ilen l2) then
      (some (α := ODen (T_impl_SeqWorld_write_sg N).ps × RDen (T_impl_SeqWorld_write_sg N).rs) ((w1, ()), ()))
      else
      (bif inz (5 : Int) then
        (some (α := ODen (T_impl_SeqWorld_write_sg N).ps × RDen (T_impl_SeqWorld_write_sg N).rs) (((iadd .i64 w1.1 (1 : Int), (w1.2.1, (irem (iadd .i64 w1.2.2.1 (1 : Int)) (5 : Int), w1.2.2.2))), ()), ())) else none))
    else
    (bif w1.2.2.1 == (1 : Int) then
      (bif inb w1.2.2.2.1 (List.length l2) then
        (bif inz (5 : Int) then
          (some (α := ODen (T_impl_SeqWorld_write_sg N).ps × RDen (T_impl_SeqWorld_write_sg N).rs) (((w1.1, (((List.getD l2 (Int.toNat w1.2.2.2.1) ((0 : Int), ((0 : Int), (0 : Int)))).1, w1.2.1.2), (irem (iadd .i64 w1.2.2.1 (1 : Int)) (5 : Int), w1.2.2.2))), ()), ())) else none) else none)
      else
      (bif w1.2.2.1 == (2 : Int) then
        (bif inb w1.2.2.2.1 (List.length l2) then
          (bif inz (5 : Int) then
            (some (α := ODen (T_impl_SeqWorld_write_sg N).ps × RDen (T_impl_SeqWorld_write_sg N).rs) (((w1.1, ((w1.2.1.1, ((List.getD l2 (Int.toNat w1.2.2.2.1) ((0 : Int), ((0 : Int), (0 : Int)))).2.1, w1.2.1.2.2)), (irem (iadd .i64 w1.2.2.1 (1 : Int)) (5 : Int), w1.2.2.2))), ()), ())) else none) else none)
        else
        (bif w1.2.2.1 == (3 : Int) then
          (bif inb w1.2.2.2.1 (List.length l2) then
            (bif inz (5 : Int) then
              (some (α := ODen (T_impl_SeqWorld_write_sg N).ps × RDen (T_impl_SeqWorld_write_sg N).rs) (((w1.1, ((w1.2.1.1, (w1.2.1.2.1, (List.getD l2 (Int.toNat w1.2.2.2.1) ((0 : Int), ((0 : Int), (0 : Int)))).2.2)), (irem (iadd .i64 w1.2.2.1 (1 : Int)) (5 : Int), w1.2.2.2))), ()), ())) else none) else none)
          else
          (bif w1.2.2.1 == (4 : Int) then
            (bif inz (5 : Int) then
              (some (α := ODen (T_impl_SeqWorld_write_sg N).ps × RDen (T_impl_SeqWorld_write_sg N).rs) (((iadd .i64 w1.1 (1 : Int), (w1.2.1, (irem (iadd .i64 w1.2.2.1 (1 : Int)) (5 : Int), (iadd .i64 w1.2.2.2.1 (1 : Int), w1.2.2.2.2)))), ()), ())) else none)
            else
            (bif inz (5 : Int) then
              (some (α := ODen (T_impl_SeqWorld_write_sg N).ps × RDen (T_impl_SeqWorld_write_sg N).rs) (((w1.1, (w1.2.1, (irem (iadd .i64 w1.2.2.1 (1 : Int)) (5 : Int), w1.2.2.2))), ()), ())) else none)))))) := by kernel_rfl

theorem T_impl_SeqWorld_write_ok (N : Nat) : chkBody Try.f81 (T_impl_SeqWorld_write_sg N).ps = true := by kernel_rfl

theorem T_impl_SeqWorld_write_callable : Callable Try.prog 81 := callable_of Try.func81 (show chkFn Try.f81 = true by kernel_rfl)

theorem T_impl_SeqWorld_write_good (N : Nat) : Good Try.prog 81 (T_impl_SeqWorld_write_sg N) :=
  good_body mixedOk tabOk ctx_nil Try.func81 (T_impl_SeqWorld_write_ok N) (fun d _ h => ⟨N, (T_impl_SeqWorld_write_den N d.1 d.2.1).trans h⟩)

noncomputable def T_impl_SeqWorld_read_sg (N : Nat) : Sig := Sig.of [.box (.prod (.int .i64) (.prod (.prod (.int .i64) (.prod (.int .i64) (.int .i64))) (.prod (.int .i64) (.prod (.int .i64) (.prod (.own (.prod (.int .i64) (.prod (.int .i64) (.prod (.prod (.int .i64) (.prod (.int .i64) (.int .i64))) (.int .i64))))) (.own (.prod (.int .i64) (.prod (.int .i64) (.prod (.int .i64) (.prod (.int .i64) (.int .i64))))))))))), .v (.int .i64) false] [] (fun d => T_impl_SeqWorld_read N d.1 d.2.1)

def T_impl_SeqWorld_read_ann : Nat → List Ghost
  | _ => []

noncomputable def T_impl_SeqWorld_read_ctx (N : Nat) : Ctx := []

theorem T_impl_SeqWorld_read_den (N : Nat) (w1 : Int × (Int × Int × Int) × Int × Int × List (Int × Int × (Int × Int × Int) × Int) × List (Int × Int × Int × Int × Int)) (k2 : Int) :
    den (R := ODen (T_impl_SeqWorld_read_sg N).ps × RDen (T_impl_SeqWorld_read_sg N).rs) tab (T_impl_SeqWorld_read_ctx N) T_impl_SeqWorld_read_ann N (T_impl_SeqWorld_read_sg N) Try.f82 (w1, k2, ()) some =
    (bif inb k2 (List.length w1.2.2.2.2.1) then
    (bif (List.getD w1.2.2.2.2.1 (Int.toNat k2) ((0 : Int), ((0 : Int), (((0 : Int), ((0 : Int), (0 : Int))), (0 : Int))))).1 == (0 : Int) then
      (bif inz (2 : Int) then
        (bif (irem w1.1 (2 : Int)) == (1 : Int) then
          (some (α := ODen (T_impl_SeqWorld_read_sg N).ps × RDen (T_impl_SeqWorld_read_sg N).rs) ((w1, ()), ()))
          else
          (share (List.set w1.2.2.2.2.1 (Int.toNat k2) ((List.getD w1.2.2.2.2.1 (Int.toNat k2) ((0 : Int), ((0 : Int), (((0 : Int), ((0 : Int), (0 : Int))), (0 : Int))))).1, (w1.1, (List.getD w1.2.2.2.2.1 (Int.toNat k2) ((0 : Int), ((0 : Int), (((0 : Int), ((0 : Int), (0 : Int))), (0 : Int))))).2.2))) fun s3 =>
            (some (α := ODen (T_impl_SeqWorld_read_sg N).ps × RDen (T_impl_SeqWorld_read_sg N).rs) (((w1.1, (w1.2.1, (w1.2.2.1, (w1.2.2.2.1, (List.set s3 (Int.toNat k2) (iadd .i64 (List.getD (List.set w1.2.2.2.2.1 (Int.toNat k2) ((List.getD w1.2.2.2.2.1 (Int.toNat k2) ((0 : Int), ((0 : Int), (((0 : Int), ((0 : Int), (0 : Int))), (0 : Int))))).1, (w1.1, (List.getD w1.2.2.2.2.1 (Int.toNat k2) ((0 : Int), ((0 : Int), (((0 : Int), ((0 : Int), (0 : Int))), (0 : Int))))).2.2))) (Int.toNat k2) ((0 : Int), ((0 : Int), (((0 : Int), ((0 : Int), (0 : Int))), (0 : Int))))).1 (1 : Int), (List.getD s3 (Int.toNat k2) ((0 : Int), ((0 : Int), (((0 : Int), ((0 : Int), (0 : Int))), (0 : Int))))).2), w1.2.2.2.2.2))))), ()), ())))) else none)
      else
      (bif (List.getD w1.2.2.2.2.1 (Int.toNat k2) ((0 : Int), ((0 : Int), (((0 : Int), ((0 : Int), (0 : Int))), (0 : Int))))).1 == (1 : Int) then
        (share (List.set w1.2.2.2.2.1 (Int.toNat k2) ((List.getD w1.2.2.2.2.1 (Int.toNat k2) ((0 : Int), ((0 : Int), (((0 : Int), ((0 : Int), (0 : Int))), (0 : Int))))).1, ((List.getD w1.2.2.2.2.1 (Int.toNat k2) ((0 : Int), ((0 : Int), (((0 : Int), ((0 : Int), (0 : Int))), (0 : Int))))).2.1, ((w1.2.1.1, (List.getD w1.2.2.2.2.1 (Int.toNat k2) ((0 : Int), ((0 : Int), (((0 : Int), ((0 : Int), (0 : Int))), (0 : Int))))).2.2.1.2), (List.getD w1.2.2.2.2.1 (Int.toNat k2) ((0 : Int), ((0 : Int), (((0 : Int), ((0 : Int), (0 : Int))), (0 : Int))))).2.2.2)))) fun s4 =>
          (some (α := ODen (T_impl_SeqWorld_read_sg N).ps × RDen (T_impl_SeqWorld_read_sg N).rs) (((w1.1, (w1.2.1, (w1.2.2.1, (w1.2.2.2.1, (List.set s4 (Int.toNat k2) (iadd .i64 (List.getD (List.set w1.2.2.2.2.1 (Int.toNat k2) ((List.getD w1.2.2.2.2.1 (Int.toNat k2) ((0 : Int), ((0 : Int), (((0 : Int), ((0 : Int), (0 : Int))), (0 : Int))))).1, ((List.getD w1.2.2.2.2.1 (Int.toNat k2) ((0 : Int), ((0 : Int), (((0 : Int), ((0 : Int), (0 : Int))), (0 : Int))))).2.1, ((w1.2.1.1, (List.getD w1.2.2.2.2.1 (Int.toNat k2) ((0 : Int), ((0 : Int), (((0 : Int), ((0 : Int), (0 : Int))), (0 : Int))))).2.2.1.2), (List.getD w1.2.2.2.2.1 (Int.toNat k2) ((0 : Int), ((0 : Int), (((0 : Int), ((0 : Int), (0 : Int))), (0 : Int))))).2.2.2)))) (Int.toNat k2) ((0 : Int), ((0 : Int), (((0 : Int), ((0 : Int), (0 : Int))), (0 : Int))))).1 (1 : Int), (List.getD s4 (Int.toNat k2) ((0 : Int), ((0 : Int), (((0 : Int), ((0 : Int), (0 : Int))), (0 : Int))))).2), w1.2.2.2.2.2))))), ()), ())))
        else
        (bif (List.getD w1.2.2.2.2.1 (Int.toNat k2) ((0 : Int), ((0 : Int), (((0 : Int), ((0 : Int), (0 : Int))), (0 : Int))))).1 == (2 : Int) then
          (share (List.set w1.2.2.2.2.1 (Int.toNat k2) ((List.getD w1.2.2.2.2.1 (Int.toNat k2) ((0 : Int), ((0 : Int), (((0 : Int), ((0 : Int), (0 : Int))), (0 : Int))))).1, ((List.getD w1.2.2.2.2.1 (Int.toNat k2) ((0 : Int), ((0 : Int), (((0 : Int), ((0 : Int), (0 : Int))), (0 : Int))))).2.1, (((List.getD w1.2.2.2.2.1 (Int.toNat k2) ((0 : Int), ((0 : Int), (((0 : Int), ((0 : Int), (0 : Int))), (0 : Int))))).2.2.1.1, (w1.2.1.2.1, (List.getD w1.2.2.2.2.1 (Int.toNat k2) ((0 : Int), ((0 : Int), (((0 : Int), ((0 : Int), (0 : Int))), (0 : Int))))).2.2.1.2.2)), (List.getD w1.2.2.2.2.1 (Int.toNat k2) ((0 : Int), ((0 : Int), (((0 : Int), ((0 : Int), (0 : Int))), (0 : Int))))).2.2.2)))) fun s5 =>
            (some (α := ODen (T_impl_SeqWorld_read_sg N).ps × RDen (T_impl_SeqWorld_read_sg N).rs) (((w1.1, (w1.2.1, (w1.2.2.1, (w1.2.2.2.1, (List.set s5 (Int.toNat k2) (iadd .i64 (List.getD (List.set w1.2.2.2.2.1 (Int.toNat k2) ((List.getD w1.2.2.2.2.1 (Int.toNat k2) ((0 : Int), ((0 : Int), (((0 : Int), ((0 : Int), (0 : Int))), (0 : Int))))).1, ((List.getD w1.2.2.2.2.1 (Int.toNat k2) ((0 : Int), ((0 : Int), (((0 : Int), ((0 : Int), (0 : Int))), (0 : Int))))).2.1, (((List.getD w1.2.2.2.2.1 (Int.toNat k2) ((0 : Int), ((0 : Int), (((0 : Int), ((0 : Int), (0 : Int))), (0 : Int))))).2.2.1.1, (w1.2.1.2.1, (List.getD w1.2.2.2.2.1 (Int.toNat k2) ((0 : Int), ((0 : Int), (((0 : Int), ((0 : Int), (0 : Int))), (0 : Int))))).2.2.1.2.2)), (List.getD w1.2.2.2.2.1 (Int.toNat k2) ((0 : Int), ((0 : Int), (((0 : Int), ((0 : Int), (0 : Int))), (0 : Int))))).2.2.2)))) (Int.toNat k2) ((0 : Int), ((0 : Int), (((0 : Int), ((0 : Int), (0 : Int))), (0 : Int))))).1 (1 : Int), (List.getD s5 (Int.toNat k2) ((0 : Int), ((0 : Int), (((0 : Int), ((0 : Int), (0 : Int))), (0 : Int))))).2), w1.2.2.2.2.2))))), ()), ())))
          else
          (bif (List.getD w1.2.2.2.2.1 (Int.toNat k2) ((0 : Int), ((0 : Int), (((0 : Int), ((0 : Int), (0 : Int))), (0 : Int))))).1 == (3 : Int) then
            (share (List.set w1.2.2.2.2.1 (Int.toNat k2) ((List.getD w1.2.2.2.2.1 (Int.toNat k2) ((0 : Int), ((0 : Int), (((0 : Int), ((0 : Int), (0 : Int))), (0 : Int))))).1, ((List.getD w1.2.2.2.2.1 (Int.toNat k2) ((0 : Int), ((0 : Int), (((0 : Int), ((0 : Int), (0 : Int))), (0 : Int))))).2.1, (((List.getD w1.2.2.2.2.1 (Int.toNat k2) ((0 : Int), ((0 : Int), (((0 : Int), ((0 : Int), (0 : Int))), (0 : Int))))).2.2.1.1, ((List.getD w1.2.2.2.2.1 (Int.toNat k2) ((0 : Int), ((0 : Int), (((0 : Int), ((0 : Int), (0 : Int))), (0 : Int))))).2.2.1.2.1, w1.2.1.2.2)), (List.getD w1.2.2.2.2.1 (Int.toNat k2) ((0 : Int), ((0 : Int), (((0 : Int), ((0 : Int), (0 : Int))), (0 : Int))))).2.2.2)))) fun s6 =>
              (some (α := ODen (T_impl_SeqWorld_read_sg N).ps × RDen (T_impl_SeqWorld_read_sg N).rs) (((w1.1, (w1.2.1, (w1.2.2.1, (w1.2.2.2.1, (List.set s6 (Int.toNat k2) (iadd .i64 (List.getD (List.set w1.2.2.2.2.1 (Int.toNat k2) ((List.getD w1.2.2.2.2.1 (Int.toNat k2) ((0 : Int), ((0 : Int), (((0 : Int), ((0 : Int), (0 : Int))), (0 : Int))))).1, ((List.getD w1.2.2.2.2.1 (Int.toNat k2) ((0 : Int), ((0 : Int), (((0 : Int), ((0 : Int), (0 : Int))), (0 : Int))))).2.1, (((List.getD w1.2.2.2.2.1 (Int.toNat k2) ((0 : Int), ((0 : Int), (((0 : Int), ((0 : Int), (0 : Int))), (0 : Int))))).2.2.1.1, ((List.getD w1.2.2.2.2.1 (Int.toNat k2) ((0 : Int), ((0 : Int), (((0 : Int), ((0 : Int), (0 : Int))), (0 : Int))))).2.2.1.2.1, w1.2.1.2.2)), (List.getD w1.2.2.2.2.1 (Int.toNat k2) ((0 : Int), ((0 : Int), (((0 : Int), ((0 : Int), (0 : Int))), (0 : Int))))).2.2.2)))) (Int.toNat k2) ((0 : Int), ((0 : Int), (((0 : Int), ((0 : Int), (0 : Int))), (0 : Int))))).1 (1 : Int), (List.getD s6 (Int.toNat k2) ((0 : Int), ((0 : Int), (((0 : Int), ((0 : Int), (0 : Int))), (0 : Int))))).2), w1.2.2.2.2.2))))), ()), ())))
            else
            (bif (List.getD w1.2.2.2.2.1 (Int.toNat k2) ((0 : Int), ((0 : Int), (((0 : Int), ((0 : Int), (0 : Int))), (0 : Int))))).1 == (4 : Int) then
              (bif w1.1 == (List.getD w1.2.2.2.2.1 (Int.toNat k2) ((0 : Int), ((0 : Int), (((0 : Int), ((0 : Int), (0 : Int))), (0 : Int))))).2.1 then
                (bif room ((List.length w1.2.2.2.2.2) + (List.length ([(k2, ((List.getD w1.2.2.2.2.1 (Int.toNat k2) ((0 : Int), ((0 : Int), (((0 : Int), ((0 : Int), (0 : Int))), (0 : Int))))).2.1, (List.getD w1.2.2.2.2.1 (Int.toNat k2) ((0 : Int), ((0 : Int), (((0 : Int), ((0 : Int), (0 : Int))), (0 : Int))))).2.2.1))]))) then
                  (some (α := ODen (T_impl_SeqWorld_read_sg N).ps × RDen (T_impl_SeqWorld_read_sg N).rs) (((w1.1, (w1.2.1, (w1.2.2.1, (w1.2.2.2.1, (List.set w1.2.2.2.2.1 (Int.toNat k2) ((0 : Int), ((0 : Int), (((0 : Int), ((0 : Int), (0 : Int))), (List.getD w1.2.2.2.2.1 (Int.toNat k2) ((0 : Int), ((0 : Int), (((0 : Int), ((0 : Int), (0 : Int))), (0 : Int))))).2.2.2))), List.append w1.2.2.2.2.2 ([(k2, ((List.getD w1.2.2.2.2.1 (Int.toNat k2) ((0 : Int), ((0 : Int), (((0 : Int), ((0 : Int), (0 : Int))), (0 : Int))))).2.1, (List.getD w1.2.2.2.2.1 (Int.toNat k2) ((0 : Int), ((0 : Int), (((0 : Int), ((0 : Int), (0 : Int))), (0 : Int))))).2.2.1))])))))), ()), ())) else none)
                else
                (some (α := ODen (T_impl_SeqWorld_read_sg N).ps × RDen (T_impl_SeqWorld_read_sg N).rs) (((w1.1, (w1.2.1, (w1.2.2.1, (w1.2.2.2.1, (List.set w1.2.2.2.2.1 (Int.toNat k2) ((0 : Int), ((0 : Int), (((0 : Int), ((0 : Int), (0 : Int))), iadd .i64 (List.getD w1.2.2.2.2.1 (Int.toNat k2) ((0 : Int), ((0 : Int), (((0 : Int), ((0 : Int), (0 : Int))), (0 : Int))))).2.2.2 (1 : Int)))), w1.2.2.2.2.2))))), ()), ())))
              else
              (some (α := ODen (T_impl_SeqWorld_read_sg N).ps × RDen (T_impl_SeqWorld_read_sg N).rs) (((w1.1, (w1.2.1, (w1.2.2.1, (w1.2.2.2.1, (List.set w1.2.2.2.2.1 (Int.toNat k2) (iadd .i64 (List.getD w1.2.2.2.2.1 (Int.toNat k2) ((0 : Int), ((0 : Int), (((0 : Int), ((0 : Int), (0 : Int))), (0 : Int))))).1 (1 : Int), (List.getD w1.2.2.2.2.1 (Int.toNat k2) ((0 : Int), ((0 : Int), (((0 : Int), ((0 : Int), (0 : Int))), (0 : Int))))).2), w1.2.2.2.2.2))))), ()), ()))))))) else none) := by kernel_rfl

theorem T_impl_SeqWorld_read_ok (N : Nat) : chkBody Try.f82 (T_impl_SeqWorld_read_sg N).ps = true := by kernel_rfl

theorem T_impl_SeqWorld_read_callable : Callable Try.prog 82 := callable_of Try.func82 (show chkFn Try.f82 = true by kernel_rfl)

theorem T_impl_SeqWorld_read_good (N : Nat) : Good Try.prog 82 (T_impl_SeqWorld_read_sg N) :=
  good_body mixedOk tabOk ctx_nil Try.func82 (T_impl_SeqWorld_read_ok N) (fun d _ h => ⟨N, (T_impl_SeqWorld_read_den N d.1 d.2.1).trans h⟩)

noncomputable def T_impl_SeqPlay_sg (N : Nat) : Sig := Sig.of [.v (.prod (.int .i64) (.prod (.int .i64) (.int .i64))) true, .v (.slice (.prod (.int .i64) (.prod (.int .i64) (.int .i64)))) false, .v (.slice (.int .i64)) false] [.v (.prod (.int .i64) (.prod (.prod (.int .i64) (.prod (.int .i64) (.int .i64))) (.prod (.int .i64) (.prod (.int .i64) (.prod (.own (.prod (.int .i64) (.prod (.int .i64) (.prod (.prod (.int .i64) (.prod (.int .i64) (.int .i64))) (.int .i64))))) (.own (.prod (.int .i64) (.prod (.int .i64) (.prod (.int .i64) (.prod (.int .i64) (.int .i64))))))))))) true] (fun d => T_impl_SeqPlay N d.1 d.2.1 d.2.2.1)

def T_impl_SeqPlay_ann : Nat → List Ghost
  | 5 => [.canon [1, 6, 7, 27, 28, 29, 30]]
  | 6 => [.canon [1, 6, 7, 9, 27, 28, 29]]
  | 7 => [.canon [1, 6, 7, 9, 27, 28, 29, 33]]
  | 8 => [.canon [1, 6, 7, 27, 28, 29]]
  | 9 => [.canon [1, 6, 7, 9, 27, 28, 29, 38]]
  | 10 => [.canon [1, 6, 7, 27, 28, 29]]
  | 11 => [.canon [1, 6, 7, 27, 28, 29]]
  | 100005 => [.adoptC 7 7 (.prod (.int .i64) (.prod (.int .i64) (.prod (.int .i64) (.prod (.int .i64) (.int .i64))))), .canon [1, 6, 7, 27, 28, 29]]
  | _ => []

noncomputable def T_impl_SeqPlay_ctx (N : Nat) : Ctx := [(79, T_impl_isTriple_sg N), (80, T_impl_TriplesOk_sg N), (81, T_impl_SeqWorld_write_sg N), (63, T_impl_within_sg N), (82, T_impl_SeqWorld_read_sg N)]

def T_impl_SeqPlay_lp0_sh (l6 : List (Int × Int × Int)) (t7 : List Int) (t9 : Int) (b16 : Int) (b17 : Int) (b18 : Int) (b19 : Int) (b20 : Int) (b21 : Int) (l22 : List (Int × Int × (Int × Int × Int) × Int)) (l23 : List (Int × Int × Int × Int × Int)) : St := { env := [(1, .s (.one (.val (.slice (.prod (.int .i64) (.prod (.int .i64) (.int .i64)))) (l6 : List (Int × Int × Int))))), (6, .s (.one (.ptr 0 0))), (7, .s (.one (.ptr 1 0))), (27, .s (.one (.val (.slice (.int .i64)) (t7 : List Int)))), (28, .s (.one (.val (.int .i64) (ilen t7 : Int)))), (29, .s (.one (.val (.int .i64) (t9 : Int))))], objs := [(0, .box [.val (.int .i64) ((0 : Int) : Int), .val (.int .i64) ((0 : Int) : Int), .val (.int .i64) ((0 : Int) : Int), .val (.int .i64) ((0 : Int) : Int), .val (.int .i64) ((0 : Int) : Int), .val (.int .i64) ((0 : Int) : Int), .nils, .nils]), (1, .box [.val (.int .i64) (b16 : Int), .val (.int .i64) (b17 : Int), .val (.int .i64) (b18 : Int), .val (.int .i64) (b19 : Int), .val (.int .i64) (b20 : Int), .val (.int .i64) (b21 : Int), .own 2, .own 3]), (2, .arr (.prod (.int .i64) (.prod (.int .i64) (.prod (.prod (.int .i64) (.prod (.int .i64) (.int .i64))) (.int .i64)))) (l22 : List (Int × Int × (Int × Int × Int) × Int))), (3, .arr (.prod (.int .i64) (.prod (.int .i64) (.prod (.int .i64) (.prod (.int .i64) (.int .i64))))) (l23 : List (Int × Int × Int × Int × Int)))], nx := 4 }

def T_impl_SeqPlay_lp0_e0 (l6 : List (Int × Int × Int)) (t7 : List Int) (t30 : Int) (t31 : Bool) (b32 : Int) (b33 : Int) (b34 : Int) (b35 : Int) (b36 : Int) (b37 : Int) (l38 : List (Int × Int × (Int × Int × Int) × Int)) (l39 : List (Int × Int × Int × Int × Int)) : St := { env := [(1, .s (.one (.val (.slice (.prod (.int .i64) (.prod (.int .i64) (.int .i64)))) (l6 : List (Int × Int × Int))))), (6, .s (.one (.ptr 0 0))), (7, .s (.one (.ptr 1 0))), (27, .s (.one (.val (.slice (.int .i64)) (t7 : List Int)))), (28, .s (.one (.val (.int .i64) (ilen t7 : Int)))), (29, .s (.one (.val (.int .i64) (t30 : Int)))), (30, .s (.one (.val (.bool) (t31 : Bool))))], objs := [(0, .box [.val (.int .i64) ((0 : Int) : Int), .val (.int .i64) ((0 : Int) : Int), .val (.int .i64) ((0 : Int) : Int), .val (.int .i64) ((0 : Int) : Int), .val (.int .i64) ((0 : Int) : Int), .val (.int .i64) ((0 : Int) : Int), .nils, .nils]), (1, .box [.val (.int .i64) (b32 : Int), .val (.int .i64) (b33 : Int), .val (.int .i64) (b34 : Int), .val (.int .i64) (b35 : Int), .val (.int .i64) (b36 : Int), .val (.int .i64) (b37 : Int), .own 2, .own 3]), (2, .arr (.prod (.int .i64) (.prod (.int .i64) (.prod (.prod (.int .i64) (.prod (.int .i64) (.int .i64))) (.int .i64)))) (l38 : List (Int × Int × (Int × Int × Int) × Int))), (3, .arr (.prod (.int .i64) (.prod (.int .i64) (.prod (.int .i64) (.prod (.int .i64) (.int .i64))))) (l39 : List (Int × Int × Int × Int × Int)))], nx := 4 }

noncomputable def T_impl_SeqPlay_lp0_m (N : Nat) {R : Type} (n : Nat) (st : St) (K : Ex → St → Option R) : Option R := loopN (roundG (T_impl_SeqPlay_ann 100005) fun st k => sx tab (T_impl_SeqPlay_ctx N) T_impl_SeqPlay_ann N (nthLoop Try.f28 0) st k) n st K

theorem T_impl_SeqPlay_lp0_step (N : Nat) {R : Type} (n : Nat) (K : Ex → St → Option R) (l6 : List (Int × Int × Int)) (t7 : List Int) (t9 : Int) (b16 : Int) (b17 : Int) (b18 : Int) (b19 : Int) (b20 : Int) (b21 : Int) (l22 : List (Int × Int × (Int × Int × Int) × Int)) (l23 : List (Int × Int × Int × Int × Int)) :
    T_impl_SeqPlay_lp0_m N (n + 1) (T_impl_SeqPlay_lp0_sh l6 t7 t9 b16 b17 b18 b19 b20 b21 l22 l23) K =
    (bif decide (t9 < (ilen t7)) then
    (bif inb t9 (List.length t7) then
      (bif (List.getD t7 (Int.toNat t9) (0 : Int)) == (0 : Int) then
        ((T_impl_SeqWorld_write N (b16, ((b17, (b18, b19)), (b20, (b21, (l22, l23))))) l6).bind fun o40 =>
          (T_impl_SeqPlay_lp0_m N n (T_impl_SeqPlay_lp0_sh l6 t7 (iadd .i64 t9 (1 : Int)) o40.1.1.1 o40.1.1.2.1.1 o40.1.1.2.1.2.1 o40.1.1.2.1.2.2 o40.1.1.2.2.1 o40.1.1.2.2.2.1 o40.1.1.2.2.2.2.1 o40.1.1.2.2.2.2.2) K))
        else
        ((T_impl_within N (List.getD t7 (Int.toNat t9) (0 : Int)) (1 : Int) (3 : Int)).bind fun o41 =>
          (bif o41.2.1 then
            ((T_impl_SeqWorld_read N (b16, ((b17, (b18, b19)), (b20, (b21, (l22, l23))))) (isub .i64 (List.getD t7 (Int.toNat t9) (0 : Int)) (1 : Int))).bind fun o42 =>
              (T_impl_SeqPlay_lp0_m N n (T_impl_SeqPlay_lp0_sh l6 t7 (iadd .i64 t9 (1 : Int)) o42.1.1.1 o42.1.1.2.1.1 o42.1.1.2.1.2.1 o42.1.1.2.1.2.2 o42.1.1.2.2.1 o42.1.1.2.2.2.1 o42.1.1.2.2.2.2.1 o42.1.1.2.2.2.2.2) K))
            else
            (T_impl_SeqPlay_lp0_m N n (T_impl_SeqPlay_lp0_sh l6 t7 (iadd .i64 t9 (1 : Int)) b16 b17 b18 b19 b20 b21 l22 l23) K)))) else none)
    else
    (K (.exit 0) (T_impl_SeqPlay_lp0_e0 l6 t7 t9 (decide (t9 < (ilen t7))) b16 b17 b18 b19 b20 b21 l22 l23))) := by kernel_rfl

theorem T_impl_SeqPlay_lp0_eq (N : Nat) {R : Type} (l6 : List (Int × Int × Int)) (t7 : List Int) (K : Ex → St → Option R) : ∀ (n : Nat) (t9 : Int) (b16 : Int) (b17 : Int) (b18 : Int) (b19 : Int) (b20 : Int) (b21 : Int) (l22 : List (Int × Int × (Int × Int × Int) × Int)) (l23 : List (Int × Int × Int × Int × Int)), T_impl_SeqPlay_lp0_m N n (T_impl_SeqPlay_lp0_sh l6 t7 t9 b16 b17 b18 b19 b20 b21 l22 l23) K = T_impl_SeqPlay_lp0 N l6 t7 (fun t30 t31 b32 b33 b34 b35 b36 b37 l38 l39 => (K (.exit 0) (T_impl_SeqPlay_lp0_e0 l6 t7 t30 t31 b32 b33 b34 b35 b36 b37 l38 l39))) n t9 b16 b17 b18 b19 b20 b21 l22 l23
  | 0, _, _, _, _, _, _, _, _, _ => rfl
  | n + 1, t9, b16, b17, b18, b19, b20, b21, l22, l23 => by rw [T_impl_SeqPlay_lp0_step, T_impl_SeqPlay_lp0]; (try simp only [T_impl_SeqPlay_lp0_eq N l6 t7 K n])

theorem T_impl_SeqPlay_c1 (N : Nat) (l2 : List (Int × Int × Int)) (acts3 : List Int) (t43 : Int) (t44 : Bool) (b45 : Int) (b46 : Int) (b47 : Int) (b48 : Int) (b49 : Int) (b50 : Int) (l51 : List (Int × Int × (Int × Int × Int) × Int)) (l52 : List (Int × Int × Int × Int × Int)) :
    ((ctxK (R := ODen (T_impl_SeqPlay_sg N).ps × RDen (T_impl_SeqPlay_sg N).rs) tab (T_impl_SeqPlay_ctx N) T_impl_SeqPlay_ann N (theCode Try.f28) [1, 1, 1, 0, 1, 0] (retK tab (T_impl_SeqPlay_sg N) Try.f28.results.toList some)) (.exit 0) (T_impl_SeqPlay_lp0_e0 l2 acts3 t43 t44 b45 b46 b47 b48 b49 b50 l51 l52)) =
    (some (α := ODen (T_impl_SeqPlay_sg N).ps × RDen (T_impl_SeqPlay_sg N).rs) ((), ((b45, ((b46, (b47, b48)), (b49, (b50, (l51, l52))))), ()))) := by kernel_rfl

theorem T_impl_SeqPlay_c2 (N : Nat) (l2 : List (Int × Int × Int)) (acts3 : List Int) (t53 : Int) (t54 : Bool) (b55 : Int) (b56 : Int) (b57 : Int) (b58 : Int) (b59 : Int) (b60 : Int) (l61 : List (Int × Int × (Int × Int × Int) × Int)) (l62 : List (Int × Int × Int × Int × Int)) :
    ((ctxK (R := ODen (T_impl_SeqPlay_sg N).ps × RDen (T_impl_SeqPlay_sg N).rs) tab (T_impl_SeqPlay_ctx N) T_impl_SeqPlay_ann N (theCode Try.f28) [1, 1, 1, 0, 1, 0] (retK tab (T_impl_SeqPlay_sg N) Try.f28.results.toList some)) (.exit 0) (T_impl_SeqPlay_lp0_e0 l2 acts3 t53 t54 b55 b56 b57 b58 b59 b60 l61 l62)) =
    (some (α := ODen (T_impl_SeqPlay_sg N).ps × RDen (T_impl_SeqPlay_sg N).rs) ((), ((b55, ((b56, (b57, b58)), (b59, (b60, (l61, l62))))), ()))) := by kernel_rfl

theorem T_impl_SeqPlay_den (N : Nat) (start1 : Int × Int × Int) (l2 : List (Int × Int × Int)) (acts3 : List Int) :
    den (R := ODen (T_impl_SeqPlay_sg N).ps × RDen (T_impl_SeqPlay_sg N).rs) tab (T_impl_SeqPlay_ctx N) T_impl_SeqPlay_ann N (T_impl_SeqPlay_sg N) Try.f28 (start1, l2, acts3, ()) some =
    ((T_impl_isTriple N start1).bind fun o4 =>
    (bif !o4.2.1 then
      (some (α := ODen (T_impl_SeqPlay_sg N).ps × RDen (T_impl_SeqPlay_sg N).rs) ((), (((0 : Int), (((0 : Int), ((0 : Int), (0 : Int))), ((0 : Int), ((0 : Int), (([] : List (Int × Int × (Int × Int × Int) × Int)), ([] : List (Int × Int × Int × Int × Int))))))), ())))
      else
      ((T_impl_TriplesOk N l2).bind fun o5 =>
        (bif !o5.2.1 then
          (some (α := ODen (T_impl_SeqPlay_sg N).ps × RDen (T_impl_SeqPlay_sg N).rs) ((), (((0 : Int), (((0 : Int), ((0 : Int), (0 : Int))), ((0 : Int), ((0 : Int), (([] : List (Int × Int × (Int × Int × Int) × Int)), ([] : List (Int × Int × Int × Int × Int))))))), ())))
          else
          (bif decide ((ilen acts3) > (200 : Int)) then
            (some (α := ODen (T_impl_SeqPlay_sg N).ps × RDen (T_impl_SeqPlay_sg N).rs) ((), (((0 : Int), (((0 : Int), ((0 : Int), (0 : Int))), ((0 : Int), ((0 : Int), (([] : List (Int × Int × (Int × Int × Int) × Int)), ([] : List (Int × Int × Int × Int × Int))))))), ())))
            else
            (both
              (bif ((decide ((0 : Int) ≤ (3 : Int))) && (decide ((3 : Int) ≤ (3 : Int)))) && (room (Int.toNat (3 : Int))) then
                (T_impl_SeqPlay_lp0 N l2 acts3
                  (fun t43 t44 b45 b46 b47 b48 b49 b50 l51 l52 =>
                    (some (α := ODen (T_impl_SeqPlay_sg N).ps × RDen (T_impl_SeqPlay_sg N).rs) ((), ((b45, ((b46, (b47, b48)), (b49, (b50, (l51, l52))))), ()))))
                   N (0 : Int) (0 : Int) start1.1 start1.2.1 start1.2.2 (0 : Int) (0 : Int) (List.replicate (Int.toNat (3 : Int)) ((0 : Int), ((0 : Int), (((0 : Int), ((0 : Int), (0 : Int))), (0 : Int))))) ([] : List (Int × Int × Int × Int × Int))) else none)
              (bif ((decide ((0 : Int) ≤ (3 : Int))) && (decide ((3 : Int) ≤ (3 : Int)))) && (room (Int.toNat (3 : Int))) then
                (T_impl_SeqPlay_lp0 N l2 acts3
                  (fun t53 t54 b55 b56 b57 b58 b59 b60 l61 l62 =>
                    (some (α := ODen (T_impl_SeqPlay_sg N).ps × RDen (T_impl_SeqPlay_sg N).rs) ((), ((b55, ((b56, (b57, b58)), (b59, (b60, (l61, l62))))), ()))))
                   N (0 : Int) (0 : Int) start1.1 start1.2.1 start1.2.2 (0 : Int) (0 : Int) (List.replicate (Int.toNat (3 : Int)) ((0 : Int), ((0 : Int), (((0 : Int), ((0 : Int), (0 : Int))), (0 : Int))))) ([] : List (Int × Int × Int × Int × Int))) else none))))))) := by
  have h : den (R := ODen (T_impl_SeqPlay_sg N).ps × RDen (T_impl_SeqPlay_sg N).rs) tab (T_impl_SeqPlay_ctx N) T_impl_SeqPlay_ann N (T_impl_SeqPlay_sg N) Try.f28 (start1, l2, acts3, ()) some =
    ((T_impl_isTriple N start1).bind fun o4 =>
    (bif !o4.2.1 then
      (some (α := ODen (T_impl_SeqPlay_sg N).ps × RDen (T_impl_SeqPlay_sg N).rs) ((), (((0 : Int), (((0 : Int), ((0 : Int), (0 : Int))), ((0 : Int), ((0 : Int), (([] : List (Int × Int × (Int × Int × Int) × Int)), ([] : List (Int × Int × Int × Int × Int))))))), ())))
      else
      ((T_impl_TriplesOk N l2).bind fun o5 =>
        (bif !o5.2.1 then
          (some (α := ODen (T_impl_SeqPlay_sg N).ps × RDen (T_impl_SeqPlay_sg N).rs) ((), (((0 : Int), (((0 : Int), ((0 : Int), (0 : Int))), ((0 : Int), ((0 : Int), (([] : List (Int × Int × (Int × Int × Int) × Int)), ([] : List (Int × Int × Int × Int × Int))))))), ())))
          else
          (bif decide ((ilen acts3) > (200 : Int)) then
            (some (α := ODen (T_impl_SeqPlay_sg N).ps × RDen (T_impl_SeqPlay_sg N).rs) ((), (((0 : Int), (((0 : Int), ((0 : Int), (0 : Int))), ((0 : Int), ((0 : Int), (([] : List (Int × Int × (Int × Int × Int) × Int)), ([] : List (Int × Int × Int × Int × Int))))))), ())))
            else
            (both
              (bif ((decide ((0 : Int) ≤ (3 : Int))) && (decide ((3 : Int) ≤ (3 : Int)))) && (room (Int.toNat (3 : Int))) then
                (T_impl_SeqPlay_lp0_m N N (T_impl_SeqPlay_lp0_sh l2 acts3 (0 : Int) (0 : Int) start1.1 start1.2.1 start1.2.2 (0 : Int) (0 : Int) (List.replicate (Int.toNat (3 : Int)) ((0 : Int), ((0 : Int), (((0 : Int), ((0 : Int), (0 : Int))), (0 : Int))))) ([] : List (Int × Int × Int × Int × Int))) (ctxK (R := ODen (T_impl_SeqPlay_sg N).ps × RDen (T_impl_SeqPlay_sg N).rs) tab (T_impl_SeqPlay_ctx N) T_impl_SeqPlay_ann N (theCode Try.f28) [1, 1, 1, 0, 1, 0] (retK tab (T_impl_SeqPlay_sg N) Try.f28.results.toList some))) else none)
              (bif ((decide ((0 : Int) ≤ (3 : Int))) && (decide ((3 : Int) ≤ (3 : Int)))) && (room (Int.toNat (3 : Int))) then
                (T_impl_SeqPlay_lp0_m N N (T_impl_SeqPlay_lp0_sh l2 acts3 (0 : Int) (0 : Int) start1.1 start1.2.1 start1.2.2 (0 : Int) (0 : Int) (List.replicate (Int.toNat (3 : Int)) ((0 : Int), ((0 : Int), (((0 : Int), ((0 : Int), (0 : Int))), (0 : Int))))) ([] : List (Int × Int × Int × Int × Int))) (ctxK (R := ODen (T_impl_SeqPlay_sg N).ps × RDen (T_impl_SeqPlay_sg N).rs) tab (T_impl_SeqPlay_ctx N) T_impl_SeqPlay_ann N (theCode Try.f28) [1, 1, 1, 0, 1, 0] (retK tab (T_impl_SeqPlay_sg N) Try.f28.results.toList some))) else none))))))) := by kernel_rfl
  rw [h]
  (try simp only [T_impl_SeqPlay_lp0_eq, T_impl_SeqPlay_c1, T_impl_SeqPlay_c2]) <;> rfl

theorem T_impl_SeqPlay_ok (N : Nat) : chkBody Try.f28 (T_impl_SeqPlay_sg N).ps = true := by kernel_rfl

theorem T_impl_SeqPlay_callable : Callable Try.prog 28 := callable_of Try.func28 (show chkFn Try.f28 = true by kernel_rfl)

theorem T_impl_SeqPlay_good (N : Nat) : Good Try.prog 28 (T_impl_SeqPlay_sg N) :=
  good_body mixedOk tabOk (ctx_cons (T_impl_isTriple_good N) T_impl_isTriple_callable (ctx_cons (T_impl_TriplesOk_good N) T_impl_TriplesOk_callable (ctx_cons (T_impl_SeqWorld_write_good N) T_impl_SeqWorld_write_callable (ctx_cons (T_impl_within_good N) T_impl_within_callable (ctx_cons (T_impl_SeqWorld_read_good N) T_impl_SeqWorld_read_callable ctx_nil))))) Try.func28 (T_impl_SeqPlay_ok N) (fun d _ h => ⟨N, (T_impl_SeqPlay_den N d.1 d.2.1 d.2.2.1).trans h⟩)

noncomputable def T_laws_eqTriple_sg (N : Nat) : Sig := Sig.of [.v (.prod (.int .i64) (.prod (.int .i64) (.int .i64))) true, .v (.prod (.int .i64) (.prod (.int .i64) (.int .i64))) true] [.v (.bool) false] (fun d => T_laws_eqTriple N d.1 d.2.1)

def T_laws_eqTriple_ann : Nat → List Ghost
  | _ => []

noncomputable def T_laws_eqTriple_ctx (N : Nat) : Ctx := []

theorem T_laws_eqTriple_den (N : Nat) (a1 : Int × Int × Int) (b2 : Int × Int × Int) :
    den (R := ODen (T_laws_eqTriple_sg N).ps × RDen (T_laws_eqTriple_sg N).rs) tab (T_laws_eqTriple_ctx N) T_laws_eqTriple_ann N (T_laws_eqTriple_sg N) Try.f83 (a1, b2, ()) some =
    (bif a1.1 != b2.1 then
    (some (α := ODen (T_laws_eqTriple_sg N).ps × RDen (T_laws_eqTriple_sg N).rs) ((), (false, ())))
    else
    (bif a1.2.1 != b2.2.1 then
      (some (α := ODen (T_laws_eqTriple_sg N).ps × RDen (T_laws_eqTriple_sg N).rs) ((), (false, ())))
      else
      (bif a1.2.2 != b2.2.2 then
        (some (α := ODen (T_laws_eqTriple_sg N).ps × RDen (T_laws_eqTriple_sg N).rs) ((), (false, ())))
        else
        (some (α := ODen (T_laws_eqTriple_sg N).ps × RDen (T_laws_eqTriple_sg N).rs) ((), (true, ())))))) := by kernel_rfl

theorem T_laws_eqTriple_ok (N : Nat) : chkBody Try.f83 (T_laws_eqTriple_sg N).ps = true := by kernel_rfl

theorem T_laws_eqTriple_callable : Callable Try.prog 83 := callable_of Try.func83 (show chkFn Try.f83 = true by kernel_rfl)

theorem T_laws_eqTriple_good (N : Nat) : Good Try.prog 83 (T_laws_eqTriple_sg N) :=
  good_body mixedOk tabOk ctx_nil Try.func83 (T_laws_eqTriple_ok N) (fun d _ h => ⟨N, (T_laws_eqTriple_den N d.1 d.2.1).trans h⟩)

noncomputable def T_laws_eqSeqReader_sg (N : Nat) : Sig := Sig.of [.v (.prod (.int .i64) (.prod (.int .i64) (.prod (.prod (.int .i64) (.prod (.int .i64) (.int .i64))) (.int .i64)))) true, .v (.prod (.int .i64) (.prod (.int .i64) (.prod (.prod (.int .i64) (.prod (.int .i64) (.int .i64))) (.int .i64)))) true] [.v (.bool) false] (fun d => T_laws_eqSeqReader N d.1 d.2.1)

def T_laws_eqSeqReader_ann : Nat → List Ghost
  | _ => []

noncomputable def T_laws_eqSeqReader_ctx (N : Nat) : Ctx := [(83, T_laws_eqTriple_sg N)]

theorem T_laws_eqSeqReader_den (N : Nat) (a1 : Int × Int × (Int × Int × Int) × Int) (b2 : Int × Int × (Int × Int × Int) × Int) :
    den (R := ODen (T_laws_eqSeqReader_sg N).ps × RDen (T_laws_eqSeqReader_sg N).rs) tab (T_laws_eqSeqReader_ctx N) T_laws_eqSeqReader_ann N (T_laws_eqSeqReader_sg N) Try.f138 (a1, b2, ()) some =
    (bif a1.1 != b2.1 then
    (some (α := ODen (T_laws_eqSeqReader_sg N).ps × RDen (T_laws_eqSeqReader_sg N).rs) ((), (false, ())))
    else
    (bif a1.2.1 != b2.2.1 then
      (some (α := ODen (T_laws_eqSeqReader_sg N).ps × RDen (T_laws_eqSeqReader_sg N).rs) ((), (false, ())))
      else
      ((T_laws_eqTriple N a1.2.2.1 b2.2.2.1).bind fun o3 =>
        (bif !o3.2.1 then
          (some (α := ODen (T_laws_eqSeqReader_sg N).ps × RDen (T_laws_eqSeqReader_sg N).rs) ((), (false, ())))
          else
          (bif a1.2.2.2 != b2.2.2.2 then
            (some (α := ODen (T_laws_eqSeqReader_sg N).ps × RDen (T_laws_eqSeqReader_sg N).rs) ((), (false, ())))
            else
            (some (α := ODen (T_laws_eqSeqReader_sg N).ps × RDen (T_laws_eqSeqReader_sg N).rs) ((), (true, ())))))))) := by kernel_rfl

theorem T_laws_eqSeqReader_ok (N : Nat) : chkBody Try.f138 (T_laws_eqSeqReader_sg N).ps = true := by kernel_rfl

theorem T_laws_eqSeqReader_callable : Callable Try.prog 138 := callable_of Try.func138 (show chkFn Try.f138 = true by kernel_rfl)

theorem T_laws_eqSeqReader_good (N : Nat) : Good Try.prog 138 (T_laws_eqSeqReader_sg N) :=
  good_body mixedOk tabOk (ctx_cons (T_laws_eqTriple_good N) T_laws_eqTriple_callable ctx_nil) Try.func138 (T_laws_eqSeqReader_ok N) (fun d _ h => ⟨N, (T_laws_eqSeqReader_den N d.1 d.2.1).trans h⟩)

noncomputable def T_laws_eqSeqReaderS_sg (N : Nat) : Sig := Sig.of [.v (.slice (.prod (.int .i64) (.prod (.int .i64) (.prod (.prod (.int .i64) (.prod (.int .i64) (.int .i64))) (.int .i64))))) false, .v (.slice (.prod (.int .i64) (.prod (.int .i64) (.prod (.prod (.int .i64) (.prod (.int .i64) (.int .i64))) (.int .i64))))) false] [.v (.bool) false] (fun d => T_laws_eqSeqReaderS N d.1 d.2.1)

def T_laws_eqSeqReaderS_ann : Nat → List Ghost
  | 4 => [.canon [0, 1, 5, 14]]
  | 5 => [.canon [0, 1, 5]]
  | 6 => [.canon [0, 1, 5, 26]]
  | 7 => [.canon [4]]
  | 100004 => [.canon [0, 1, 5]]
  | _ => []

noncomputable def T_laws_eqSeqReaderS_ctx (N : Nat) : Ctx := [(138, T_laws_eqSeqReader_sg N)]

def T_laws_eqSeqReaderS_lp0_sh (a3 : List (Int × Int × (Int × Int × Int) × Int)) (b4 : List (Int × Int × (Int × Int × Int) × Int)) (i5 : Int) : St := { env := [(0, .s (.one (.val (.slice (.prod (.int .i64) (.prod (.int .i64) (.prod (.prod (.int .i64) (.prod (.int .i64) (.int .i64))) (.int .i64))))) (a3 : List (Int × Int × (Int × Int × Int) × Int))))), (1, .s (.one (.val (.slice (.prod (.int .i64) (.prod (.int .i64) (.prod (.prod (.int .i64) (.prod (.int .i64) (.int .i64))) (.int .i64))))) (b4 : List (Int × Int × (Int × Int × Int) × Int))))), (5, .s (.one (.val (.int .i64) (i5 : Int))))], objs := [], nx := 0 }

def T_laws_eqSeqReaderS_lp0_e0 (a3 : List (Int × Int × (Int × Int × Int) × Int)) (b4 : List (Int × Int × (Int × Int × Int) × Int)) : St := { env := [(4, .s (.one (.val (.bool) (false : Bool))))], objs := [], nx := 0 }

def T_laws_eqSeqReaderS_lp0_e1 (a3 : List (Int × Int × (Int × Int × Int) × Int)) (b4 : List (Int × Int × (Int × Int × Int) × Int)) (i7 : Int) (t8 : Bool) : St := { env := [(0, .s (.one (.val (.slice (.prod (.int .i64) (.prod (.int .i64) (.prod (.prod (.int .i64) (.prod (.int .i64) (.int .i64))) (.int .i64))))) (a3 : List (Int × Int × (Int × Int × Int) × Int))))), (1, .s (.one (.val (.slice (.prod (.int .i64) (.prod (.int .i64) (.prod (.prod (.int .i64) (.prod (.int .i64) (.int .i64))) (.int .i64))))) (b4 : List (Int × Int × (Int × Int × Int) × Int))))), (5, .s (.one (.val (.int .i64) (i7 : Int)))), (14, .s (.one (.val (.bool) (t8 : Bool))))], objs := [], nx := 0 }

noncomputable def T_laws_eqSeqReaderS_lp0_m (N : Nat) {R : Type} (n : Nat) (st : St) (K : Ex → St → Option R) : Option R := loopN (roundG (T_laws_eqSeqReaderS_ann 100004) fun st k => sx tab (T_laws_eqSeqReaderS_ctx N) T_laws_eqSeqReaderS_ann N (nthLoop Try.f84 0) st k) n st K

theorem T_laws_eqSeqReaderS_lp0_step (N : Nat) {R : Type} (n : Nat) (K : Ex → St → Option R) (a3 : List (Int × Int × (Int × Int × Int) × Int)) (b4 : List (Int × Int × (Int × Int × Int) × Int)) (i5 : Int) :
    T_laws_eqSeqReaderS_lp0_m N (n + 1) (T_laws_eqSeqReaderS_lp0_sh a3 b4 i5) K =
    (bif decide (i5 < (ilen a3)) then
    (bif inb i5 (List.length a3) then
      (bif inb i5 (List.length b4) then
        ((T_laws_eqSeqReader N (List.getD a3 (Int.toNat i5) ((0 : Int), ((0 : Int), (((0 : Int), ((0 : Int), (0 : Int))), (0 : Int))))) (List.getD b4 (Int.toNat i5) ((0 : Int), ((0 : Int), (((0 : Int), ((0 : Int), (0 : Int))), (0 : Int)))))).bind fun o9 =>
          (bif !o9.2.1 then
            (K .ret (T_laws_eqSeqReaderS_lp0_e0 a3 b4))
            else
            (T_laws_eqSeqReaderS_lp0_m N n (T_laws_eqSeqReaderS_lp0_sh a3 b4 (iadd .i64 i5 (1 : Int))) K))) else none) else none)
    else
    (K (.exit 0) (T_laws_eqSeqReaderS_lp0_e1 a3 b4 i5 (decide (i5 < (ilen a3)))))) := by kernel_rfl

theorem T_laws_eqSeqReaderS_lp0_eq (N : Nat) {R : Type} (a3 : List (Int × Int × (Int × Int × Int) × Int)) (b4 : List (Int × Int × (Int × Int × Int) × Int)) (K : Ex → St → Option R) : ∀ (n : Nat) (i5 : Int), T_laws_eqSeqReaderS_lp0_m N n (T_laws_eqSeqReaderS_lp0_sh a3 b4 i5) K = T_laws_eqSeqReaderS_lp0 N a3 b4 (K .ret (T_laws_eqSeqReaderS_lp0_e0 a3 b4)) (fun i7 t8 => (K (.exit 0) (T_laws_eqSeqReaderS_lp0_e1 a3 b4 i7 t8))) n i5
  | 0, _ => rfl
  | n + 1, i5 => by rw [T_laws_eqSeqReaderS_lp0_step, T_laws_eqSeqReaderS_lp0]; (try simp only [T_laws_eqSeqReaderS_lp0_eq N a3 b4 K n])

theorem T_laws_eqSeqReaderS_c1 (N : Nat) (a1 : List (Int × Int × (Int × Int × Int) × Int)) (b2 : List (Int × Int × (Int × Int × Int) × Int)) :
    ((ctxK (R := ODen (T_laws_eqSeqReaderS_sg N).ps × RDen (T_laws_eqSeqReaderS_sg N).rs) tab (T_laws_eqSeqReaderS_ctx N) T_laws_eqSeqReaderS_ann N (theCode Try.f84) [1, 1, 0, 1, 0] (retK tab (T_laws_eqSeqReaderS_sg N) Try.f84.results.toList some)) .ret (T_laws_eqSeqReaderS_lp0_e0 a1 b2)) =
    (some (α := ODen (T_laws_eqSeqReaderS_sg N).ps × RDen (T_laws_eqSeqReaderS_sg N).rs) ((), (false, ()))) := by kernel_rfl

theorem T_laws_eqSeqReaderS_c2 (N : Nat) (a1 : List (Int × Int × (Int × Int × Int) × Int)) (b2 : List (Int × Int × (Int × Int × Int) × Int)) (i10 : Int) (t11 : Bool) :
    ((ctxK (R := ODen (T_laws_eqSeqReaderS_sg N).ps × RDen (T_laws_eqSeqReaderS_sg N).rs) tab (T_laws_eqSeqReaderS_ctx N) T_laws_eqSeqReaderS_ann N (theCode Try.f84) [1, 1, 0, 1, 0] (retK tab (T_laws_eqSeqReaderS_sg N) Try.f84.results.toList some)) (.exit 0) (T_laws_eqSeqReaderS_lp0_e1 a1 b2 i10 t11)) =
    (some (α := ODen (T_laws_eqSeqReaderS_sg N).ps × RDen (T_laws_eqSeqReaderS_sg N).rs) ((), (true, ()))) := by kernel_rfl

theorem T_laws_eqSeqReaderS_den (N : Nat) (a1 : List (Int × Int × (Int × Int × Int) × Int)) (b2 : List (Int × Int × (Int × Int × Int) × Int)) :
    den (R := ODen (T_laws_eqSeqReaderS_sg N).ps × RDen (T_laws_eqSeqReaderS_sg N).rs) tab (T_laws_eqSeqReaderS_ctx N) T_laws_eqSeqReaderS_ann N (T_laws_eqSeqReaderS_sg N) Try.f84 (a1, b2, ()) some =
    (bif (ilen a1) != (ilen b2) then
    (some (α := ODen (T_laws_eqSeqReaderS_sg N).ps × RDen (T_laws_eqSeqReaderS_sg N).rs) ((), (false, ())))
    else
    (T_laws_eqSeqReaderS_lp0 N a1 b2
      (some (α := ODen (T_laws_eqSeqReaderS_sg N).ps × RDen (T_laws_eqSeqReaderS_sg N).rs) ((), (false, ())))
      (fun i10 t11 =>
        (some (α := ODen (T_laws_eqSeqReaderS_sg N).ps × RDen (T_laws_eqSeqReaderS_sg N).rs) ((), (true, ()))))
       N (0 : Int))) := by
  have h : den (R := ODen (T_laws_eqSeqReaderS_sg N).ps × RDen (T_laws_eqSeqReaderS_sg N).rs) tab (T_laws_eqSeqReaderS_ctx N) T_laws_eqSeqReaderS_ann N (T_laws_eqSeqReaderS_sg N) Try.f84 (a1, b2, ()) some =
    (bif (ilen a1) != (ilen b2) then
    (some (α := ODen (T_laws_eqSeqReaderS_sg N).ps × RDen (T_laws_eqSeqReaderS_sg N).rs) ((), (false, ())))
    else
    (T_laws_eqSeqReaderS_lp0_m N N (T_laws_eqSeqReaderS_lp0_sh a1 b2 (0 : Int)) (ctxK (R := ODen (T_laws_eqSeqReaderS_sg N).ps × RDen (T_laws_eqSeqReaderS_sg N).rs) tab (T_laws_eqSeqReaderS_ctx N) T_laws_eqSeqReaderS_ann N (theCode Try.f84) [1, 1, 0, 1, 0] (retK tab (T_laws_eqSeqReaderS_sg N) Try.f84.results.toList some)))) := by kernel_rfl
  rw [h]
  (try simp only [T_laws_eqSeqReaderS_lp0_eq, T_laws_eqSeqReaderS_c1, T_laws_eqSeqReaderS_c2]) <;> rfl

theorem T_laws_eqSeqReaderS_ok (N : Nat) : chkBody Try.f84 (T_laws_eqSeqReaderS_sg N).ps = true := by kernel_rfl

theorem T_laws_eqSeqReaderS_callable : Callable Try.prog 84 := callable_of Try.func84 (show chkFn Try.f84 = true by kernel_rfl)

theorem T_laws_eqSeqReaderS_good (N : Nat) : Good Try.prog 84 (T_laws_eqSeqReaderS_sg N) :=
  good_body mixedOk tabOk (ctx_cons (T_laws_eqSeqReader_good N) T_laws_eqSeqReader_callable ctx_nil) Try.func84 (T_laws_eqSeqReaderS_ok N) (fun d _ h => ⟨N, (T_laws_eqSeqReaderS_den N d.1 d.2.1).trans h⟩)

noncomputable def T_laws_eqSeqRead_sg (N : Nat) : Sig := Sig.of [.v (.prod (.int .i64) (.prod (.int .i64) (.prod (.int .i64) (.prod (.int .i64) (.int .i64))))) true, .v (.prod (.int .i64) (.prod (.int .i64) (.prod (.int .i64) (.prod (.int .i64) (.int .i64))))) true] [.v (.bool) false] (fun d => T_laws_eqSeqRead N d.1 d.2.1)

def T_laws_eqSeqRead_ann : Nat → List Ghost
  | _ => []

noncomputable def T_laws_eqSeqRead_ctx (N : Nat) : Ctx := [(83, T_laws_eqTriple_sg N)]

theorem T_laws_eqSeqRead_den (N : Nat) (a1 : Int × Int × Int × Int × Int) (b2 : Int × Int × Int × Int × Int) :
    den (R := ODen (T_laws_eqSeqRead_sg N).ps × RDen (T_laws_eqSeqRead_sg N).rs) tab (T_laws_eqSeqRead_ctx N) T_laws_eqSeqRead_ann N (T_laws_eqSeqRead_sg N) Try.f139 (a1, b2, ()) some =
    (bif a1.1 != b2.1 then
    (some (α := ODen (T_laws_eqSeqRead_sg N).ps × RDen (T_laws_eqSeqRead_sg N).rs) ((), (false, ())))
    else
    (bif a1.2.1 != b2.2.1 then
      (some (α := ODen (T_laws_eqSeqRead_sg N).ps × RDen (T_laws_eqSeqRead_sg N).rs) ((), (false, ())))
      else
      ((T_laws_eqTriple N a1.2.2 b2.2.2).bind fun o3 =>
        (bif !o3.2.1 then
          (some (α := ODen (T_laws_eqSeqRead_sg N).ps × RDen (T_laws_eqSeqRead_sg N).rs) ((), (false, ())))
          else
          (some (α := ODen (T_laws_eqSeqRead_sg N).ps × RDen (T_laws_eqSeqRead_sg N).rs) ((), (true, ()))))))) := by kernel_rfl

theorem T_laws_eqSeqRead_ok (N : Nat) : chkBody Try.f139 (T_laws_eqSeqRead_sg N).ps = true := by kernel_rfl

theorem T_laws_eqSeqRead_callable : Callable Try.prog 139 := callable_of Try.func139 (show chkFn Try.f139 = true by kernel_rfl)

theorem T_laws_eqSeqRead_good (N : Nat) : Good Try.prog 139 (T_laws_eqSeqRead_sg N) :=
  good_body mixedOk tabOk (ctx_cons (T_laws_eqTriple_good N) T_laws_eqTriple_callable ctx_nil) Try.func139 (T_laws_eqSeqRead_ok N) (fun d _ h => ⟨N, (T_laws_eqSeqRead_den N d.1 d.2.1).trans h⟩)

noncomputable def T_laws_eqSeqReadS_sg (N : Nat) : Sig := Sig.of [.v (.slice (.prod (.int .i64) (.prod (.int .i64) (.prod (.int .i64) (.prod (.int .i64) (.int .i64)))))) false, .v (.slice (.prod (.int .i64) (.prod (.int .i64) (.prod (.int .i64) (.prod (.int .i64) (.int .i64)))))) false] [.v (.bool) false] (fun d => T_laws_eqSeqReadS N d.1 d.2.1)

def T_laws_eqSeqReadS_ann : Nat → List Ghost
  | 4 => [.canon [0, 1, 5, 14]]
  | 5 => [.canon [0, 1, 5]]
  | 6 => [.canon [0, 1, 5, 26]]
  | 7 => [.canon [4]]
  | 100004 => [.canon [0, 1, 5]]
  | _ => []

noncomputable def T_laws_eqSeqReadS_ctx (N : Nat) : Ctx := [(139, T_laws_eqSeqRead_sg N)]

def T_laws_eqSeqReadS_lp0_sh (a3 : List (Int × Int × Int × Int × Int)) (b4 : List (Int × Int × Int × Int × Int)) (i5 : Int) : St := { env := [(0, .s (.one (.val (.slice (.prod (.int .i64) (.prod (.int .i64) (.prod (.int .i64) (.prod (.int .i64) (.int .i64)))))) (a3 : List (Int × Int × Int × Int × Int))))), (1, .s (.one (.val (.slice (.prod (.int .i64) (.prod (.int .i64) (.prod (.int .i64) (.prod (.int .i64) (.int .i64)))))) (b4 : List (Int × Int × Int × Int × Int))))), (5, .s (.one (.val (.int .i64) (i5 : Int))))], objs := [], nx := 0 }

def T_laws_eqSeqReadS_lp0_e0 (a3 : List (Int × Int × Int × Int × Int)) (b4 : List (Int × Int × Int × Int × Int)) : St := { env := [(4, .s (.one (.val (.bool) (false : Bool))))], objs := [], nx := 0 }

def T_laws_eqSeqReadS_lp0_e1 (a3 : List (Int × Int × Int × Int × Int)) (b4 : List (Int × Int × Int × Int × Int)) (i7 : Int) (t8 : Bool) : St := { env := [(0, .s (.one (.val (.slice (.prod (.int .i64) (.prod (.int .i64) (.prod (.int .i64) (.prod (.int .i64) (.int .i64)))))) (a3 : List (Int × Int × Int × Int × Int))))), (1, .s (.one (.val (.slice (.prod (.int .i64) (.prod (.int .i64) (.prod (.int .i64) (.prod (.int .i64) (.int .i64)))))) (b4 : List (Int × Int × Int × Int × Int))))), (5, .s (.one (.val (.int .i64) (i7 : Int)))), (14, .s (.one (.val (.bool) (t8 : Bool))))], objs := [], nx := 0 }

noncomputable def T_laws_eqSeqReadS_lp0_m (N : Nat) {R : Type} (n : Nat) (st : St) (K : Ex → St → Option R) : Option R := loopN (roundG (T_laws_eqSeqReadS_ann 100004) fun st k => sx tab (T_laws_eqSeqReadS_ctx N) T_laws_eqSeqReadS_ann N (nthLoop Try.f85 0) st k) n st K

theorem T_laws_eqSeqReadS_lp0_step (N : Nat) {R : Type} (n : Nat) (K : Ex → St → Option R) (a3 : List (Int × Int × Int × Int × Int)) (b4 : List (Int × Int × Int × Int × Int)) (i5 : Int) :
    T_laws_eqSeqReadS_lp0_m N (n + 1) (T_laws_eqSeqReadS_lp0_sh a3 b4 i5) K =
    (bif decide (i5 < (ilen a3)) then
    (bif inb i5 (List.length a3) then
      (bif inb i5 (List.length b4) then
        ((T_laws_eqSeqRead N (List.getD a3 (Int.toNat i5) ((0 : Int), ((0 : Int), ((0 : Int), ((0 : Int), (0 : Int)))))) (List.getD b4 (Int.toNat i5) ((0 : Int), ((0 : Int), ((0 : Int), ((0 : Int), (0 : Int))))))).bind fun o9 =>
          (bif !o9.2.1 then
            (K .ret (T_laws_eqSeqReadS_lp0_e0 a3 b4))
            else
            (T_laws_eqSeqReadS_lp0_m N n (T_laws_eqSeqReadS_lp0_sh a3 b4 (iadd .i64 i5 (1 : Int))) K))) else none) else none)
    else
    (K (.exit 0) (T_laws_eqSeqReadS_lp0_e1 a3 b4 i5 (decide (i5 < (ilen a3)))))) := by kernel_rfl

theorem T_laws_eqSeqReadS_lp0_eq (N : Nat) {R : Type} (a3 : List (Int × Int × Int × Int × Int)) (b4 : List (Int × Int × Int × Int × Int)) (K : Ex → St → Option R) : ∀ (n : Nat) (i5 : Int), T_laws_eqSeqReadS_lp0_m N n (T_laws_eqSeqReadS_lp0_sh a3 b4 i5) K = T_laws_eqSeqReadS_lp0 N a3 b4 (K .ret (T_laws_eqSeqReadS_lp0_e0 a3 b4)) (fun i7 t8 => (K (.exit 0) (T_laws_eqSeqReadS_lp0_e1 a3 b4 i7 t8))) n i5
  | 0, _ => rfl
  | n + 1, i5 => by rw [T_laws_eqSeqReadS_lp0_step, T_laws_eqSeqReadS_lp0]; (try simp only [T_laws_eqSeqReadS_lp0_eq N a3 b4 K n])

theorem T_laws_eqSeqReadS_c1 (N : Nat) (a1 : List (Int × Int × Int × Int × Int)) (b2 : List (Int × Int × Int × Int × Int)) :
    ((ctxK (R := ODen (T_laws_eqSeqReadS_sg N).ps × RDen (T_laws_eqSeqReadS_sg N).rs) tab (T_laws_eqSeqReadS_ctx N) T_laws_eqSeqReadS_ann N (theCode Try.f85) [1, 1, 0, 1, 0] (retK tab (T_laws_eqSeqReadS_sg N) Try.f85.results.toList some)) .ret (T_laws_eqSeqReadS_lp0_e0 a1 b2)) =
    (some (α := ODen (T_laws_eqSeqReadS_sg N).ps × RDen (T_laws_eqSeqReadS_sg N).rs) ((), (false, ()))) := by kernel_rfl

theorem T_laws_eqSeqReadS_c2 (N : Nat) (a1 : List (Int × Int × Int × Int × Int)) (b2 : List (Int × Int × Int × Int × Int)) (i10 : Int) (t11 : Bool) :
    ((ctxK (R := ODen (T_laws_eqSeqReadS_sg N).ps × RDen (T_laws_eqSeqReadS_sg N).rs) tab (T_laws_eqSeqReadS_ctx N) T_laws_eqSeqReadS_ann N (theCode Try.f85) [1, 1, 0, 1, 0] (retK tab (T_laws_eqSeqReadS_sg N) Try.f85.results.toList some)) (.exit 0) (T_laws_eqSeqReadS_lp0_e1 a1 b2 i10 t11)) =
    (some (α := ODen (T_laws_eqSeqReadS_sg N).ps × RDen (T_laws_eqSeqReadS_sg N).rs) ((), (true, ()))) := by kernel_rfl

theorem T_laws_eqSeqReadS_den (N : Nat) (a1 : List (Int × Int × Int × Int × Int)) (b2 : List (Int × Int × Int × Int × Int)) :
    den (R := ODen (T_laws_eqSeqReadS_sg N).ps × RDen (T_laws_eqSeqReadS_sg N).rs) tab (T_laws_eqSeqReadS_ctx N) T_laws_eqSeqReadS_ann N (T_laws_eqSeqReadS_sg N) Try.f85 (a1, b2, ()) some =
    (bif (ilen a1) != (ilen b2) then
    (some (α := ODen (T_laws_eqSeqReadS_sg N).ps × RDen (T_laws_eqSeqReadS_sg N).rs) ((), (false, ())))
    else
    (T_laws_eqSeqReadS_lp0 N a1 b2
      (some (α := ODen (T_laws_eqSeqReadS_sg N).ps × RDen (T_laws_eqSeqReadS_sg N).rs) ((), (false, ())))
      (fun i10 t11 =>
        (some (α := ODen (T_laws_eqSeqReadS_sg N).ps × RDen (T_laws_eqSeqReadS_sg N).rs) ((), (true, ()))))
       N (0 : Int))) := by
  have h : den (R := ODen (T_laws_eqSeqReadS_sg N).ps × RDen (T_laws_eqSeqReadS_sg N).rs) tab (T_laws_eqSeqReadS_ctx N) T_laws_eqSeqReadS_ann N (T_laws_eqSeqReadS_sg N) Try.f85 (a1, b2, ()) some =
    (bif (ilen a1) != (ilen b2) then
    (some (α := ODen (T_laws_eqSeqReadS_sg N).ps × RDen (T_laws_eqSeqReadS_sg N).rs) ((), (false, ())))
    else
    (T_laws_eqSeqReadS_lp0_m N N (T_laws_eqSeqReadS_lp0_sh a1 b2 (0 : Int)) (ctxK (R := ODen (T_laws_eqSeqReadS_sg N).ps × RDen (T_laws_eqSeqReadS_sg N).rs) tab (T_laws_eqSeqReadS_ctx N) T_laws_eqSeqReadS_ann N (theCode Try.f85) [1, 1, 0, 1, 0] (retK tab (T_laws_eqSeqReadS_sg N) Try.f85.results.toList some)))) := by kernel_rfl
  rw [h]
  (try simp only [T_laws_eqSeqReadS_lp0_eq, T_laws_eqSeqReadS_c1, T_laws_eqSeqReadS_c2]) <;> rfl

theorem T_laws_eqSeqReadS_ok (N : Nat) : chkBody Try.f85 (T_laws_eqSeqReadS_sg N).ps = true := by kernel_rfl

theorem T_laws_eqSeqReadS_callable : Callable Try.prog 85 := callable_of Try.func85 (show chkFn Try.f85 = true by kernel_rfl)

theorem T_laws_eqSeqReadS_good (N : Nat) : Good Try.prog 85 (T_laws_eqSeqReadS_sg N) :=
  good_body mixedOk tabOk (ctx_cons (T_laws_eqSeqRead_good N) T_laws_eqSeqRead_callable ctx_nil) Try.func85 (T_laws_eqSeqReadS_ok N) (fun d _ h => ⟨N, (T_laws_eqSeqReadS_den N d.1 d.2.1).trans h⟩)

noncomputable def T_laws_eqSeqWorld_sg (N : Nat) : Sig := Sig.of [.v (.prod (.int .i64) (.prod (.prod (.int .i64) (.prod (.int .i64) (.int .i64))) (.prod (.int .i64) (.prod (.int .i64) (.prod (.slice (.prod (.int .i64) (.prod (.int .i64) (.prod (.prod (.int .i64) (.prod (.int .i64) (.int .i64))) (.int .i64))))) (.slice (.prod (.int .i64) (.prod (.int .i64) (.prod (.int .i64) (.prod (.int .i64) (.int .i64))))))))))) true, .v (.prod (.int .i64) (.prod (.prod (.int .i64) (.prod (.int .i64) (.int .i64))) (.prod (.int .i64) (.prod (.int .i64) (.prod (.slice (.prod (.int .i64) (.prod (.int .i64) (.prod (.prod (.int .i64) (.prod (.int .i64) (.int .i64))) (.int .i64))))) (.slice (.prod (.int .i64) (.prod (.int .i64) (.prod (.int .i64) (.prod (.int .i64) (.int .i64))))))))))) true] [.v (.bool) false] (fun d => T_laws_eqSeqWorld N d.1 d.2.1)

def T_laws_eqSeqWorld_ann : Nat → List Ghost
  | _ => []

noncomputable def T_laws_eqSeqWorld_ctx (N : Nat) : Ctx := [(83, T_laws_eqTriple_sg N), (84, T_laws_eqSeqReaderS_sg N), (85, T_laws_eqSeqReadS_sg N)]

theorem T_laws_eqSeqWorld_den (N : Nat) (a1 : Int × (Int × Int × Int) × Int × Int × List (Int × Int × (Int × Int × Int) × Int) × List (Int × Int × Int × Int × Int)) (b2 : Int × (Int × Int × Int) × Int × Int × List (Int × Int × (Int × Int × Int) × Int) × List (Int × Int × Int × Int × Int)) :
    den (R := ODen (T_laws_eqSeqWorld_sg N).ps × RDen (T_laws_eqSeqWorld_sg N).rs) tab (T_laws_eqSeqWorld_ctx N) T_laws_eqSeqWorld_ann N (T_laws_eqSeqWorld_sg N) Try.f29 (a1, b2, ()) some =
    (bif a1.1 != b2.1 then
    (some (α := ODen (T_laws_eqSeqWorld_sg N).ps × RDen (T_laws_eqSeqWorld_sg N).rs) ((), (false, ())))
    else
    ((T_laws_eqTriple N a1.2.1 b2.2.1).bind fun o3 =>
      (bif !o3.2.1 then
        (some (α := ODen (T_laws_eqSeqWorld_sg N).ps × RDen (T_laws_eqSeqWorld_sg N).rs) ((), (false, ())))
        else
        (bif a1.2.2.1 != b2.2.2.1 then
          (some (α := ODen (T_laws_eqSeqWorld_sg N).ps × RDen (T_laws_eqSeqWorld_sg N).rs) ((), (false, ())))
          else
          (bif a1.2.2.2.1 != b2.2.2.2.1 then
            (some (α := ODen (T_laws_eqSeqWorld_sg N).ps × RDen (T_laws_eqSeqWorld_sg N).rs) ((), (false, ())))
            else
            ((T_laws_eqSeqReaderS N a1.2.2.2.2.1 b2.2.2.2.2.1).bind fun o4 =>
              (bif !o4.2.1 then
                (some (α := ODen (T_laws_eqSeqWorld_sg N).ps × RDen (T_laws_eqSeqWorld_sg N).rs) ((), (false, ())))
                else
                ((T_laws_eqSeqReadS N a1.2.2.2.2.2 b2.2.2.2.2.2).bind fun o5 =>
                  (bif !o5.2.1 then
                    (some (α := ODen (T_laws_eqSeqWorld_sg N).ps × RDen (T_laws_eqSeqWorld_sg N).rs) ((), (false, ())))
                    else
                    (some (α := ODen (T_laws_eqSeqWorld_sg N).ps × RDen (T_laws_eqSeqWorld_sg N).rs) ((), (true, ())))))))))))) := by kernel_rfl

theorem T_laws_eqSeqWorld_ok (N : Nat) : chkBody Try.f29 (T_laws_eqSeqWorld_sg N).ps = true := by kernel_rfl

theorem T_laws_eqSeqWorld_callable : Callable Try.prog 29 := callable_of Try.func29 (show chkFn Try.f29 = true by kernel_rfl)

theorem T_laws_eqSeqWorld_good (N : Nat) : Good Try.prog 29 (T_laws_eqSeqWorld_sg N) :=
  good_body mixedOk tabOk (ctx_cons (T_laws_eqTriple_good N) T_laws_eqTriple_callable (ctx_cons (T_laws_eqSeqReaderS_good N) T_laws_eqSeqReaderS_callable (ctx_cons (T_laws_eqSeqReadS_good N) T_laws_eqSeqReadS_callable ctx_nil))) Try.func29 (T_laws_eqSeqWorld_ok N) (fun d _ h => ⟨N, (T_laws_eqSeqWorld_den N d.1 d.2.1).trans h⟩)

noncomputable def T_laws_eqTripleS_sg (N : Nat) : Sig := Sig.of [.v (.slice (.prod (.int .i64) (.prod (.int .i64) (.int .i64)))) false, .v (.slice (.prod (.int .i64) (.prod (.int .i64) (.int .i64)))) false] [.v (.bool) false] (fun d => T_laws_eqTripleS N d.1 d.2.1)

def T_laws_eqTripleS_ann : Nat → List Ghost
  | 4 => [.canon [0, 1, 5, 14]]
  | 5 => [.canon [0, 1, 5]]
  | 6 => [.canon [0, 1, 5, 26]]
  | 7 => [.canon [4]]
  | 100004 => [.canon [0, 1, 5]]
  | _ => []

noncomputable def T_laws_eqTripleS_ctx (N : Nat) : Ctx := [(83, T_laws_eqTriple_sg N)]

def T_laws_eqTripleS_lp0_sh (a3 : List (Int × Int × Int)) (b4 : List (Int × Int × Int)) (i5 : Int) : St := { env := [(0, .s (.one (.val (.slice (.prod (.int .i64) (.prod (.int .i64) (.int .i64)))) (a3 : List (Int × Int × Int))))), (1, .s (.one (.val (.slice (.prod (.int .i64) (.prod (.int .i64) (.int .i64)))) (b4 : List (Int × Int × Int))))), (5, .s (.one (.val (.int .i64) (i5 : Int))))], objs := [], nx := 0 }

def T_laws_eqTripleS_lp0_e0 (a3 : List (Int × Int × Int)) (b4 : List (Int × Int × Int)) : St := { env := [(4, .s (.one (.val (.bool) (false : Bool))))], objs := [], nx := 0 }

def T_laws_eqTripleS_lp0_e1 (a3 : List (Int × Int × Int)) (b4 : List (Int × Int × Int)) (i7 : Int) (t8 : Bool) : St := { env := [(0, .s (.one (.val (.slice (.prod (.int .i64) (.prod (.int .i64) (.int .i64)))) (a3 : List (Int × Int × Int))))), (1, .s (.one (.val (.slice (.prod (.int .i64) (.prod (.int .i64) (.int .i64)))) (b4 : List (Int × Int × Int))))), (5, .s (.one (.val (.int .i64) (i7 : Int)))), (14, .s (.one (.val (.bool) (t8 : Bool))))], objs := [], nx := 0 }

noncomputable def T_laws_eqTripleS_lp0_m (N : Nat) {R : Type} (n : Nat) (st : St) (K : Ex → St → Option R) : Option R := loopN (roundG (T_laws_eqTripleS_ann 100004) fun st k => sx tab (T_laws_eqTripleS_ctx N) T_laws_eqTripleS_ann N (nthLoop Try.f30 0) st k) n st K

theorem T_laws_eqTripleS_lp0_step (N : Nat) {R : Type} (n : Nat) (K : Ex → St → Option R) (a3 : List (Int × Int × Int)) (b4 : List (Int × Int × Int)) (i5 : Int) :
    T_laws_eqTripleS_lp0_m N (n + 1) (T_laws_eqTripleS_lp0_sh a3 b4 i5) K =
    (bif decide (i5 < (ilen a3)) then
    (bif inb i5 (List.length a3) then
      (bif inb i5 (List.length b4) then
        ((T_laws_eqTriple N (List.getD a3 (Int.toNat i5) ((0 : Int), ((0 : Int), (0 : Int)))) (List.getD b4 (Int.toNat i5) ((0 : Int), ((0 : Int), (0 : Int))))).bind fun o9 =>
          (bif !o9.2.1 then
            (K .ret (T_laws_eqTripleS_lp0_e0 a3 b4))
            else
            (T_laws_eqTripleS_lp0_m N n (T_laws_eqTripleS_lp0_sh a3 b4 (iadd .i64 i5 (1 : Int))) K))) else none) else none)
    else
    (K (.exit 0) (T_laws_eqTripleS_lp0_e1 a3 b4 i5 (decide (i5 < (ilen a3)))))) := by kernel_rfl

theorem T_laws_eqTripleS_lp0_eq (N : Nat) {R : Type} (a3 : List (Int × Int × Int)) (b4 : List (Int × Int × Int)) (K : Ex → St → Option R) : ∀ (n : Nat) (i5 : Int), T_laws_eqTripleS_lp0_m N n (T_laws_eqTripleS_lp0_sh a3 b4 i5) K = T_laws_eqTripleS_lp0 N a3 b4 (K .ret (T_laws_eqTripleS_lp0_e0 a3 b4)) (fun i7 t8 => (K (.exit 0) (T_laws_eqTripleS_lp0_e1 a3 b4 i7 t8))) n i5
  | 0, _ => rfl
  | n + 1, i5 => by rw [T_laws_eqTripleS_lp0_step, T_laws_eqTripleS_lp0]; (try simp only [T_laws_eqTripleS_lp0_eq N a3 b4 K n])

theorem T_laws_eqTripleS_c1 (N : Nat) (a1 : List (Int × Int × Int)) (b2 : List (Int × Int × Int)) :
    ((ctxK (R := ODen (T_laws_eqTripleS_sg N).ps × RDen (T_laws_eqTripleS_sg N).rs) tab (T_laws_eqTripleS_ctx N) T_laws_eqTripleS_ann N (theCode Try.f30) [1, 1, 0, 1, 0] (retK tab (T_laws_eqTripleS_sg N) Try.f30.results.toList some)) .ret (T_laws_eqTripleS_lp0_e0 a1 b2)) =
    (some (α := ODen (T_laws_eqTripleS_sg N).ps × RDen (T_laws_eqTripleS_sg N).rs) ((), (false, ()))) := by kernel_rfl

theorem T_laws_eqTripleS_c2 (N : Nat) (a1 : List (Int × Int × Int)) (b2 : List (Int × Int × Int)) (i10 : Int) (t11 : Bool) :
    ((ctxK (R := ODen (T_laws_eqTripleS_sg N).ps × RDen (T_laws_eqTripleS_sg N).rs) tab (T_laws_eqTripleS_ctx N) T_laws_eqTripleS_ann N (theCode Try.f30) [1, 1, 0, 1, 0] (retK tab (T_laws_eqTripleS_sg N) Try.f30.results.toList some)) (.exit 0) (T_laws_eqTripleS_lp0_e1 a1 b2 i10 t11)) =
    (some (α := ODen (T_laws_eqTripleS_sg N).ps × RDen (T_laws_eqTripleS_sg N).rs) ((), (true, ()))) := by kernel_rfl

theorem T_laws_eqTripleS_den (N : Nat) (a1 : List (Int × Int × Int)) (b2 : List (Int × Int × Int)) :
    den (R := ODen (T_laws_eqTripleS_sg N).ps × RDen (T_laws_eqTripleS_sg N).rs) tab (T_laws_eqTripleS_ctx N) T_laws_eqTripleS_ann N (T_laws_eqTripleS_sg N) Try.f30 (a1, b2, ()) some =
    (bif (ilen a1) != (ilen b2) then
    (some (α := ODen (T_laws_eqTripleS_sg N).ps × RDen (T_laws_eqTripleS_sg N).rs) ((), (false, ())))
    else
    (T_laws_eqTripleS_lp0 N a1 b2
      (some (α := ODen (T_laws_eqTripleS_sg N).ps × RDen (T_laws_eqTripleS_sg N).rs) ((), (false, ())))
      (fun i10 t11 =>
        (some (α := ODen (T_laws_eqTripleS_sg N).ps × RDen (T_laws_eqTripleS_sg N).rs) ((), (true, ()))))
       N (0 : Int))) := by
  have h : den (R := ODen (T_laws_eqTripleS_sg N).ps × RDen (T_laws_eqTripleS_sg N).rs) tab (T_laws_eqTripleS_ctx N) T_laws_eqTripleS_ann N (T_laws_eqTripleS_sg N) Try.f30 (a1, b2, ()) some =
    (bif (ilen a1) != (ilen b2) then
    (some (α := ODen (T_laws_eqTripleS_sg N).ps × RDen (T_laws_eqTripleS_sg N).rs) ((), (false, ())))
    else
    (T_laws_eqTripleS_lp0_m N N (T_laws_eqTripleS_lp0_sh a1 b2 (0 : Int)) (ctxK (R := ODen (T_laws_eqTripleS_sg N).ps × RDen (T_laws_eqTripleS_sg N).rs) tab (T_laws_eqTripleS_ctx N) T_laws_eqTripleS_ann N (theCode Try.f30) [1, 1, 0, 1, 0] (retK tab (T_laws_eqTripleS_sg N) Try.f30.results.toList some)))) := by kernel_rfl
  rw [h]
  (try simp only [T_laws_eqTripleS_lp0_eq, T_laws_eqTripleS_c1, T_laws_eqTripleS_c2]) <;> rfl

theorem T_laws_eqTripleS_ok (N : Nat) : chkBody Try.f30 (T_laws_eqTripleS_sg N).ps = true := by kernel_rfl

theorem T_laws_eqTripleS_callable : Callable Try.prog 30 := callable_of Try.func30 (show chkFn Try.f30 = true by kernel_rfl)

theorem T_laws_eqTripleS_good (N : Nat) : Good Try.prog 30 (T_laws_eqTripleS_sg N) :=
  good_body mixedOk tabOk (ctx_cons (T_laws_eqTriple_good N) T_laws_eqTriple_callable ctx_nil) Try.func30 (T_laws_eqTripleS_ok N) (fun d _ h => ⟨N, (T_laws_eqTripleS_den N d.1 d.2.1).trans h⟩)

noncomputable def T_laws_eqIntS_sg (N : Nat) : Sig := Sig.of [.v (.slice (.int .i64)) false, .v (.slice (.int .i64)) false] [.v (.bool) false] (fun d => T_laws_eqIntS N d.1 d.2.1)

def T_laws_eqIntS_ann : Nat → List Ghost
  | 4 => [.canon [0, 1, 5, 14]]
  | 5 => [.canon [0, 1, 5]]
  | 6 => [.canon [0, 1, 5, 25]]
  | 7 => [.canon [4]]
  | 100004 => [.canon [0, 1, 5]]
  | _ => []

noncomputable def T_laws_eqIntS_ctx (N : Nat) : Ctx := []

def T_laws_eqIntS_lp0_sh (a3 : List Int) (b4 : List Int) (i5 : Int) : St := { env := [(0, .s (.one (.val (.slice (.int .i64)) (a3 : List Int)))), (1, .s (.one (.val (.slice (.int .i64)) (b4 : List Int)))), (5, .s (.one (.val (.int .i64) (i5 : Int))))], objs := [], nx := 0 }

def T_laws_eqIntS_lp0_e0 (a3 : List Int) (b4 : List Int) : St := { env := [(4, .s (.one (.val (.bool) (false : Bool))))], objs := [], nx := 0 }

def T_laws_eqIntS_lp0_e1 (a3 : List Int) (b4 : List Int) (i6 : Int) (t7 : Bool) : St := { env := [(0, .s (.one (.val (.slice (.int .i64)) (a3 : List Int)))), (1, .s (.one (.val (.slice (.int .i64)) (b4 : List Int)))), (5, .s (.one (.val (.int .i64) (i6 : Int)))), (14, .s (.one (.val (.bool) (t7 : Bool))))], objs := [], nx := 0 }

noncomputable def T_laws_eqIntS_lp0_m (N : Nat) {R : Type} (n : Nat) (st : St) (K : Ex → St → Option R) : Option R := loopN (roundG (T_laws_eqIntS_ann 100004) fun st k => sx tab (T_laws_eqIntS_ctx N) T_laws_eqIntS_ann N (nthLoop Try.f23 0) st k) n st K

theorem T_laws_eqIntS_lp0_step (N : Nat) {R : Type} (n : Nat) (K : Ex → St → Option R) (a3 : List Int) (b4 : List Int) (i5 : Int) :
    T_laws_eqIntS_lp0_m N (n + 1) (T_laws_eqIntS_lp0_sh a3 b4 i5) K =
    (bif decide (i5 < (ilen a3)) then
    (bif inb i5 (List.length a3) then
      (bif inb i5 (List.length b4) then
        (bif (List.getD a3 (Int.toNat i5) (0 : Int)) != (List.getD b4 (Int.toNat i5) (0 : Int)) then
          (K .ret (T_laws_eqIntS_lp0_e0 a3 b4))
          else
          (T_laws_eqIntS_lp0_m N n (T_laws_eqIntS_lp0_sh a3 b4 (iadd .i64 i5 (1 : Int))) K)) else none) else none)
    else
    (K (.exit 0) (T_laws_eqIntS_lp0_e1 a3 b4 i5 (decide (i5 < (ilen a3)))))) := by kernel_rfl

theorem T_laws_eqIntS_lp0_eq (N : Nat) {R : Type} (a3 : List Int) (b4 : List Int) (K : Ex → St → Option R) : ∀ (n : Nat) (i5 : Int), T_laws_eqIntS_lp0_m N n (T_laws_eqIntS_lp0_sh a3 b4 i5) K = T_laws_eqIntS_lp0 N a3 b4 (K .ret (T_laws_eqIntS_lp0_e0 a3 b4)) (fun i6 t7 => (K (.exit 0) (T_laws_eqIntS_lp0_e1 a3 b4 i6 t7))) n i5
  | 0, _ => rfl
  | n + 1, i5 => by rw [T_laws_eqIntS_lp0_step, T_laws_eqIntS_lp0]; (try simp only [T_laws_eqIntS_lp0_eq N a3 b4 K n])

theorem T_laws_eqIntS_c1 (N : Nat) (a1 : List Int) (b2 : List Int) :
    ((ctxK (R := ODen (T_laws_eqIntS_sg N).ps × RDen (T_laws_eqIntS_sg N).rs) tab (T_laws_eqIntS_ctx N) T_laws_eqIntS_ann N (theCode Try.f23) [1, 1, 0, 1, 0] (retK tab (T_laws_eqIntS_sg N) Try.f23.results.toList some)) .ret (T_laws_eqIntS_lp0_e0 a1 b2)) =
    (some (α := ODen (T_laws_eqIntS_sg N).ps × RDen (T_laws_eqIntS_sg N).rs) ((), (false, ()))) := by kernel_rfl

theorem T_laws_eqIntS_c2 (N : Nat) (a1 : List Int) (b2 : List Int) (i8 : Int) (t9 : Bool) :
    ((ctxK (R := ODen (T_laws_eqIntS_sg N).ps × RDen (T_laws_eqIntS_sg N).rs) tab (T_laws_eqIntS_ctx N) T_laws_eqIntS_ann N (theCode Try.f23) [1, 1, 0, 1, 0] (retK tab (T_laws_eqIntS_sg N) Try.f23.results.toList some)) (.exit 0) (T_laws_eqIntS_lp0_e1 a1 b2 i8 t9)) =
    (some (α := ODen (T_laws_eqIntS_sg N).ps × RDen (T_laws_eqIntS_sg N).rs) ((), (true, ()))) := by kernel_rfl

theorem T_laws_eqIntS_den (N : Nat) (a1 : List Int) (b2 : List Int) :
    den (R := ODen (T_laws_eqIntS_sg N).ps × RDen (T_laws_eqIntS_sg N).rs) tab (T_laws_eqIntS_ctx N) T_laws_eqIntS_ann N (T_laws_eqIntS_sg N) Try.f23 (a1, b2, ()) some =
    (bif (ilen a1) != (ilen b2) then
    (some (α := ODen (T_laws_eqIntS_sg N).ps × RDen (T_laws_eqIntS_sg N).rs) ((), (false, ())))
    else
    (T_laws_eqIntS_lp0 N a1 b2
      (some (α := ODen (T_laws_eqIntS_sg N).ps × RDen (T_laws_eqIntS_sg N).rs) ((), (false, ())))
      (fun i8 t9 =>
        (some (α := ODen (T_laws_eqIntS_sg N).ps × RDen (T_laws_eqIntS_sg N).rs) ((), (true, ()))))
       N (0 : Int))) := by
  have h : den (R := ODen (T_laws_eqIntS_sg N).ps × RDen (T_laws_eqIntS_sg N).rs) tab (T_laws_eqIntS_ctx N) T_laws_eqIntS_ann N (T_laws_eqIntS_sg N) Try.f23 (a1, b2, ()) some =
    (bif (ilen a1) != (ilen b2) then
    (some (α := ODen (T_laws_eqIntS_sg N).ps × RDen (T_laws_eqIntS_sg N).rs) ((), (false, ())))
    else
    (T_laws_eqIntS_lp0_m N N (T_laws_eqIntS_lp0_sh a1 b2 (0 : Int)) (ctxK (R := ODen (T_laws_eqIntS_sg N).ps × RDen (T_laws_eqIntS_sg N).rs) tab (T_laws_eqIntS_ctx N) T_laws_eqIntS_ann N (theCode Try.f23) [1, 1, 0, 1, 0] (retK tab (T_laws_eqIntS_sg N) Try.f23.results.toList some)))) := by kernel_rfl
  rw [h]
  (try simp only [T_laws_eqIntS_lp0_eq, T_laws_eqIntS_c1, T_laws_eqIntS_c2]) <;> rfl

theorem T_laws_eqIntS_ok (N : Nat) : chkBody Try.f23 (T_laws_eqIntS_sg N).ps = true := by kernel_rfl

theorem T_laws_eqIntS_callable : Callable Try.prog 23 := callable_of Try.func23 (show chkFn Try.f23 = true by kernel_rfl)

theorem T_laws_eqIntS_good (N : Nat) : Good Try.prog 23 (T_laws_eqIntS_sg N) :=
  good_body mixedOk tabOk ctx_nil Try.func23 (T_laws_eqIntS_ok N) (fun d _ h => ⟨N, (T_laws_eqIntS_den N d.1 d.2.1).trans h⟩)

noncomputable def T_laws_markTripleS_sg (N : Nat) : Sig := Sig.of [.mut (.prod (.int .i64) (.prod (.int .i64) (.int .i64))), .v (.int .i64) false] [.v (.int .i64) false] (fun d => T_laws_markTripleS N d.1 d.2.1)

def T_laws_markTripleS_ann : Nat → List Ghost
  | 2 => [.canon [0, 1, 5, 9]]
  | 3 => [.canon [0, 1, 5]]
  | 4 => [.canon [0, 1, 5]]
  | 5 => [.canon [0, 1, 5]]
  | 6 => [.canon [0, 1, 5]]
  | 7 => [.canon [0, 1, 5]]
  | 8 => [.canon [0, 1, 5]]
  | 9 => [.canon [0, 1, 5]]
  | 100002 => [.canon [0, 1, 5]]
  | _ => []

noncomputable def T_laws_markTripleS_ctx (N : Nat) : Ctx := []

def T_laws_markTripleS_lp0_sh (k3 : Int) (i4 : Int) (l5 : List (Int × Int × Int)) : St := { env := [(0, .s (.one (.own 0))), (1, .s (.one (.val (.int .i64) (k3 : Int)))), (5, .s (.one (.val (.int .i64) (i4 : Int))))], objs := [(0, .arr (.prod (.int .i64) (.prod (.int .i64) (.int .i64))) (l5 : List (Int × Int × Int)))], nx := 1 }

def T_laws_markTripleS_lp0_e0 (k8 : Int) (i9 : Int) (t10 : Bool) (l11 : List (Int × Int × Int)) : St := { env := [(0, .s (.one (.own 0))), (1, .s (.one (.val (.int .i64) (k8 : Int)))), (5, .s (.one (.val (.int .i64) (i9 : Int)))), (9, .s (.one (.val (.bool) (t10 : Bool))))], objs := [(0, .arr (.prod (.int .i64) (.prod (.int .i64) (.int .i64))) (l11 : List (Int × Int × Int)))], nx := 1 }

noncomputable def T_laws_markTripleS_lp0_m (N : Nat) {R : Type} (n : Nat) (st : St) (K : Ex → St → Option R) : Option R := loopN (roundG (T_laws_markTripleS_ann 100002) fun st k => sx tab (T_laws_markTripleS_ctx N) T_laws_markTripleS_ann N (nthLoop Try.f31 0) st k) n st K

theorem T_laws_markTripleS_lp0_step (N : Nat) {R : Type} (n : Nat) (K : Ex → St → Option R) (k3 : Int) (i4 : Int) (l5 : List (Int × Int × Int)) :
    T_laws_markTripleS_lp0_m N (n + 1) (T_laws_markTripleS_lp0_sh k3 i4 l5) K =
    (bif decide (i4 < (ilen l5)) then
    (bif inb i4 (List.length l5) then
      (bif inb i4 (List.length (List.set l5 (Int.toNat i4) (k3, (List.getD l5 (Int.toNat i4) ((0 : Int), ((0 : Int), (0 : Int)))).2))) then
        (share (List.set l5 (Int.toNat i4) (k3, (List.getD l5 (Int.toNat i4) ((0 : Int), ((0 : Int), (0 : Int)))).2)) fun s12 =>
          (bif inb i4 (List.length (List.set s12 (Int.toNat i4) ((List.getD s12 (Int.toNat i4) ((0 : Int), ((0 : Int), (0 : Int)))).1, (iadd .i64 k3 (1 : Int), (List.getD s12 (Int.toNat i4) ((0 : Int), ((0 : Int), (0 : Int)))).2.2)))) then
            (share (List.set s12 (Int.toNat i4) ((List.getD s12 (Int.toNat i4) ((0 : Int), ((0 : Int), (0 : Int)))).1, (iadd .i64 k3 (1 : Int), (List.getD s12 (Int.toNat i4) ((0 : Int), ((0 : Int), (0 : Int)))).2.2))) fun s13 =>
              (T_laws_markTripleS_lp0_m N n (T_laws_markTripleS_lp0_sh (iadd .i64 (iadd .i64 (iadd .i64 k3 (1 : Int)) (1 : Int)) (1 : Int)) (iadd .i64 i4 (1 : Int)) (List.set s13 (Int.toNat i4) ((List.getD s13 (Int.toNat i4) ((0 : Int), ((0 : Int), (0 : Int)))).1, ((List.getD s13 (Int.toNat i4) ((0 : Int), ((0 : Int), (0 : Int)))).2.1, iadd .i64 (iadd .i64 k3 (1 : Int)) (1 : Int))))) K)) else none)) else none) else none)
    else
    (K (.exit 0) (T_laws_markTripleS_lp0_e0 k3 i4 (decide (i4 < (ilen l5))) l5))) := by kernel_rfl

theorem T_laws_markTripleS_lp0_eq (N : Nat) {R : Type} (K : Ex → St → Option R) : ∀ (n : Nat) (k3 : Int) (i4 : Int) (l5 : List (Int × Int × Int)), T_laws_markTripleS_lp0_m N n (T_laws_markTripleS_lp0_sh k3 i4 l5) K = T_laws_markTripleS_lp0 N (fun k8 i9 t10 l11 => (K (.exit 0) (T_laws_markTripleS_lp0_e0 k8 i9 t10 l11))) n k3 i4 l5
  | 0, _, _, _ => rfl
  | n + 1, k3, i4, l5 => by rw [T_laws_markTripleS_lp0_step, T_laws_markTripleS_lp0]; (try simp only [T_laws_markTripleS_lp0_eq N K n])

theorem T_laws_markTripleS_c1 (N : Nat) (k14 : Int) (i15 : Int) (t16 : Bool) (l17 : List (Int × Int × Int)) :
    ((ctxK (R := ODen (T_laws_markTripleS_sg N).ps × RDen (T_laws_markTripleS_sg N).rs) tab (T_laws_markTripleS_ctx N) T_laws_markTripleS_ann N (theCode Try.f31) [1, 0, 1, 0] (retK tab (T_laws_markTripleS_sg N) Try.f31.results.toList some)) (.exit 0) (T_laws_markTripleS_lp0_e0 k14 i15 t16 l17)) =
    (some (α := ODen (T_laws_markTripleS_sg N).ps × RDen (T_laws_markTripleS_sg N).rs) ((l17, ()), (k14, ()))) := by kernel_rfl

theorem T_laws_markTripleS_den (N : Nat) (a1 : List (Int × Int × Int)) (k2 : Int) :
    den (R := ODen (T_laws_markTripleS_sg N).ps × RDen (T_laws_markTripleS_sg N).rs) tab (T_laws_markTripleS_ctx N) T_laws_markTripleS_ann N (T_laws_markTripleS_sg N) Try.f31 (a1, k2, ()) some =
    (T_laws_markTripleS_lp0 N
    (fun k14 i15 t16 l17 =>
      (some (α := ODen (T_laws_markTripleS_sg N).ps × RDen (T_laws_markTripleS_sg N).rs) ((l17, ()), (k14, ()))))
     N k2 (0 : Int) a1) := by
  have h : den (R := ODen (T_laws_markTripleS_sg N).ps × RDen (T_laws_markTripleS_sg N).rs) tab (T_laws_markTripleS_ctx N) T_laws_markTripleS_ann N (T_laws_markTripleS_sg N) Try.f31 (a1, k2, ()) some =
    (T_laws_markTripleS_lp0_m N N (T_laws_markTripleS_lp0_sh k2 (0 : Int) a1) (ctxK (R := ODen (T_laws_markTripleS_sg N).ps × RDen (T_laws_markTripleS_sg N).rs) tab (T_laws_markTripleS_ctx N) T_laws_markTripleS_ann N (theCode Try.f31) [1, 0, 1, 0] (retK tab (T_laws_markTripleS_sg N) Try.f31.results.toList some))) := by kernel_rfl
  rw [h]
  (try simp only [T_laws_markTripleS_lp0_eq, T_laws_markTripleS_c1]) <;> rfl

theorem T_laws_markTripleS_ok (N : Nat) : chkBody Try.f31 (T_laws_markTripleS_sg N).ps = true := by kernel_rfl

theorem T_laws_markTripleS_callable : Callable Try.prog 31 := callable_of Try.func31 (show chkFn Try.f31 = true by kernel_rfl)

theorem T_laws_markTripleS_good (N : Nat) : Good Try.prog 31 (T_laws_markTripleS_sg N) :=
  good_body mixedOk tabOk ctx_nil Try.func31 (T_laws_markTripleS_ok N) (fun d _ h => ⟨N, (T_laws_markTripleS_den N d.1 d.2.1).trans h⟩)

noncomputable def T_laws_markIntS_sg (N : Nat) : Sig := Sig.of [.mut (.int .i64), .v (.int .i64) false] [.v (.int .i64) false] (fun d => T_laws_markIntS N d.1 d.2.1)

def T_laws_markIntS_ann : Nat → List Ghost
  | 2 => [.canon [0, 1, 5, 9]]
  | 3 => [.canon [0, 1, 5]]
  | 4 => [.canon [0, 1, 5]]
  | 5 => [.canon [0, 1, 5]]
  | 100002 => [.canon [0, 1, 5]]
  | _ => []

noncomputable def T_laws_markIntS_ctx (N : Nat) : Ctx := []

def T_laws_markIntS_lp0_sh (k3 : Int) (i4 : Int) (l5 : List Int) : St := { env := [(0, .s (.one (.own 0))), (1, .s (.one (.val (.int .i64) (k3 : Int)))), (5, .s (.one (.val (.int .i64) (i4 : Int))))], objs := [(0, .arr (.int .i64) (l5 : List Int))], nx := 1 }

def T_laws_markIntS_lp0_e0 (k6 : Int) (i7 : Int) (t8 : Bool) (l9 : List Int) : St := { env := [(0, .s (.one (.own 0))), (1, .s (.one (.val (.int .i64) (k6 : Int)))), (5, .s (.one (.val (.int .i64) (i7 : Int)))), (9, .s (.one (.val (.bool) (t8 : Bool))))], objs := [(0, .arr (.int .i64) (l9 : List Int))], nx := 1 }

noncomputable def T_laws_markIntS_lp0_m (N : Nat) {R : Type} (n : Nat) (st : St) (K : Ex → St → Option R) : Option R := loopN (roundG (T_laws_markIntS_ann 100002) fun st k => sx tab (T_laws_markIntS_ctx N) T_laws_markIntS_ann N (nthLoop Try.f32 0) st k) n st K

theorem T_laws_markIntS_lp0_step (N : Nat) {R : Type} (n : Nat) (K : Ex → St → Option R) (k3 : Int) (i4 : Int) (l5 : List Int) :
    T_laws_markIntS_lp0_m N (n + 1) (T_laws_markIntS_lp0_sh k3 i4 l5) K =
    (bif decide (i4 < (ilen l5)) then
    (bif inb i4 (List.length l5) then
      (T_laws_markIntS_lp0_m N n (T_laws_markIntS_lp0_sh (iadd .i64 k3 (1 : Int)) (iadd .i64 i4 (1 : Int)) (List.set l5 (Int.toNat i4) k3)) K) else none)
    else
    (K (.exit 0) (T_laws_markIntS_lp0_e0 k3 i4 (decide (i4 < (ilen l5))) l5))) := by kernel_rfl

theorem T_laws_markIntS_lp0_eq (N : Nat) {R : Type} (K : Ex → St → Option R) : ∀ (n : Nat) (k3 : Int) (i4 : Int) (l5 : List Int), T_laws_markIntS_lp0_m N n (T_laws_markIntS_lp0_sh k3 i4 l5) K = T_laws_markIntS_lp0 N (fun k6 i7 t8 l9 => (K (.exit 0) (T_laws_markIntS_lp0_e0 k6 i7 t8 l9))) n k3 i4 l5
  | 0, _, _, _ => rfl
  | n + 1, k3, i4, l5 => by rw [T_laws_markIntS_lp0_step, T_laws_markIntS_lp0]; (try simp only [T_laws_markIntS_lp0_eq N K n])

theorem T_laws_markIntS_c1 (N : Nat) (k10 : Int) (i11 : Int) (t12 : Bool) (l13 : List Int) :
    ((ctxK (R := ODen (T_laws_markIntS_sg N).ps × RDen (T_laws_markIntS_sg N).rs) tab (T_laws_markIntS_ctx N) T_laws_markIntS_ann N (theCode Try.f32) [1, 0, 1, 0] (retK tab (T_laws_markIntS_sg N) Try.f32.results.toList some)) (.exit 0) (T_laws_markIntS_lp0_e0 k10 i11 t12 l13)) =
    (some (α := ODen (T_laws_markIntS_sg N).ps × RDen (T_laws_markIntS_sg N).rs) ((l13, ()), (k10, ()))) := by kernel_rfl

theorem T_laws_markIntS_den (N : Nat) (a1 : List Int) (k2 : Int) :
    den (R := ODen (T_laws_markIntS_sg N).ps × RDen (T_laws_markIntS_sg N).rs) tab (T_laws_markIntS_ctx N) T_laws_markIntS_ann N (T_laws_markIntS_sg N) Try.f32 (a1, k2, ()) some =
    (T_laws_markIntS_lp0 N
    (fun k10 i11 t12 l13 =>
      (some (α := ODen (T_laws_markIntS_sg N).ps × RDen (T_laws_markIntS_sg N).rs) ((l13, ()), (k10, ()))))
     N k2 (0 : Int) a1) := by
  have h : den (R := ODen (T_laws_markIntS_sg N).ps × RDen (T_laws_markIntS_sg N).rs) tab (T_laws_markIntS_ctx N) T_laws_markIntS_ann N (T_laws_markIntS_sg N) Try.f32 (a1, k2, ()) some =
    (T_laws_markIntS_lp0_m N N (T_laws_markIntS_lp0_sh k2 (0 : Int) a1) (ctxK (R := ODen (T_laws_markIntS_sg N).ps × RDen (T_laws_markIntS_sg N).rs) tab (T_laws_markIntS_ctx N) T_laws_markIntS_ann N (theCode Try.f32) [1, 0, 1, 0] (retK tab (T_laws_markIntS_sg N) Try.f32.results.toList some))) := by kernel_rfl
  rw [h]
  (try simp only [T_laws_markIntS_lp0_eq, T_laws_markIntS_c1]) <;> rfl

theorem T_laws_markIntS_ok (N : Nat) : chkBody Try.f32 (T_laws_markIntS_sg N).ps = true := by kernel_rfl

theorem T_laws_markIntS_callable : Callable Try.prog 32 := callable_of Try.func32 (show chkFn Try.f32 = true by kernel_rfl)

theorem T_laws_markIntS_good (N : Nat) : Good Try.prog 32 (T_laws_markIntS_sg N) :=
  good_body mixedOk tabOk ctx_nil Try.func32 (T_laws_markIntS_ok N) (fun d _ h => ⟨N, (T_laws_markIntS_den N d.1 d.2.1).trans h⟩)

noncomputable def T_laws_markSeqReaderS_sg (N : Nat) : Sig := Sig.of [.mut (.prod (.int .i64) (.prod (.int .i64) (.prod (.prod (.int .i64) (.prod (.int .i64) (.int .i64))) (.int .i64)))), .v (.int .i64) false] [.v (.int .i64) false] (fun d => T_laws_markSeqReaderS N d.1 d.2.1)

def T_laws_markSeqReaderS_ann : Nat → List Ghost
  | 2 => [.canon [0, 1, 5, 9]]
  | 3 => [.canon [0, 1, 5]]
  | 4 => [.canon [0, 1, 5]]
  | 5 => [.canon [0, 1, 5]]
  | 6 => [.canon [0, 1, 5]]
  | 7 => [.canon [0, 1, 5]]
  | 8 => [.canon [0, 1, 5]]
  | 9 => [.canon [0, 1, 5]]
  | 10 => [.canon [0, 1, 5]]
  | 11 => [.canon [0, 1, 5]]
  | 12 => [.canon [0, 1, 5]]
  | 13 => [.canon [0, 1, 5]]
  | 14 => [.canon [0, 1, 5]]
  | 15 => [.canon [0, 1, 5]]
  | 100002 => [.canon [0, 1, 5]]
  | _ => []

noncomputable def T_laws_markSeqReaderS_ctx (N : Nat) : Ctx := []

def T_laws_markSeqReaderS_lp0_sh (k3 : Int) (i4 : Int) (l5 : List (Int × Int × (Int × Int × Int) × Int)) : St := { env := [(0, .s (.one (.own 0))), (1, .s (.one (.val (.int .i64) (k3 : Int)))), (5, .s (.one (.val (.int .i64) (i4 : Int))))], objs := [(0, .arr (.prod (.int .i64) (.prod (.int .i64) (.prod (.prod (.int .i64) (.prod (.int .i64) (.int .i64))) (.int .i64)))) (l5 : List (Int × Int × (Int × Int × Int) × Int)))], nx := 1 }

def T_laws_markSeqReaderS_lp0_e0 (k11 : Int) (i12 : Int) (t13 : Bool) (l14 : List (Int × Int × (Int × Int × Int) × Int)) : St := { env := [(0, .s (.one (.own 0))), (1, .s (.one (.val (.int .i64) (k11 : Int)))), (5, .s (.one (.val (.int .i64) (i12 : Int)))), (9, .s (.one (.val (.bool) (t13 : Bool))))], objs := [(0, .arr (.prod (.int .i64) (.prod (.int .i64) (.prod (.prod (.int .i64) (.prod (.int .i64) (.int .i64))) (.int .i64)))) (l14 : List (Int × Int × (Int × Int × Int) × Int)))], nx := 1 }

noncomputable def T_laws_markSeqReaderS_lp0_m (N : Nat) {R : Type} (n : Nat) (st : St) (K : Ex → St → Option R) : Option R := loopN (roundG (T_laws_markSeqReaderS_ann 100002) fun st k => sx tab (T_laws_markSeqReaderS_ctx N) T_laws_markSeqReaderS_ann N (nthLoop Try.f86 0) st k) n st K

theorem T_laws_markSeqReaderS_lp0_step (N : Nat) {R : Type} (n : Nat) (K : Ex → St → Option R) (k3 : Int) (i4 : Int) (l5 : List (Int × Int × (Int × Int × Int) × Int)) :
    T_laws_markSeqReaderS_lp0_m N (n + 1) (T_laws_markSeqReaderS_lp0_sh k3 i4 l5) K =
    (bif decide (i4 < (ilen l5)) then
    (bif inb i4 (List.length l5) then
      (bif inb i4 (List.length (List.set l5 (Int.toNat i4) (k3, (List.getD l5 (Int.toNat i4) ((0 : Int), ((0 : Int), (((0 : Int), ((0 : Int), (0 : Int))), (0 : Int))))).2))) then
        (share (List.set l5 (Int.toNat i4) (k3, (List.getD l5 (Int.toNat i4) ((0 : Int), ((0 : Int), (((0 : Int), ((0 : Int), (0 : Int))), (0 : Int))))).2)) fun s15 =>
          (bif inb i4 (List.length (List.set s15 (Int.toNat i4) ((List.getD s15 (Int.toNat i4) ((0 : Int), ((0 : Int), (((0 : Int), ((0 : Int), (0 : Int))), (0 : Int))))).1, (iadd .i64 k3 (1 : Int), (List.getD s15 (Int.toNat i4) ((0 : Int), ((0 : Int), (((0 : Int), ((0 : Int), (0 : Int))), (0 : Int))))).2.2)))) then
            (share (List.set s15 (Int.toNat i4) ((List.getD s15 (Int.toNat i4) ((0 : Int), ((0 : Int), (((0 : Int), ((0 : Int), (0 : Int))), (0 : Int))))).1, (iadd .i64 k3 (1 : Int), (List.getD s15 (Int.toNat i4) ((0 : Int), ((0 : Int), (((0 : Int), ((0 : Int), (0 : Int))), (0 : Int))))).2.2))) fun s16 =>
              (bif inb i4 (List.length (List.set s16 (Int.toNat i4) ((List.getD s16 (Int.toNat i4) ((0 : Int), ((0 : Int), (((0 : Int), ((0 : Int), (0 : Int))), (0 : Int))))).1, ((List.getD s16 (Int.toNat i4) ((0 : Int), ((0 : Int), (((0 : Int), ((0 : Int), (0 : Int))), (0 : Int))))).2.1, ((iadd .i64 (iadd .i64 k3 (1 : Int)) (1 : Int), (List.getD s16 (Int.toNat i4) ((0 : Int), ((0 : Int), (((0 : Int), ((0 : Int), (0 : Int))), (0 : Int))))).2.2.1.2), (List.getD s16 (Int.toNat i4) ((0 : Int), ((0 : Int), (((0 : Int), ((0 : Int), (0 : Int))), (0 : Int))))).2.2.2))))) then
                (share (List.set s16 (Int.toNat i4) ((List.getD s16 (Int.toNat i4) ((0 : Int), ((0 : Int), (((0 : Int), ((0 : Int), (0 : Int))), (0 : Int))))).1, ((List.getD s16 (Int.toNat i4) ((0 : Int), ((0 : Int), (((0 : Int), ((0 : Int), (0 : Int))), (0 : Int))))).2.1, ((iadd .i64 (iadd .i64 k3 (1 : Int)) (1 : Int), (List.getD s16 (Int.toNat i4) ((0 : Int), ((0 : Int), (((0 : Int), ((0 : Int), (0 : Int))), (0 : Int))))).2.2.1.2), (List.getD s16 (Int.toNat i4) ((0 : Int), ((0 : Int), (((0 : Int), ((0 : Int), (0 : Int))), (0 : Int))))).2.2.2)))) fun s17 =>
                  (bif inb i4 (List.length (List.set s17 (Int.toNat i4) ((List.getD s17 (Int.toNat i4) ((0 : Int), ((0 : Int), (((0 : Int), ((0 : Int), (0 : Int))), (0 : Int))))).1, ((List.getD s17 (Int.toNat i4) ((0 : Int), ((0 : Int), (((0 : Int), ((0 : Int), (0 : Int))), (0 : Int))))).2.1, (((List.getD s17 (Int.toNat i4) ((0 : Int), ((0 : Int), (((0 : Int), ((0 : Int), (0 : Int))), (0 : Int))))).2.2.1.1, (iadd .i64 (iadd .i64 (iadd .i64 k3 (1 : Int)) (1 : Int)) (1 : Int), (List.getD s17 (Int.toNat i4) ((0 : Int), ((0 : Int), (((0 : Int), ((0 : Int), (0 : Int))), (0 : Int))))).2.2.1.2.2)), (List.getD s17 (Int.toNat i4) ((0 : Int), ((0 : Int), (((0 : Int), ((0 : Int), (0 : Int))), (0 : Int))))).2.2.2))))) then
                    (share (List.set s17 (Int.toNat i4) ((List.getD s17 (Int.toNat i4) ((0 : Int), ((0 : Int), (((0 : Int), ((0 : Int), (0 : Int))), (0 : Int))))).1, ((List.getD s17 (Int.toNat i4) ((0 : Int), ((0 : Int), (((0 : Int), ((0 : Int), (0 : Int))), (0 : Int))))).2.1, (((List.getD s17 (Int.toNat i4) ((0 : Int), ((0 : Int), (((0 : Int), ((0 : Int), (0 : Int))), (0 : Int))))).2.2.1.1, (iadd .i64 (iadd .i64 (iadd .i64 k3 (1 : Int)) (1 : Int)) (1 : Int), (List.getD s17 (Int.toNat i4) ((0 : Int), ((0 : Int), (((0 : Int), ((0 : Int), (0 : Int))), (0 : Int))))).2.2.1.2.2)), (List.getD s17 (Int.toNat i4) ((0 : Int), ((0 : Int), (((0 : Int), ((0 : Int), (0 : Int))), (0 : Int))))).2.2.2)))) fun s18 =>
                      (bif inb i4 (List.length (List.set s18 (Int.toNat i4) ((List.getD s18 (Int.toNat i4) ((0 : Int), ((0 : Int), (((0 : Int), ((0 : Int), (0 : Int))), (0 : Int))))).1, ((List.getD s18 (Int.toNat i4) ((0 : Int), ((0 : Int), (((0 : Int), ((0 : Int), (0 : Int))), (0 : Int))))).2.1, (((List.getD s18 (Int.toNat i4) ((0 : Int), ((0 : Int), (((0 : Int), ((0 : Int), (0 : Int))), (0 : Int))))).2.2.1.1, ((List.getD s18 (Int.toNat i4) ((0 : Int), ((0 : Int), (((0 : Int), ((0 : Int), (0 : Int))), (0 : Int))))).2.2.1.2.1, iadd .i64 (iadd .i64 (iadd .i64 (iadd .i64 k3 (1 : Int)) (1 : Int)) (1 : Int)) (1 : Int))), (List.getD s18 (Int.toNat i4) ((0 : Int), ((0 : Int), (((0 : Int), ((0 : Int), (0 : Int))), (0 : Int))))).2.2.2))))) then
                        (share (List.set s18 (Int.toNat i4) ((List.getD s18 (Int.toNat i4) ((0 : Int), ((0 : Int), (((0 : Int), ((0 : Int), (0 : Int))), (0 : Int))))).1, ((List.getD s18 (Int.toNat i4) ((0 : Int), ((0 : Int), (((0 : Int), ((0 : Int), (0 : Int))), (0 : Int))))).2.1, (((List.getD s18 (Int.toNat i4) ((0 : Int), ((0 : Int), (((0 : Int), ((0 : Int), (0 : Int))), (0 : Int))))).2.2.1.1, ((List.getD s18 (Int.toNat i4) ((0 : Int), ((0 : Int), (((0 : Int), ((0 : Int), (0 : Int))), (0 : Int))))).2.2.1.2.1, iadd .i64 (iadd .i64 (iadd .i64 (iadd .i64 k3 (1 : Int)) (1 : Int)) (1 : Int)) (1 : Int))), (List.getD s18 (Int.toNat i4) ((0 : Int), ((0 : Int), (((0 : Int), ((0 : Int), (0 : Int))), (0 : Int))))).2.2.2)))) fun s19 =>
                          (T_laws_markSeqReaderS_lp0_m N n (T_laws_markSeqReaderS_lp0_sh (iadd .i64 (iadd .i64 (iadd .i64 (iadd .i64 (iadd .i64 (iadd .i64 k3 (1 : Int)) (1 : Int)) (1 : Int)) (1 : Int)) (1 : Int)) (1 : Int)) (iadd .i64 i4 (1 : Int)) (List.set s19 (Int.toNat i4) ((List.getD s19 (Int.toNat i4) ((0 : Int), ((0 : Int), (((0 : Int), ((0 : Int), (0 : Int))), (0 : Int))))).1, ((List.getD s19 (Int.toNat i4) ((0 : Int), ((0 : Int), (((0 : Int), ((0 : Int), (0 : Int))), (0 : Int))))).2.1, ((List.getD s19 (Int.toNat i4) ((0 : Int), ((0 : Int), (((0 : Int), ((0 : Int), (0 : Int))), (0 : Int))))).2.2.1, iadd .i64 (iadd .i64 (iadd .i64 (iadd .i64 (iadd .i64 k3 (1 : Int)) (1 : Int)) (1 : Int)) (1 : Int)) (1 : Int)))))) K)) else none)) else none)) else none)) else none)) else none) else none)
    else
    (K (.exit 0) (T_laws_markSeqReaderS_lp0_e0 k3 i4 (decide (i4 < (ilen l5))) l5))) := by kernel_rfl

theorem T_laws_markSeqReaderS_lp0_eq (N : Nat) {R : Type} (K : Ex → St → Option R) : ∀ (n : Nat) (k3 : Int) (i4 : Int) (l5 : List (Int × Int × (Int × Int × Int) × Int)), T_laws_markSeqReaderS_lp0_m N n (T_laws_markSeqReaderS_lp0_sh k3 i4 l5) K = T_laws_markSeqReaderS_lp0 N (fun k11 i12 t13 l14 => (K (.exit 0) (T_laws_markSeqReaderS_lp0_e0 k11 i12 t13 l14))) n k3 i4 l5
  | 0, _, _, _ => rfl
  | n + 1, k3, i4, l5 => by rw [T_laws_markSeqReaderS_lp0_step, T_laws_markSeqReaderS_lp0]; (try simp only [T_laws_markSeqReaderS_lp0_eq N K n])

theorem T_laws_markSeqReaderS_c1 (N : Nat) (k20 : Int) (i21 : Int) (t22 : Bool) (l23 : List (Int × Int × (Int × Int × Int) × Int)) :
    ((ctxK (R := ODen (T_laws_markSeqReaderS_sg N).ps × RDen (T_laws_markSeqReaderS_sg N).rs) tab (T_laws_markSeqReaderS_ctx N) T_laws_markSeqReaderS_ann N (theCode Try.f86) [1, 0, 1, 0] (retK tab (T_laws_markSeqReaderS_sg N) Try.f86.results.toList some)) (.exit 0) (T_laws_markSeqReaderS_lp0_e0 k20 i21 t22 l23)) =
    (some (α := ODen (T_laws_markSeqReaderS_sg N).ps × RDen (T_laws_markSeqReaderS_sg N).rs) ((l23, ()), (k20, ()))) := by kernel_rfl

theorem T_laws_markSeqReaderS_den (N : Nat) (a1 : List (Int × Int × (Int × Int × Int) × Int)) (k2 : Int) :
    den (R := ODen (T_laws_markSeqReaderS_sg N).ps × RDen (T_laws_markSeqReaderS_sg N).rs) tab (T_laws_markSeqReaderS_ctx N) T_laws_markSeqReaderS_ann N (T_laws_markSeqReaderS_sg N) Try.f86 (a1, k2, ()) some =
    (T_laws_markSeqReaderS_lp0 N
    (fun k20 i21 t22 l23 =>
      (some (α := ODen (T_laws_markSeqReaderS_sg N).ps × RDen (T_laws_markSeqReaderS_sg N).rs) ((l23, ()), (k20, ()))))
     N k2 (0 : Int) a1) := by
  have h : den (R := ODen (T_laws_markSeqReaderS_sg N).ps × RDen (T_laws_markSeqReaderS_sg N).rs) tab (T_laws_markSeqReaderS_ctx N) T_laws_markSeqReaderS_ann N (T_laws_markSeqReaderS_sg N) Try.f86 (a1, k2, ()) some =
    (T_laws_markSeqReaderS_lp0_m N N (T_laws_markSeqReaderS_lp0_sh k2 (0 : Int) a1) (ctxK (R := ODen (T_laws_markSeqReaderS_sg N).ps × RDen (T_laws_markSeqReaderS_sg N).rs) tab (T_laws_markSeqReaderS_ctx N) T_laws_markSeqReaderS_ann N (theCode Try.f86) [1, 0, 1, 0] (retK tab (T_laws_markSeqReaderS_sg N) Try.f86.results.toList some))) := by kernel_rfl
  rw [h]
  (try simp only [T_laws_markSeqReaderS_lp0_eq, T_laws_markSeqReaderS_c1]) <;> rfl

theorem T_laws_markSeqReaderS_ok (N : Nat) : chkBody Try.f86 (T_laws_markSeqReaderS_sg N).ps = true := by kernel_rfl

theorem T_laws_markSeqReaderS_callable : Callable Try.prog 86 := callable_of Try.func86 (show chkFn Try.f86 = true by kernel_rfl)

theorem T_laws_markSeqReaderS_good (N : Nat) : Good Try.prog 86 (T_laws_markSeqReaderS_sg N) :=
  good_body mixedOk tabOk ctx_nil Try.func86 (T_laws_markSeqReaderS_ok N) (fun d _ h => ⟨N, (T_laws_markSeqReaderS_den N d.1 d.2.1).trans h⟩)

noncomputable def T_laws_markSeqReadS_sg (N : Nat) : Sig := Sig.of [.mut (.prod (.int .i64) (.prod (.int .i64) (.prod (.int .i64) (.prod (.int .i64) (.int .i64))))), .v (.int .i64) false] [.v (.int .i64) false] (fun d => T_laws_markSeqReadS N d.1 d.2.1)

def T_laws_markSeqReadS_ann : Nat → List Ghost
  | 2 => [.canon [0, 1, 5, 9]]
  | 3 => [.canon [0, 1, 5]]
  | 4 => [.canon [0, 1, 5]]
  | 5 => [.canon [0, 1, 5]]
  | 6 => [.canon [0, 1, 5]]
  | 7 => [.canon [0, 1, 5]]
  | 8 => [.canon [0, 1, 5]]
  | 9 => [.canon [0, 1, 5]]
  | 10 => [.canon [0, 1, 5]]
  | 11 => [.canon [0, 1, 5]]
  | 12 => [.canon [0, 1, 5]]
  | 13 => [.canon [0, 1, 5]]
  | 100002 => [.canon [0, 1, 5]]
  | _ => []

noncomputable def T_laws_markSeqReadS_ctx (N : Nat) : Ctx := []

def T_laws_markSeqReadS_lp0_sh (k3 : Int) (i4 : Int) (l5 : List (Int × Int × Int × Int × Int)) : St := { env := [(0, .s (.one (.own 0))), (1, .s (.one (.val (.int .i64) (k3 : Int)))), (5, .s (.one (.val (.int .i64) (i4 : Int))))], objs := [(0, .arr (.prod (.int .i64) (.prod (.int .i64) (.prod (.int .i64) (.prod (.int .i64) (.int .i64))))) (l5 : List (Int × Int × Int × Int × Int)))], nx := 1 }

def T_laws_markSeqReadS_lp0_e0 (k10 : Int) (i11 : Int) (t12 : Bool) (l13 : List (Int × Int × Int × Int × Int)) : St := { env := [(0, .s (.one (.own 0))), (1, .s (.one (.val (.int .i64) (k10 : Int)))), (5, .s (.one (.val (.int .i64) (i11 : Int)))), (9, .s (.one (.val (.bool) (t12 : Bool))))], objs := [(0, .arr (.prod (.int .i64) (.prod (.int .i64) (.prod (.int .i64) (.prod (.int .i64) (.int .i64))))) (l13 : List (Int × Int × Int × Int × Int)))], nx := 1 }

noncomputable def T_laws_markSeqReadS_lp0_m (N : Nat) {R : Type} (n : Nat) (st : St) (K : Ex → St → Option R) : Option R := loopN (roundG (T_laws_markSeqReadS_ann 100002) fun st k => sx tab (T_laws_markSeqReadS_ctx N) T_laws_markSeqReadS_ann N (nthLoop Try.f87 0) st k) n st K

theorem T_laws_markSeqReadS_lp0_step (N : Nat) {R : Type} (n : Nat) (K : Ex → St → Option R) (k3 : Int) (i4 : Int) (l5 : List (Int × Int × Int × Int × Int)) :
    T_laws_markSeqReadS_lp0_m N (n + 1) (T_laws_markSeqReadS_lp0_sh k3 i4 l5) K =
    (bif decide (i4 < (ilen l5)) then
    (bif inb i4 (List.length l5) then
      (bif inb i4 (List.length (List.set l5 (Int.toNat i4) (k3, (List.getD l5 (Int.toNat i4) ((0 : Int), ((0 : Int), ((0 : Int), ((0 : Int), (0 : Int)))))).2))) then
        (share (List.set l5 (Int.toNat i4) (k3, (List.getD l5 (Int.toNat i4) ((0 : Int), ((0 : Int), ((0 : Int), ((0 : Int), (0 : Int)))))).2)) fun s14 =>
          (bif inb i4 (List.length (List.set s14 (Int.toNat i4) ((List.getD s14 (Int.toNat i4) ((0 : Int), ((0 : Int), ((0 : Int), ((0 : Int), (0 : Int)))))).1, (iadd .i64 k3 (1 : Int), (List.getD s14 (Int.toNat i4) ((0 : Int), ((0 : Int), ((0 : Int), ((0 : Int), (0 : Int)))))).2.2)))) then
            (share (List.set s14 (Int.toNat i4) ((List.getD s14 (Int.toNat i4) ((0 : Int), ((0 : Int), ((0 : Int), ((0 : Int), (0 : Int)))))).1, (iadd .i64 k3 (1 : Int), (List.getD s14 (Int.toNat i4) ((0 : Int), ((0 : Int), ((0 : Int), ((0 : Int), (0 : Int)))))).2.2))) fun s15 =>
              (bif inb i4 (List.length (List.set s15 (Int.toNat i4) ((List.getD s15 (Int.toNat i4) ((0 : Int), ((0 : Int), ((0 : Int), ((0 : Int), (0 : Int)))))).1, ((List.getD s15 (Int.toNat i4) ((0 : Int), ((0 : Int), ((0 : Int), ((0 : Int), (0 : Int)))))).2.1, (iadd .i64 (iadd .i64 k3 (1 : Int)) (1 : Int), (List.getD s15 (Int.toNat i4) ((0 : Int), ((0 : Int), ((0 : Int), ((0 : Int), (0 : Int)))))).2.2.2))))) then
                (share (List.set s15 (Int.toNat i4) ((List.getD s15 (Int.toNat i4) ((0 : Int), ((0 : Int), ((0 : Int), ((0 : Int), (0 : Int)))))).1, ((List.getD s15 (Int.toNat i4) ((0 : Int), ((0 : Int), ((0 : Int), ((0 : Int), (0 : Int)))))).2.1, (iadd .i64 (iadd .i64 k3 (1 : Int)) (1 : Int), (List.getD s15 (Int.toNat i4) ((0 : Int), ((0 : Int), ((0 : Int), ((0 : Int), (0 : Int)))))).2.2.2)))) fun s16 =>
                  (bif inb i4 (List.length (List.set s16 (Int.toNat i4) ((List.getD s16 (Int.toNat i4) ((0 : Int), ((0 : Int), ((0 : Int), ((0 : Int), (0 : Int)))))).1, ((List.getD s16 (Int.toNat i4) ((0 : Int), ((0 : Int), ((0 : Int), ((0 : Int), (0 : Int)))))).2.1, ((List.getD s16 (Int.toNat i4) ((0 : Int), ((0 : Int), ((0 : Int), ((0 : Int), (0 : Int)))))).2.2.1, (iadd .i64 (iadd .i64 (iadd .i64 k3 (1 : Int)) (1 : Int)) (1 : Int), (List.getD s16 (Int.toNat i4) ((0 : Int), ((0 : Int), ((0 : Int), ((0 : Int), (0 : Int)))))).2.2.2.2)))))) then
                    (share (List.set s16 (Int.toNat i4) ((List.getD s16 (Int.toNat i4) ((0 : Int), ((0 : Int), ((0 : Int), ((0 : Int), (0 : Int)))))).1, ((List.getD s16 (Int.toNat i4) ((0 : Int), ((0 : Int), ((0 : Int), ((0 : Int), (0 : Int)))))).2.1, ((List.getD s16 (Int.toNat i4) ((0 : Int), ((0 : Int), ((0 : Int), ((0 : Int), (0 : Int)))))).2.2.1, (iadd .i64 (iadd .i64 (iadd .i64 k3 (1 : Int)) (1 : Int)) (1 : Int), (List.getD s16 (Int.toNat i4) ((0 : Int), ((0 : Int), ((0 : Int), ((0 : Int), (0 : Int)))))).2.2.2.2))))) fun s17 =>
                      (T_laws_markSeqReadS_lp0_m N n (T_laws_markSeqReadS_lp0_sh (iadd .i64 (iadd .i64 (iadd .i64 (iadd .i64 (iadd .i64 k3 (1 : Int)) (1 : Int)) (1 : Int)) (1 : Int)) (1 : Int)) (iadd .i64 i4 (1 : Int)) (List.set s17 (Int.toNat i4) ((List.getD s17 (Int.toNat i4) ((0 : Int), ((0 : Int), ((0 : Int), ((0 : Int), (0 : Int)))))).1, ((List.getD s17 (Int.toNat i4) ((0 : Int), ((0 : Int), ((0 : Int), ((0 : Int), (0 : Int)))))).2.1, ((List.getD s17 (Int.toNat i4) ((0 : Int), ((0 : Int), ((0 : Int), ((0 : Int), (0 : Int)))))).2.2.1, ((List.getD s17 (Int.toNat i4) ((0 : Int), ((0 : Int), ((0 : Int), ((0 : Int), (0 : Int)))))).2.2.2.1, iadd .i64 (iadd .i64 (iadd .i64 (iadd .i64 k3 (1 : Int)) (1 : Int)) (1 : Int)) (1 : Int))))))) K)) else none)) else none)) else none)) else none) else none)
    else
    (K (.exit 0) (T_laws_markSeqReadS_lp0_e0 k3 i4 (decide (i4 < (ilen l5))) l5))) := by kernel_rfl

theorem T_laws_markSeqReadS_lp0_eq (N : Nat) {R : Type} (K : Ex → St → Option R) : ∀ (n : Nat) (k3 : Int) (i4 : Int) (l5 : List (Int × Int × Int × Int × Int)), T_laws_markSeqReadS_lp0_m N n (T_laws_markSeqReadS_lp0_sh k3 i4 l5) K = T_laws_markSeqReadS_lp0 N (fun k10 i11 t12 l13 => (K (.exit 0) (T_laws_markSeqReadS_lp0_e0 k10 i11 t12 l13))) n k3 i4 l5
  | 0, _, _, _ => rfl
  | n + 1, k3, i4, l5 => by rw [T_laws_markSeqReadS_lp0_step, T_laws_markSeqReadS_lp0]; (try simp only [T_laws_markSeqReadS_lp0_eq N K n])

theorem T_laws_markSeqReadS_c1 (N : Nat) (k18 : Int) (i19 : Int) (t20 : Bool) (l21 : List (Int × Int × Int × Int × Int)) :
    ((ctxK (R := ODen (T_laws_markSeqReadS_sg N).ps × RDen (T_laws_markSeqReadS_sg N).rs) tab (T_laws_markSeqReadS_ctx N) T_laws_markSeqReadS_ann N (theCode Try.f87) [1, 0, 1, 0] (retK tab (T_laws_markSeqReadS_sg N) Try.f87.results.toList some)) (.exit 0) (T_laws_markSeqReadS_lp0_e0 k18 i19 t20 l21)) =
    (some (α := ODen (T_laws_markSeqReadS_sg N).ps × RDen (T_laws_markSeqReadS_sg N).rs) ((l21, ()), (k18, ()))) := by kernel_rfl

theorem T_laws_markSeqReadS_den (N : Nat) (a1 : List (Int × Int × Int × Int × Int)) (k2 : Int) :
    den (R := ODen (T_laws_markSeqReadS_sg N).ps × RDen (T_laws_markSeqReadS_sg N).rs) tab (T_laws_markSeqReadS_ctx N) T_laws_markSeqReadS_ann N (T_laws_markSeqReadS_sg N) Try.f87 (a1, k2, ()) some =
    (T_laws_markSeqReadS_lp0 N
    (fun k18 i19 t20 l21 =>
      (some (α := ODen (T_laws_markSeqReadS_sg N).ps × RDen (T_laws_markSeqReadS_sg N).rs) ((l21, ()), (k18, ()))))
     N k2 (0 : Int) a1) := by
  have h : den (R := ODen (T_laws_markSeqReadS_sg N).ps × RDen (T_laws_markSeqReadS_sg N).rs) tab (T_laws_markSeqReadS_ctx N) T_laws_markSeqReadS_ann N (T_laws_markSeqReadS_sg N) Try.f87 (a1, k2, ()) some =
    (T_laws_markSeqReadS_lp0_m N N (T_laws_markSeqReadS_lp0_sh k2 (0 : Int) a1) (ctxK (R := ODen (T_laws_markSeqReadS_sg N).ps × RDen (T_laws_markSeqReadS_sg N).rs) tab (T_laws_markSeqReadS_ctx N) T_laws_markSeqReadS_ann N (theCode Try.f87) [1, 0, 1, 0] (retK tab (T_laws_markSeqReadS_sg N) Try.f87.results.toList some))) := by kernel_rfl
  rw [h]
  (try simp only [T_laws_markSeqReadS_lp0_eq, T_laws_markSeqReadS_c1]) <;> rfl

theorem T_laws_markSeqReadS_ok (N : Nat) : chkBody Try.f87 (T_laws_markSeqReadS_sg N).ps = true := by kernel_rfl

theorem T_laws_markSeqReadS_callable : Callable Try.prog 87 := callable_of Try.func87 (show chkFn Try.f87 = true by kernel_rfl)

theorem T_laws_markSeqReadS_good (N : Nat) : Good Try.prog 87 (T_laws_markSeqReadS_sg N) :=
  good_body mixedOk tabOk ctx_nil Try.func87 (T_laws_markSeqReadS_ok N) (fun d _ h => ⟨N, (T_laws_markSeqReadS_den N d.1 d.2.1).trans h⟩)

noncomputable def T_laws_markSeqWorld_sg (N : Nat) : Sig := Sig.of [.kv (.prod (.int .i64) (.prod (.prod (.int .i64) (.prod (.int .i64) (.int .i64))) (.prod (.int .i64) (.prod (.int .i64) (.prod (.own (.prod (.int .i64) (.prod (.int .i64) (.prod (.prod (.int .i64) (.prod (.int .i64) (.int .i64))) (.int .i64))))) (.own (.prod (.int .i64) (.prod (.int .i64) (.prod (.int .i64) (.prod (.int .i64) (.int .i64))))))))))) true, .v (.int .i64) false] [.v (.int .i64) false] (fun d => T_laws_markSeqWorld N d.1 d.2.1)

def T_laws_markSeqWorld_ann : Nat → List Ghost
  | _ => []

noncomputable def T_laws_markSeqWorld_ctx (N : Nat) : Ctx := [(86, T_laws_markSeqReaderS_sg N), (87, T_laws_markSeqReadS_sg N)]

theorem T_laws_markSeqWorld_den (N : Nat) (a1 : Int × (Int × Int × Int) × Int × Int × List (Int × Int × (Int × Int × Int) × Int) × List (Int × Int × Int × Int × Int)) (k2 : Int) :
    den (R := ODen (T_laws_markSeqWorld_sg N).ps × RDen (T_laws_markSeqWorld_sg N).rs) tab (T_laws_markSeqWorld_ctx N) T_laws_markSeqWorld_ann N (T_laws_markSeqWorld_sg N) Try.f33 (a1, k2, ()) some =
    ((T_laws_markSeqReaderS N a1.2.2.2.2.1 k2).bind fun o3 =>
    ((T_laws_markSeqReadS N a1.2.2.2.2.2 o3.2.1).bind fun o4 =>
      (some (α := ODen (T_laws_markSeqWorld_sg N).ps × RDen (T_laws_markSeqWorld_sg N).rs) (((a1.1, (a1.2.1, (a1.2.2.1, (a1.2.2.2.1, (o3.1.1, o4.1.1))))), ()), (o4.2.1, ()))))) := by kernel_rfl

theorem T_laws_markSeqWorld_ok (N : Nat) : chkBody Try.f33 (T_laws_markSeqWorld_sg N).ps = true := by kernel_rfl

theorem T_laws_markSeqWorld_callable : Callable Try.prog 33 := callable_of Try.func33 (show chkFn Try.f33 = true by kernel_rfl)

theorem T_laws_markSeqWorld_good (N : Nat) : Good Try.prog 33 (T_laws_markSeqWorld_sg N) :=
  good_body mixedOk tabOk (ctx_cons (T_laws_markSeqReaderS_good N) T_laws_markSeqReaderS_callable (ctx_cons (T_laws_markSeqReadS_good N) T_laws_markSeqReadS_callable ctx_nil)) Try.func33 (T_laws_markSeqWorld_ok N) (fun d _ h => ⟨N, (T_laws_markSeqWorld_den N d.1 d.2.1).trans h⟩)

noncomputable def T_laws_heldSeqReaderS_sg (N : Nat) : Sig := Sig.of [.v (.slice (.prod (.int .i64) (.prod (.int .i64) (.prod (.prod (.int .i64) (.prod (.int .i64) (.int .i64))) (.int .i64))))) false, .v (.int .i64) false] [.v (.int .i64) false] (fun d => T_laws_heldSeqReaderS N d.1 d.2.1)

def T_laws_heldSeqReaderS_ann : Nat → List Ghost
  | 2 => [.canon [0, 1, 5, 9]]
  | 3 => [.canon [0, 1, 5]]
  | 4 => [.canon [0, 1, 5, 18]]
  | 5 => [.canon [4]]
  | 6 => [.canon [0, 1, 5]]
  | 7 => [.canon [0, 1, 5, 27]]
  | 8 => [.canon [4]]
  | 9 => [.canon [0, 1, 5]]
  | 10 => [.canon [0, 1, 5, 37]]
  | 11 => [.canon [4]]
  | 12 => [.canon [0, 1, 5]]
  | 13 => [.canon [0, 1, 5, 47]]
  | 14 => [.canon [4]]
  | 15 => [.canon [0, 1, 5]]
  | 16 => [.canon [0, 1, 5, 57]]
  | 17 => [.canon [4]]
  | 18 => [.canon [0, 1, 5]]
  | 19 => [.canon [0, 1, 5, 66]]
  | 20 => [.canon [4]]
  | 21 => [.canon [0, 1, 5]]
  | 100002 => [.canon [0, 1, 5]]
  | _ => []

noncomputable def T_laws_heldSeqReaderS_ctx (N : Nat) : Ctx := []

def T_laws_heldSeqReaderS_lp0_sh (a3 : List (Int × Int × (Int × Int × Int) × Int)) (k4 : Int) (i5 : Int) : St := { env := [(0, .s (.one (.val (.slice (.prod (.int .i64) (.prod (.int .i64) (.prod (.prod (.int .i64) (.prod (.int .i64) (.int .i64))) (.int .i64))))) (a3 : List (Int × Int × (Int × Int × Int) × Int))))), (1, .s (.one (.val (.int .i64) (k4 : Int)))), (5, .s (.one (.val (.int .i64) (i5 : Int))))], objs := [], nx := 0 }

def T_laws_heldSeqReaderS_lp0_e0 (a3 : List (Int × Int × (Int × Int × Int) × Int)) : St := { env := [(4, .s (.one (.val (.int .i64) ((-1 : Int) : Int))))], objs := [], nx := 0 }

def T_laws_heldSeqReaderS_lp0_e1 (a3 : List (Int × Int × (Int × Int × Int) × Int)) (k6 : Int) (i7 : Int) (t8 : Bool) : St := { env := [(0, .s (.one (.val (.slice (.prod (.int .i64) (.prod (.int .i64) (.prod (.prod (.int .i64) (.prod (.int .i64) (.int .i64))) (.int .i64))))) (a3 : List (Int × Int × (Int × Int × Int) × Int))))), (1, .s (.one (.val (.int .i64) (k6 : Int)))), (5, .s (.one (.val (.int .i64) (i7 : Int)))), (9, .s (.one (.val (.bool) (t8 : Bool))))], objs := [], nx := 0 }

noncomputable def T_laws_heldSeqReaderS_lp0_m (N : Nat) {R : Type} (n : Nat) (st : St) (K : Ex → St → Option R) : Option R := loopN (roundG (T_laws_heldSeqReaderS_ann 100002) fun st k => sx tab (T_laws_heldSeqReaderS_ctx N) T_laws_heldSeqReaderS_ann N (nthLoop Try.f88 0) st k) n st K

theorem T_laws_heldSeqReaderS_lp0_step (N : Nat) {R : Type} (n : Nat) (K : Ex → St → Option R) (a3 : List (Int × Int × (Int × Int × Int) × Int)) (k4 : Int) (i5 : Int) :
    T_laws_heldSeqReaderS_lp0_m N (n + 1) (T_laws_heldSeqReaderS_lp0_sh a3 k4 i5) K =
    (bif decide (i5 < (ilen a3)) then
    (bif inb i5 (List.length a3) then
      (bif (List.getD a3 (Int.toNat i5) ((0 : Int), ((0 : Int), (((0 : Int), ((0 : Int), (0 : Int))), (0 : Int))))).1 != k4 then
        (K .ret (T_laws_heldSeqReaderS_lp0_e0 a3))
        else
        (bif inb i5 (List.length a3) then
          (bif (List.getD a3 (Int.toNat i5) ((0 : Int), ((0 : Int), (((0 : Int), ((0 : Int), (0 : Int))), (0 : Int))))).2.1 != (iadd .i64 k4 (1 : Int)) then
            (K .ret (T_laws_heldSeqReaderS_lp0_e0 a3))
            else
            (bif inb i5 (List.length a3) then
              (bif (List.getD a3 (Int.toNat i5) ((0 : Int), ((0 : Int), (((0 : Int), ((0 : Int), (0 : Int))), (0 : Int))))).2.2.1.1 != (iadd .i64 (iadd .i64 k4 (1 : Int)) (1 : Int)) then
                (K .ret (T_laws_heldSeqReaderS_lp0_e0 a3))
                else
                (bif inb i5 (List.length a3) then
                  (bif (List.getD a3 (Int.toNat i5) ((0 : Int), ((0 : Int), (((0 : Int), ((0 : Int), (0 : Int))), (0 : Int))))).2.2.1.2.1 != (iadd .i64 (iadd .i64 (iadd .i64 k4 (1 : Int)) (1 : Int)) (1 : Int)) then
                    (K .ret (T_laws_heldSeqReaderS_lp0_e0 a3))
                    else
                    (bif inb i5 (List.length a3) then
                      (bif (List.getD a3 (Int.toNat i5) ((0 : Int), ((0 : Int), (((0 : Int), ((0 : Int), (0 : Int))), (0 : Int))))).2.2.1.2.2 != (iadd .i64 (iadd .i64 (iadd .i64 (iadd .i64 k4 (1 : Int)) (1 : Int)) (1 : Int)) (1 : Int)) then
                        (K .ret (T_laws_heldSeqReaderS_lp0_e0 a3))
                        else
                        (bif inb i5 (List.length a3) then
                          (bif (List.getD a3 (Int.toNat i5) ((0 : Int), ((0 : Int), (((0 : Int), ((0 : Int), (0 : Int))), (0 : Int))))).2.2.2 != (iadd .i64 (iadd .i64 (iadd .i64 (iadd .i64 (iadd .i64 k4 (1 : Int)) (1 : Int)) (1 : Int)) (1 : Int)) (1 : Int)) then
                            (K .ret (T_laws_heldSeqReaderS_lp0_e0 a3))
                            else
                            (T_laws_heldSeqReaderS_lp0_m N n (T_laws_heldSeqReaderS_lp0_sh a3 (iadd .i64 (iadd .i64 (iadd .i64 (iadd .i64 (iadd .i64 (iadd .i64 k4 (1 : Int)) (1 : Int)) (1 : Int)) (1 : Int)) (1 : Int)) (1 : Int)) (iadd .i64 i5 (1 : Int))) K)) else none)) else none)) else none)) else none)) else none)) else none)
    else
    (K (.exit 0) (T_laws_heldSeqReaderS_lp0_e1 a3 k4 i5 (decide (i5 < (ilen a3)))))) := by kernel_rfl

theorem T_laws_heldSeqReaderS_lp0_eq (N : Nat) {R : Type} (a3 : List (Int × Int × (Int × Int × Int) × Int)) (K : Ex → St → Option R) : ∀ (n : Nat) (k4 : Int) (i5 : Int), T_laws_heldSeqReaderS_lp0_m N n (T_laws_heldSeqReaderS_lp0_sh a3 k4 i5) K = T_laws_heldSeqReaderS_lp0 N a3 (K .ret (T_laws_heldSeqReaderS_lp0_e0 a3)) (fun k6 i7 t8 => (K (.exit 0) (T_laws_heldSeqReaderS_lp0_e1 a3 k6 i7 t8))) n k4 i5
  | 0, _, _ => rfl
  | n + 1, k4, i5 => by rw [T_laws_heldSeqReaderS_lp0_step, T_laws_heldSeqReaderS_lp0]; (try simp only [T_laws_heldSeqReaderS_lp0_eq N a3 K n])

theorem T_laws_heldSeqReaderS_c1 (N : Nat) (a1 : List (Int × Int × (Int × Int × Int) × Int)) :
    ((ctxK (R := ODen (T_laws_heldSeqReaderS_sg N).ps × RDen (T_laws_heldSeqReaderS_sg N).rs) tab (T_laws_heldSeqReaderS_ctx N) T_laws_heldSeqReaderS_ann N (theCode Try.f88) [1, 0, 1, 0] (retK tab (T_laws_heldSeqReaderS_sg N) Try.f88.results.toList some)) .ret (T_laws_heldSeqReaderS_lp0_e0 a1)) =
    (some (α := ODen (T_laws_heldSeqReaderS_sg N).ps × RDen (T_laws_heldSeqReaderS_sg N).rs) ((), ((-1 : Int), ()))) := by kernel_rfl

theorem T_laws_heldSeqReaderS_c2 (N : Nat) (a1 : List (Int × Int × (Int × Int × Int) × Int)) (k9 : Int) (i10 : Int) (t11 : Bool) :
    ((ctxK (R := ODen (T_laws_heldSeqReaderS_sg N).ps × RDen (T_laws_heldSeqReaderS_sg N).rs) tab (T_laws_heldSeqReaderS_ctx N) T_laws_heldSeqReaderS_ann N (theCode Try.f88) [1, 0, 1, 0] (retK tab (T_laws_heldSeqReaderS_sg N) Try.f88.results.toList some)) (.exit 0) (T_laws_heldSeqReaderS_lp0_e1 a1 k9 i10 t11)) =
    (some (α := ODen (T_laws_heldSeqReaderS_sg N).ps × RDen (T_laws_heldSeqReaderS_sg N).rs) ((), (k9, ()))) := by kernel_rfl

theorem T_laws_heldSeqReaderS_den (N : Nat) (a1 : List (Int × Int × (Int × Int × Int) × Int)) (k2 : Int) :
    den (R := ODen (T_laws_heldSeqReaderS_sg N).ps × RDen (T_laws_heldSeqReaderS_sg N).rs) tab (T_laws_heldSeqReaderS_ctx N) T_laws_heldSeqReaderS_ann N (T_laws_heldSeqReaderS_sg N) Try.f88 (a1, k2, ()) some =
    (T_laws_heldSeqReaderS_lp0 N a1
    (some (α := ODen (T_laws_heldSeqReaderS_sg N).ps × RDen (T_laws_heldSeqReaderS_sg N).rs) ((), ((-1 : Int), ())))
    (fun k9 i10 t11 =>
      (some (α := ODen (T_laws_heldSeqReaderS_sg N).ps × RDen (T_laws_heldSeqReaderS_sg N).rs) ((), (k9, ()))))
     N k2 (0 : Int)) := by
  have h : den (R := ODen (T_laws_heldSeqReaderS_sg N).ps × RDen (T_laws_heldSeqReaderS_sg N).rs) tab (T_laws_heldSeqReaderS_ctx N) T_laws_heldSeqReaderS_ann N (T_laws_heldSeqReaderS_sg N) Try.f88 (a1, k2, ()) some =
    (T_laws_heldSeqReaderS_lp0_m N N (T_laws_heldSeqReaderS_lp0_sh a1 k2 (0 : Int)) (ctxK (R := ODen (T_laws_heldSeqReaderS_sg N).ps × RDen (T_laws_heldSeqReaderS_sg N).rs) tab (T_laws_heldSeqReaderS_ctx N) T_laws_heldSeqReaderS_ann N (theCode Try.f88) [1, 0, 1, 0] (retK tab (T_laws_heldSeqReaderS_sg N) Try.f88.results.toList some))) := by kernel_rfl
  rw [h]
  (try simp only [T_laws_heldSeqReaderS_lp0_eq, T_laws_heldSeqReaderS_c1, T_laws_heldSeqReaderS_c2]) <;> rfl

theorem T_laws_heldSeqReaderS_ok (N : Nat) : chkBody Try.f88 (T_laws_heldSeqReaderS_sg N).ps = true := by kernel_rfl

theorem T_laws_heldSeqReaderS_callable : Callable Try.prog 88 := callable_of Try.func88 (show chkFn Try.f88 = true by kernel_rfl)

theorem T_laws_heldSeqReaderS_good (N : Nat) : Good Try.prog 88 (T_laws_heldSeqReaderS_sg N) :=
  good_body mixedOk tabOk ctx_nil Try.func88 (T_laws_heldSeqReaderS_ok N) (fun d _ h => ⟨N, (T_laws_heldSeqReaderS_den N d.1 d.2.1).trans h⟩)

noncomputable def T_laws_heldSeqReadS_sg (N : Nat) : Sig := Sig.of [.v (.slice (.prod (.int .i64) (.prod (.int .i64) (.prod (.int .i64) (.prod (.int .i64) (.int .i64)))))) false, .v (.int .i64) false] [.v (.int .i64) false] (fun d => T_laws_heldSeqReadS N d.1 d.2.1)

def T_laws_heldSeqReadS_ann : Nat → List Ghost
  | 2 => [.canon [0, 1, 5, 9]]
  | 3 => [.canon [0, 1, 5]]
  | 4 => [.canon [0, 1, 5, 18]]
  | 5 => [.canon [4]]
  | 6 => [.canon [0, 1, 5]]
  | 7 => [.canon [0, 1, 5, 27]]
  | 8 => [.canon [4]]
  | 9 => [.canon [0, 1, 5]]
  | 10 => [.canon [0, 1, 5, 37]]
  | 11 => [.canon [4]]
  | 12 => [.canon [0, 1, 5]]
  | 13 => [.canon [0, 1, 5, 47]]
  | 14 => [.canon [4]]
  | 15 => [.canon [0, 1, 5]]
  | 16 => [.canon [0, 1, 5, 57]]
  | 17 => [.canon [4]]
  | 18 => [.canon [0, 1, 5]]
  | 100002 => [.canon [0, 1, 5]]
  | _ => []

noncomputable def T_laws_heldSeqReadS_ctx (N : Nat) : Ctx := []

def T_laws_heldSeqReadS_lp0_sh (a3 : List (Int × Int × Int × Int × Int)) (k4 : Int) (i5 : Int) : St := { env := [(0, .s (.one (.val (.slice (.prod (.int .i64) (.prod (.int .i64) (.prod (.int .i64) (.prod (.int .i64) (.int .i64)))))) (a3 : List (Int × Int × Int × Int × Int))))), (1, .s (.one (.val (.int .i64) (k4 : Int)))), (5, .s (.one (.val (.int .i64) (i5 : Int))))], objs := [], nx := 0 }

def T_laws_heldSeqReadS_lp0_e0 (a3 : List (Int × Int × Int × Int × Int)) : St := { env := [(4, .s (.one (.val (.int .i64) ((-1 : Int) : Int))))], objs := [], nx := 0 }

def T_laws_heldSeqReadS_lp0_e1 (a3 : List (Int × Int × Int × Int × Int)) (k6 : Int) (i7 : Int) (t8 : Bool) : St := { env := [(0, .s (.one (.val (.slice (.prod (.int .i64) (.prod (.int .i64) (.prod (.int .i64) (.prod (.int .i64) (.int .i64)))))) (a3 : List (Int × Int × Int × Int × Int))))), (1, .s (.one (.val (.int .i64) (k6 : Int)))), (5, .s (.one (.val (.int .i64) (i7 : Int)))), (9, .s (.one (.val (.bool) (t8 : Bool))))], objs := [], nx := 0 }

noncomputable def T_laws_heldSeqReadS_lp0_m (N : Nat) {R : Type} (n : Nat) (st : St) (K : Ex → St → Option R) : Option R := loopN (roundG (T_laws_heldSeqReadS_ann 100002) fun st k => sx tab (T_laws_heldSeqReadS_ctx N) T_laws_heldSeqReadS_ann N (nthLoop Try.f89 0) st k) n st K

theorem T_laws_heldSeqReadS_lp0_step (N : Nat) {R : Type} (n : Nat) (K : Ex → St → Option R) (a3 : List (Int × Int × Int × Int × Int)) (k4 : Int) (i5 : Int) :
    T_laws_heldSeqReadS_lp0_m N (n + 1) (T_laws_heldSeqReadS_lp0_sh a3 k4 i5) K =
    (bif decide (i5 < (ilen a3)) then
    (bif inb i5 (List.length a3) then
      (bif (List.getD a3 (Int.toNat i5) ((0 : Int), ((0 : Int), ((0 : Int), ((0 : Int), (0 : Int)))))).1 != k4 then
        (K .ret (T_laws_heldSeqReadS_lp0_e0 a3))
        else
        (bif inb i5 (List.length a3) then
          (bif (List.getD a3 (Int.toNat i5) ((0 : Int), ((0 : Int), ((0 : Int), ((0 : Int), (0 : Int)))))).2.1 != (iadd .i64 k4 (1 : Int)) then
            (K .ret (T_laws_heldSeqReadS_lp0_e0 a3))
            else
            (bif inb i5 (List.length a3) then
              (bif (List.getD a3 (Int.toNat i5) ((0 : Int), ((0 : Int), ((0 : Int), ((0 : Int), (0 : Int)))))).2.2.1 != (iadd .i64 (iadd .i64 k4 (1 : Int)) (1 : Int)) then
                (K .ret (T_laws_heldSeqReadS_lp0_e0 a3))
                else
                (bif inb i5 (List.length a3) then
                  (bif (List.getD a3 (Int.toNat i5) ((0 : Int), ((0 : Int), ((0 : Int), ((0 : Int), (0 : Int)))))).2.2.2.1 != (iadd .i64 (iadd .i64 (iadd .i64 k4 (1 : Int)) (1 : Int)) (1 : Int)) then
                    (K .ret (T_laws_heldSeqReadS_lp0_e0 a3))
                    else
                    (bif inb i5 (List.length a3) then
                      (bif (List.getD a3 (Int.toNat i5) ((0 : Int), ((0 : Int), ((0 : Int), ((0 : Int), (0 : Int)))))).2.2.2.2 != (iadd .i64 (iadd .i64 (iadd .i64 (iadd .i64 k4 (1 : Int)) (1 : Int)) (1 : Int)) (1 : Int)) then
                        (K .ret (T_laws_heldSeqReadS_lp0_e0 a3))
                        else
                        (T_laws_heldSeqReadS_lp0_m N n (T_laws_heldSeqReadS_lp0_sh a3 (iadd .i64 (iadd .i64 (iadd .i64 (iadd .i64 (iadd .i64 k4 (1 : Int)) (1 : Int)) (1 : Int)) (1 : Int)) (1 : Int)) (iadd .i64 i5 (1 : Int))) K)) else none)) else none)) else none)) else none)) else none)
    else
    (K (.exit 0) (T_laws_heldSeqReadS_lp0_e1 a3 k4 i5 (decide (i5 < (ilen a3)))))) := by kernel_rfl

theorem T_laws_heldSeqReadS_lp0_eq (N : Nat) {R : Type} (a3 : List (Int × Int × Int × Int × Int)) (K : Ex → St → Option R) : ∀ (n : Nat) (k4 : Int) (i5 : Int), T_laws_heldSeqReadS_lp0_m N n (T_laws_heldSeqReadS_lp0_sh a3 k4 i5) K = T_laws_heldSeqReadS_lp0 N a3 (K .ret (T_laws_heldSeqReadS_lp0_e0 a3)) (fun k6 i7 t8 => (K (.exit 0) (T_laws_heldSeqReadS_lp0_e1 a3 k6 i7 t8))) n k4 i5
  | 0, _, _ => rfl
  | n + 1, k4, i5 => by rw [T_laws_heldSeqReadS_lp0_step, T_laws_heldSeqReadS_lp0]; (try simp only [T_laws_heldSeqReadS_lp0_eq N a3 K n])

theorem T_laws_heldSeqReadS_c1 (N : Nat) (a1 : List (Int × Int × Int × Int × Int)) :
    ((ctxK (R := ODen (T_laws_heldSeqReadS_sg N).ps × RDen (T_laws_heldSeqReadS_sg N).rs) tab (T_laws_heldSeqReadS_ctx N) T_laws_heldSeqReadS_ann N (theCode Try.f89) [1, 0, 1, 0] (retK tab (T_laws_heldSeqReadS_sg N) Try.f89.results.toList some)) .ret (T_laws_heldSeqReadS_lp0_e0 a1)) =
    (some (α := ODen (T_laws_heldSeqReadS_sg N).ps × RDen (T_laws_heldSeqReadS_sg N).rs) ((), ((-1 : Int), ()))) := by kernel_rfl

theorem T_laws_heldSeqReadS_c2 (N : Nat) (a1 : List (Int × Int × Int × Int × Int)) (k9 : Int) (i10 : Int) (t11 : Bool) :
    ((ctxK (R := ODen (T_laws_heldSeqReadS_sg N).ps × RDen (T_laws_heldSeqReadS_sg N).rs) tab (T_laws_heldSeqReadS_ctx N) T_laws_heldSeqReadS_ann N (theCode Try.f89) [1, 0, 1, 0] (retK tab (T_laws_heldSeqReadS_sg N) Try.f89.results.toList some)) (.exit 0) (T_laws_heldSeqReadS_lp0_e1 a1 k9 i10 t11)) =
    (some (α := ODen (T_laws_heldSeqReadS_sg N).ps × RDen (T_laws_heldSeqReadS_sg N).rs) ((), (k9, ()))) := by kernel_rfl

theorem T_laws_heldSeqReadS_den (N : Nat) (a1 : List (Int × Int × Int × Int × Int)) (k2 : Int) :
    den (R := ODen (T_laws_heldSeqReadS_sg N).ps × RDen (T_laws_heldSeqReadS_sg N).rs) tab (T_laws_heldSeqReadS_ctx N) T_laws_heldSeqReadS_ann N (T_laws_heldSeqReadS_sg N) Try.f89 (a1, k2, ()) some =
    (T_laws_heldSeqReadS_lp0 N a1
    (some (α := ODen (T_laws_heldSeqReadS_sg N).ps × RDen (T_laws_heldSeqReadS_sg N).rs) ((), ((-1 : Int), ())))
    (fun k9 i10 t11 =>
      (some (α := ODen (T_laws_heldSeqReadS_sg N).ps × RDen (T_laws_heldSeqReadS_sg N).rs) ((), (k9, ()))))
     N k2 (0 : Int)) := by
  have h : den (R := ODen (T_laws_heldSeqReadS_sg N).ps × RDen (T_laws_heldSeqReadS_sg N).rs) tab (T_laws_heldSeqReadS_ctx N) T_laws_heldSeqReadS_ann N (T_laws_heldSeqReadS_sg N) Try.f89 (a1, k2, ()) some =
    (T_laws_heldSeqReadS_lp0_m N N (T_laws_heldSeqReadS_lp0_sh a1 k2 (0 : Int)) (ctxK (R := ODen (T_laws_heldSeqReadS_sg N).ps × RDen (T_laws_heldSeqReadS_sg N).rs) tab (T_laws_heldSeqReadS_ctx N) T_laws_heldSeqReadS_ann N (theCode Try.f89) [1, 0, 1, 0] (retK tab (T_laws_heldSeqReadS_sg N) Try.f89.results.toList some))) := by kernel_rfl
  rw [h]
  (try simp only [T_laws_heldSeqReadS_lp0_eq, T_laws_heldSeqReadS_c1, T_laws_heldSeqReadS_c2]) <;> rfl

theorem T_laws_heldSeqReadS_ok (N : Nat) : chkBody Try.f89 (T_laws_heldSeqReadS_sg N).ps = true := by kernel_rfl

theorem T_laws_heldSeqReadS_callable : Callable Try.prog 89 := callable_of Try.func89 (show chkFn Try.f89 = true by kernel_rfl)

theorem T_laws_heldSeqReadS_good (N : Nat) : Good Try.prog 89 (T_laws_heldSeqReadS_sg N) :=
  good_body mixedOk tabOk ctx_nil Try.func89 (T_laws_heldSeqReadS_ok N) (fun d _ h => ⟨N, (T_laws_heldSeqReadS_den N d.1 d.2.1).trans h⟩)

noncomputable def T_laws_heldSeqWorld_sg (N : Nat) : Sig := Sig.of [.v (.prod (.int .i64) (.prod (.prod (.int .i64) (.prod (.int .i64) (.int .i64))) (.prod (.int .i64) (.prod (.int .i64) (.prod (.slice (.prod (.int .i64) (.prod (.int .i64) (.prod (.prod (.int .i64) (.prod (.int .i64) (.int .i64))) (.int .i64))))) (.slice (.prod (.int .i64) (.prod (.int .i64) (.prod (.int .i64) (.prod (.int .i64) (.int .i64))))))))))) true, .v (.int .i64) false] [.v (.int .i64) false] (fun d => T_laws_heldSeqWorld N d.1 d.2.1)

def T_laws_heldSeqWorld_ann : Nat → List Ghost
  | _ => []

noncomputable def T_laws_heldSeqWorld_ctx (N : Nat) : Ctx := [(88, T_laws_heldSeqReaderS_sg N), (89, T_laws_heldSeqReadS_sg N)]

theorem T_laws_heldSeqWorld_den (N : Nat) (a1 : Int × (Int × Int × Int) × Int × Int × List (Int × Int × (Int × Int × Int) × Int) × List (Int × Int × Int × Int × Int)) (k2 : Int) :
    den (R := ODen (T_laws_heldSeqWorld_sg N).ps × RDen (T_laws_heldSeqWorld_sg N).rs) tab (T_laws_heldSeqWorld_ctx N) T_laws_heldSeqWorld_ann N (T_laws_heldSeqWorld_sg N) Try.f34 (a1, k2, ()) some =
    ((T_laws_heldSeqReaderS N a1.2.2.2.2.1 k2).bind fun o3 =>
    (bif decide (o3.2.1 < (0 : Int)) then
      (some (α := ODen (T_laws_heldSeqWorld_sg N).ps × RDen (T_laws_heldSeqWorld_sg N).rs) ((), ((-1 : Int), ())))
      else
      ((T_laws_heldSeqReadS N a1.2.2.2.2.2 o3.2.1).bind fun o4 =>
        (bif decide (o4.2.1 < (0 : Int)) then
          (some (α := ODen (T_laws_heldSeqWorld_sg N).ps × RDen (T_laws_heldSeqWorld_sg N).rs) ((), ((-1 : Int), ())))
          else
          (some (α := ODen (T_laws_heldSeqWorld_sg N).ps × RDen (T_laws_heldSeqWorld_sg N).rs) ((), (o4.2.1, ()))))))) := by kernel_rfl

theorem T_laws_heldSeqWorld_ok (N : Nat) : chkBody Try.f34 (T_laws_heldSeqWorld_sg N).ps = true := by kernel_rfl

theorem T_laws_heldSeqWorld_callable : Callable Try.prog 34 := callable_of Try.func34 (show chkFn Try.f34 = true by kernel_rfl)

theorem T_laws_heldSeqWorld_good (N : Nat) : Good Try.prog 34 (T_laws_heldSeqWorld_sg N) :=
  good_body mixedOk tabOk (ctx_cons (T_laws_heldSeqReaderS_good N) T_laws_heldSeqReaderS_callable (ctx_cons (T_laws_heldSeqReadS_good N) T_laws_heldSeqReadS_callable ctx_nil)) Try.func34 (T_laws_heldSeqWorld_ok N) (fun d _ h => ⟨N, (T_laws_heldSeqWorld_den N d.1 d.2.1).trans h⟩)

noncomputable def T_laws_FnExactSeqPlay_sg (N : Nat) : Sig := Sig.of [.v (.prod (.int .i64) (.prod (.int .i64) (.int .i64))) true, .v (.slice (.prod (.int .i64) (.prod (.int .i64) (.int .i64)))) false, .v (.slice (.int .i64)) false] [.v (.bool) false] (fun d => T_laws_FnExactSeqPlay N d.1 d.2.1 d.2.2.1)

def T_laws_FnExactSeqPlay_ann : Nat → List Ghost
  | _ => []

noncomputable def T_laws_FnExactSeqPlay_ctx (N : Nat) : Ctx := [(24, T_laws_szTripleS_sg N), (26, T_laws_toTriple_sg N), (27, T_laws_toTripleS_sg N), (20, T_laws_toIntS_sg N), (25, T_spec_SeqPlay_sg N), (28, T_impl_SeqPlay_sg N), (29, T_laws_eqSeqWorld_sg N), (30, T_laws_eqTripleS_sg N), (23, T_laws_eqIntS_sg N), (31, T_laws_markTripleS_sg N), (32, T_laws_markIntS_sg N), (33, T_laws_markSeqWorld_sg N), (34, T_laws_heldSeqWorld_sg N)]

theorem T_laws_FnExactSeqPlay_den (N : Nat) (aStart1 : Int × Int × Int) (aL2 : List (Int × Int × Int)) (aActs3 : List Int) :
    den (R := ODen (T_laws_FnExactSeqPlay_sg N).ps × RDen (T_laws_FnExactSeqPlay_sg N).rs) tab (T_laws_FnExactSeqPlay_ctx N) T_laws_FnExactSeqPlay_ann N (T_laws_FnExactSeqPlay_sg N) Try.f5 (aStart1, aL2, aActs3, ()) some =
    (bif decide ((ilen aActs3) > (1048576 : Int)) then
    (some (α := ODen (T_laws_FnExactSeqPlay_sg N).ps × RDen (T_laws_FnExactSeqPlay_sg N).rs) ((), (true, ())))
    else
    ((T_laws_szTripleS N aL2 (1048576 : Int)).bind fun o4 =>
      (bif decide (o4.2.1 < (0 : Int)) then
        (some (α := ODen (T_laws_FnExactSeqPlay_sg N).ps × RDen (T_laws_FnExactSeqPlay_sg N).rs) ((), (true, ())))
        else
        ((T_laws_toTriple N aStart1).bind fun o5 =>
          ((T_laws_toTripleS N aL2).bind fun o6 =>
            ((T_laws_toIntS N aActs3).bind fun o7 =>
              ((T_spec_SeqPlay N o5.2.1 o6.2.1 o7.2.1).bind fun o8 =>
                ((T_laws_toTripleS N aL2).bind fun o9 =>
                  ((T_laws_toIntS N aActs3).bind fun o10 =>
                    ((T_laws_toTriple N aStart1).bind fun o11 =>
                      ((T_impl_SeqPlay N o11.2.1 o9.2.1 o10.2.1).bind fun o12 =>
                        ((T_laws_eqSeqWorld N o12.2.1 o8.2.1).bind fun o13 =>
                          (bif !o13.2.1 then
                            (some (α := ODen (T_laws_FnExactSeqPlay_sg N).ps × RDen (T_laws_FnExactSeqPlay_sg N).rs) ((), (false, ())))
                            else
                            ((T_laws_toTripleS N aL2).bind fun o14 =>
                              ((T_laws_eqTripleS N o9.2.1 o14.2.1).bind fun o15 =>
                                (bif !o15.2.1 then
                                  (some (α := ODen (T_laws_FnExactSeqPlay_sg N).ps × RDen (T_laws_FnExactSeqPlay_sg N).rs) ((), (false, ())))
                                  else
                                  ((T_laws_toIntS N aActs3).bind fun o16 =>
                                    ((T_laws_eqIntS N o10.2.1 o16.2.1).bind fun o17 =>
                                      (bif !o17.2.1 then
                                        (some (α := ODen (T_laws_FnExactSeqPlay_sg N).ps × RDen (T_laws_FnExactSeqPlay_sg N).rs) ((), (false, ())))
                                        else
                                        ((T_laws_markTripleS N o9.2.1 (1 : Int)).bind fun o18 =>
                                          ((T_laws_markIntS N o10.2.1 o18.2.1).bind fun o19 =>
                                            (bif decide (o19.2.1 < (0 : Int)) then
                                              (some (α := ODen (T_laws_FnExactSeqPlay_sg N).ps × RDen (T_laws_FnExactSeqPlay_sg N).rs) ((), (false, ())))
                                              else
                                              ((T_laws_eqSeqWorld N o12.2.1 o8.2.1).bind fun o20 =>
                                                (bif !o20.2.1 then
                                                  (some (α := ODen (T_laws_FnExactSeqPlay_sg N).ps × RDen (T_laws_FnExactSeqPlay_sg N).rs) ((), (false, ())))
                                                  else
                                                  ((T_laws_markSeqWorld N o12.2.1 (1 : Int)).bind fun o21 =>
                                                    ((T_laws_heldSeqWorld N (o12.2.1.1, (o12.2.1.2.1, (o12.2.1.2.2.1, (o12.2.1.2.2.2.1, o21.1.1.2.2.2.2)))) (1 : Int)).bind fun o22 =>
                                                      (bif decide (o22.2.1 < (0 : Int)) then
                                                        (some (α := ODen (T_laws_FnExactSeqPlay_sg N).ps × RDen (T_laws_FnExactSeqPlay_sg N).rs) ((), (false, ())))
                                                        else
                                                        (bif o22.2.1 != o21.2.1 then
                                                          (some (α := ODen (T_laws_FnExactSeqPlay_sg N).ps × RDen (T_laws_FnExactSeqPlay_sg N).rs) ((), (false, ())))
                                                          else
                                                          ((T_laws_toTriple N aStart1).bind fun o23 =>
                                                            ((T_laws_toTripleS N aL2).bind fun o24 =>
                                                              ((T_laws_toIntS N aActs3).bind fun o25 =>
                                                                ((T_impl_SeqPlay N o23.2.1 o24.2.1 o25.2.1).bind fun o26 =>
                                                                  ((T_laws_eqSeqWorld N o26.2.1 o8.2.1).bind fun o27 =>
                                                                    (bif !o27.2.1 then
                                                                      (some (α := ODen (T_laws_FnExactSeqPlay_sg N).ps × RDen (T_laws_FnExactSeqPlay_sg N).rs) ((), (false, ())))
                                                                      else
                                                                      ((T_laws_heldSeqWorld N (o12.2.1.1, (o12.2.1.2.1, (o12.2.1.2.2.1, (o12.2.1.2.2.2.1, o21.1.1.2.2.2.2)))) (1 : Int)).bind fun o28 =>
                                                                        (bif decide (o28.2.1 < (0 : Int)) then
                                                                          (some (α := ODen (T_laws_FnExactSeqPlay_sg N).ps × RDen (T_laws_FnExactSeqPlay_sg N).rs) ((), (false, ())))
                                                                          else
                                                                          (bif o28.2.1 != o21.2.1 then
                                                                            (some (α := ODen (T_laws_FnExactSeqPlay_sg N).ps × RDen (T_laws_FnExactSeqPlay_sg N).rs) ((), (false, ())))
                                                                            else
                                                                            (some (α := ODen (T_laws_FnExactSeqPlay_sg N).ps × RDen (T_laws_FnExactSeqPlay_sg N).rs) ((), (true, ())))))))))))))))))))))))))))))))))))))))) := by kernel_rfl

theorem T_laws_FnExactSeqPlay_ok (N : Nat) : chkBody Try.f5 (T_laws_FnExactSeqPlay_sg N).ps = true := by kernel_rfl

theorem T_laws_FnExactSeqPlay_callable : Callable Try.prog 5 := callable_of Try.func5 (show chkFn Try.f5 = true by kernel_rfl)

theorem T_laws_FnExactSeqPlay_good (N : Nat) : Good Try.prog 5 (T_laws_FnExactSeqPlay_sg N) :=
  good_body mixedOk tabOk (ctx_cons (T_laws_szTripleS_good N) T_laws_szTripleS_callable (ctx_cons (T_laws_toTriple_good N) T_laws_toTriple_callable (ctx_cons (T_laws_toTripleS_good N) T_laws_toTripleS_callable (ctx_cons (T_laws_toIntS_good N) T_laws_toIntS_callable (ctx_cons (T_spec_SeqPlay_good N) T_spec_SeqPlay_callable (ctx_cons (T_impl_SeqPlay_good N) T_impl_SeqPlay_callable (ctx_cons (T_laws_eqSeqWorld_good N) T_laws_eqSeqWorld_callable (ctx_cons (T_laws_eqTripleS_good N) T_laws_eqTripleS_callable (ctx_cons (T_laws_eqIntS_good N) T_laws_eqIntS_callable (ctx_cons (T_laws_markTripleS_good N) T_laws_markTripleS_callable (ctx_cons (T_laws_markIntS_good N) T_laws_markIntS_callable (ctx_cons (T_laws_markSeqWorld_good N) T_laws_markSeqWorld_callable (ctx_cons (T_laws_heldSeqWorld_good N) T_laws_heldSeqWorld_callable ctx_nil))))))))))))) Try.func5 (T_laws_FnExactSeqPlay_ok N) (fun d _ h => ⟨N, (T_laws_FnExactSeqPlay_den N d.1 d.2.1 d.2.2.1).trans h⟩)

end Go.Sx
