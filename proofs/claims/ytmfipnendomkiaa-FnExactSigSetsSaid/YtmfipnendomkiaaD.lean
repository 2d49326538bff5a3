/- Each Go function does what its Lean function says. -/
import Derived.Test.YtmfipnendomkiaaT
import Derived.Test.YtmfipnendomkiaaProg
namespace Go.Sx
open Go.Proofs
set_option linter.unusedVariables false
set_option linter.unusedSimpArgs false

def tab : Tab := [(3, ⟨.int .i64, false, .basic⟩), (4, ⟨.bool, false, .basic⟩), (24, ⟨.slice (.int .i64), false, .slice 3⟩)]

theorem tabOk : TabOk Try.prog tab := tab_ok (show chkTab Try.prog tab tab = true by kernel_rfl)

def T_spec_SigSets_sg (N : Nat) : Sig := Sig.of [.v (.slice (.int .i64)) false, .v (.slice (.int .i64)) false] [(.bool, false)] (fun d => T_spec_SigSets N d.1 d.2.1)

def T_spec_SigSets_ann : Nat → List Ghost
  | 2 => [.canon [0, 1, 5, 10]]
  | 3 => [.canon [0, 1, 5]]
  | 4 => [.canon [0, 1, 5, 6]]
  | 5 => [.canon [0, 1, 5, 6, 16]]
  | 6 => [.canon [0, 1, 5, 6]]
  | 7 => [.canon [0, 1, 5, 6, 27]]
  | 8 => [.canon [4]]
  | 100002 => [.canon [0, 1, 5]]
  | 100005 => [.canon [0, 1, 5, 6]]
  | _ => []

def T_spec_SigSets_ctx (N : Nat) : Ctx := []

def T_spec_SigSets_lp1_sh (a6 : List Int) (b7 : List Int) (i8 : Int) (k9 : Int) : St := { env := [(0, .s (.one (.val (.slice (.int .i64)) (a6 : List Int)))), (1, .s (.one (.val (.slice (.int .i64)) (b7 : List Int)))), (5, .s (.one (.val (.int .i64) (i8 : Int)))), (6, .s (.one (.val (.int .i64) (k9 : Int))))], objs := [], nx := 0 }

def T_spec_SigSets_lp1_e0 (a6 : List Int) (b7 : List Int) (i8 : Int) : St := { env := [(4, .s (.one (.val (.bool) (true : Bool))))], objs := [], nx := 0 }

def T_spec_SigSets_lp1_e1 (a6 : List Int) (b7 : List Int) (i8 : Int) (k10 : Int) (t11 : Bool) : St := { env := [(0, .s (.one (.val (.slice (.int .i64)) (a6 : List Int)))), (1, .s (.one (.val (.slice (.int .i64)) (b7 : List Int)))), (5, .s (.one (.val (.int .i64) (i8 : Int)))), (6, .s (.one (.val (.int .i64) (k10 : Int)))), (16, .s (.one (.val (.bool) (t11 : Bool))))], objs := [], nx := 0 }

noncomputable def T_spec_SigSets_lp1_m (N : Nat) {R : Type} (n : Nat) (st : St) (K : Ex → St → Option R) : Option R := loopN (roundG (T_spec_SigSets_ann 100005) fun st k => sx tab (T_spec_SigSets_ctx N) T_spec_SigSets_ann N (nthLoop Try.f11 1) st k) n st K

theorem T_spec_SigSets_lp1_step (N : Nat) {R : Type} (n : Nat) (K : Ex → St → Option R) (a6 : List Int) (b7 : List Int) (i8 : Int) (k9 : Int) :
    T_spec_SigSets_lp1_m N (n + 1) (T_spec_SigSets_lp1_sh a6 b7 i8 k9) K =
    (bif decide (k9 < (ilen b7)) then
    (bif inb i8 (List.length a6) then
      (bif inb k9 (List.length b7) then
        (bif (List.getD a6 (Int.toNat i8) (0 : Int)) == (List.getD b7 (Int.toNat k9) (0 : Int)) then
          (K .ret (T_spec_SigSets_lp1_e0 a6 b7 i8))
          else
          (T_spec_SigSets_lp1_m N n (T_spec_SigSets_lp1_sh a6 b7 i8 (iadd .i64 k9 (1 : Int))) K)) else none) else none)
    else
    (K (.exit 2) (T_spec_SigSets_lp1_e1 a6 b7 i8 k9 (decide (k9 < (ilen b7)))))) := by kernel_rfl

theorem T_spec_SigSets_lp1_eq (N : Nat) {R : Type} (a6 : List Int) (b7 : List Int) (i8 : Int) (K : Ex → St → Option R) : ∀ (n : Nat) (k9 : Int), T_spec_SigSets_lp1_m N n (T_spec_SigSets_lp1_sh a6 b7 i8 k9) K = T_spec_SigSets_lp1 N a6 b7 i8 (K .ret (T_spec_SigSets_lp1_e0 a6 b7 i8)) (fun k10 t11 => (K (.exit 2) (T_spec_SigSets_lp1_e1 a6 b7 i8 k10 t11))) n k9
  | 0, _ => rfl
  | n + 1, k9 => by rw [T_spec_SigSets_lp1_step, T_spec_SigSets_lp1]; (try simp only [T_spec_SigSets_lp1_eq N a6 b7 i8 K n])

def T_spec_SigSets_lp0_sh (a3 : List Int) (b4 : List Int) (i5 : Int) : St := { env := [(0, .s (.one (.val (.slice (.int .i64)) (a3 : List Int)))), (1, .s (.one (.val (.slice (.int .i64)) (b4 : List Int)))), (5, .s (.one (.val (.int .i64) (i5 : Int))))], objs := [], nx := 0 }

def T_spec_SigSets_lp0_e0 (a3 : List Int) (b4 : List Int) : St := { env := [(4, .s (.one (.val (.bool) (true : Bool))))], objs := [], nx := 0 }

def T_spec_SigSets_lp0_e1 (a3 : List Int) (b4 : List Int) (i14 : Int) (t15 : Bool) : St := { env := [(0, .s (.one (.val (.slice (.int .i64)) (a3 : List Int)))), (1, .s (.one (.val (.slice (.int .i64)) (b4 : List Int)))), (5, .s (.one (.val (.int .i64) (i14 : Int)))), (10, .s (.one (.val (.bool) (t15 : Bool))))], objs := [], nx := 0 }

noncomputable def T_spec_SigSets_lp0_m (N : Nat) {R : Type} (n : Nat) (st : St) (K : Ex → St → Option R) : Option R := loopN (roundG (T_spec_SigSets_ann 100002) fun st k => sx tab (T_spec_SigSets_ctx N) T_spec_SigSets_ann N (nthLoop Try.f11 0) st k) n st K

theorem T_spec_SigSets_c1 (N : Nat) {R : Type} (n : Nat) (K : Ex → St → Option R) (a3 : List Int) (b4 : List Int) (i5 : Int) :
    ((ctxK tab (T_spec_SigSets_ctx N) T_spec_SigSets_ann N (nthLoop Try.f11 0) [1, 0, 0, 1, 0] (backK (T_spec_SigSets_ann 100002) (T_spec_SigSets_lp0_m N n) K)) .ret (T_spec_SigSets_lp1_e0 a3 b4 i5)) =
    (K .ret (T_spec_SigSets_lp0_e0 a3 b4)) := by kernel_rfl

theorem T_spec_SigSets_c2 (N : Nat) {R : Type} (n : Nat) (K : Ex → St → Option R) (a3 : List Int) (b4 : List Int) (i5 : Int) (k16 : Int) (t17 : Bool) :
    ((ctxK tab (T_spec_SigSets_ctx N) T_spec_SigSets_ann N (nthLoop Try.f11 0) [1, 0, 0, 1, 0] (backK (T_spec_SigSets_ann 100002) (T_spec_SigSets_lp0_m N n) K)) (.exit 2) (T_spec_SigSets_lp1_e1 a3 b4 i5 k16 t17)) =
    (T_spec_SigSets_lp0_m N n (T_spec_SigSets_lp0_sh a3 b4 (iadd .i64 i5 (1 : Int))) K) := by kernel_rfl

theorem T_spec_SigSets_lp0_step (N : Nat) {R : Type} (n : Nat) (K : Ex → St → Option R) (a3 : List Int) (b4 : List Int) (i5 : Int) :
    T_spec_SigSets_lp0_m N (n + 1) (T_spec_SigSets_lp0_sh a3 b4 i5) K =
    (bif decide (i5 < (ilen a3)) then
    (T_spec_SigSets_lp1 N a3 b4 i5
      (K .ret (T_spec_SigSets_lp0_e0 a3 b4))
      (fun k16 t17 =>
        (T_spec_SigSets_lp0_m N n (T_spec_SigSets_lp0_sh a3 b4 (iadd .i64 i5 (1 : Int))) K))
       N (0 : Int))
    else
    (K (.exit 0) (T_spec_SigSets_lp0_e1 a3 b4 i5 (decide (i5 < (ilen a3)))))) := by
  have h : T_spec_SigSets_lp0_m N (n + 1) (T_spec_SigSets_lp0_sh a3 b4 i5) K =
    (bif decide (i5 < (ilen a3)) then
    (T_spec_SigSets_lp1_m N N (T_spec_SigSets_lp1_sh a3 b4 i5 (0 : Int)) (ctxK tab (T_spec_SigSets_ctx N) T_spec_SigSets_ann N (nthLoop Try.f11 0) [1, 0, 0, 1, 0] (backK (T_spec_SigSets_ann 100002) (T_spec_SigSets_lp0_m N n) K)))
    else
    (K (.exit 0) (T_spec_SigSets_lp0_e1 a3 b4 i5 (decide (i5 < (ilen a3)))))) := by kernel_rfl
  rw [h]
  (try simp only [T_spec_SigSets_lp1_eq, T_spec_SigSets_c1, T_spec_SigSets_c2]) <;> rfl

theorem T_spec_SigSets_lp0_eq (N : Nat) {R : Type} (a3 : List Int) (b4 : List Int) (K : Ex → St → Option R) : ∀ (n : Nat) (i5 : Int), T_spec_SigSets_lp0_m N n (T_spec_SigSets_lp0_sh a3 b4 i5) K = T_spec_SigSets_lp0 N a3 b4 (K .ret (T_spec_SigSets_lp0_e0 a3 b4)) (fun i14 t15 => (K (.exit 0) (T_spec_SigSets_lp0_e1 a3 b4 i14 t15))) n i5
  | 0, _ => rfl
  | n + 1, i5 => by rw [T_spec_SigSets_lp0_step, T_spec_SigSets_lp0]; (try simp only [T_spec_SigSets_lp0_eq N a3 b4 K n])

theorem T_spec_SigSets_c3 (N : Nat) (a1 : List Int) (b2 : List Int) :
    ((ctxK tab (T_spec_SigSets_ctx N) T_spec_SigSets_ann N (theCode Try.f11) [1, 0, 1, 0] (retK tab (T_spec_SigSets_sg N) Try.f11.results.toList some)) .ret (T_spec_SigSets_lp0_e0 a1 b2)) =
    (some ((), (true, ()))) := by kernel_rfl

theorem T_spec_SigSets_c4 (N : Nat) (a1 : List Int) (b2 : List Int) (i18 : Int) (t19 : Bool) :
    ((ctxK tab (T_spec_SigSets_ctx N) T_spec_SigSets_ann N (theCode Try.f11) [1, 0, 1, 0] (retK tab (T_spec_SigSets_sg N) Try.f11.results.toList some)) (.exit 0) (T_spec_SigSets_lp0_e1 a1 b2 i18 t19)) =
    (some ((), (false, ()))) := by kernel_rfl

theorem T_spec_SigSets_den (N : Nat) (a1 : List Int) (b2 : List Int) :
    den (R := ODen (T_spec_SigSets_sg N).ps × RDen (T_spec_SigSets_sg N).rs) tab (T_spec_SigSets_ctx N) T_spec_SigSets_ann N (T_spec_SigSets_sg N) Try.f11 (a1, b2, ()) some =
    (T_spec_SigSets_lp0 N a1 b2
    (some ((), (true, ())))
    (fun i18 t19 =>
      (some ((), (false, ()))))
     N (0 : Int)) := by
  have h : den (R := ODen (T_spec_SigSets_sg N).ps × RDen (T_spec_SigSets_sg N).rs) tab (T_spec_SigSets_ctx N) T_spec_SigSets_ann N (T_spec_SigSets_sg N) Try.f11 (a1, b2, ()) some =
    (T_spec_SigSets_lp0_m N N (T_spec_SigSets_lp0_sh a1 b2 (0 : Int)) (ctxK tab (T_spec_SigSets_ctx N) T_spec_SigSets_ann N (theCode Try.f11) [1, 0, 1, 0] (retK tab (T_spec_SigSets_sg N) Try.f11.results.toList some))) := by kernel_rfl
  rw [h]
  (try simp only [T_spec_SigSets_lp0_eq, T_spec_SigSets_c3, T_spec_SigSets_c4]) <;> rfl

theorem T_spec_SigSets_ok (N : Nat) : chkBody Try.f11 (T_spec_SigSets_sg N).ps = true := by kernel_rfl

theorem T_spec_SigSets_callable : Callable Try.prog 11 := callable_of Try.func11 (show chkFn Try.f11 = true by kernel_rfl)

theorem T_spec_SigSets_good (N : Nat) : Good Try.prog 11 (T_spec_SigSets_sg N) :=
  good_body tabOk ctx_nil Try.func11 (T_spec_SigSets_ok N) (fun d _ h => ⟨N, (T_spec_SigSets_den N d.1 d.2.1).trans h⟩)

def T_laws_toIntS_sg (N : Nat) : Sig := Sig.of [.v (.slice (.int .i64)) false] [(.own (.int .i64), false)] (fun d => T_laws_toIntS N d.1)

def T_laws_toIntS_ann : Nat → List Ghost
  | 3 => [.canon [0, 3, 4, 11]]
  | 4 => [.canon [0, 3, 4]]
  | 5 => [.canon [0, 3, 4]]
  | 100003 => [.canon [0, 3, 4]]
  | _ => []

def T_laws_toIntS_ctx (N : Nat) : Ctx := []

def T_laws_toIntS_lp0_sh (a2 : List Int) (i3 : Int) (l4 : List Int) : St := { env := [(0, .s (.one (.val (.slice (.int .i64)) (a2 : List Int)))), (3, .s (.one (.own 0))), (4, .s (.one (.val (.int .i64) (i3 : Int))))], objs := [(0, .arr (.int .i64) (l4 : List Int))], nx := 1 }

def T_laws_toIntS_lp0_e0 (a2 : List Int) (i5 : Int) (t6 : Bool) (l7 : List Int) : St := { env := [(0, .s (.one (.val (.slice (.int .i64)) (a2 : List Int)))), (3, .s (.one (.own 0))), (4, .s (.one (.val (.int .i64) (i5 : Int)))), (11, .s (.one (.val (.bool) (t6 : Bool))))], objs := [(0, .arr (.int .i64) (l7 : List Int))], nx := 1 }

noncomputable def T_laws_toIntS_lp0_m (N : Nat) {R : Type} (n : Nat) (st : St) (K : Ex → St → Option R) : Option R := loopN (roundG (T_laws_toIntS_ann 100003) fun st k => sx tab (T_laws_toIntS_ctx N) T_laws_toIntS_ann N (nthLoop Try.f12 0) st k) n st K

theorem T_laws_toIntS_lp0_step (N : Nat) {R : Type} (n : Nat) (K : Ex → St → Option R) (a2 : List Int) (i3 : Int) (l4 : List Int) :
    T_laws_toIntS_lp0_m N (n + 1) (T_laws_toIntS_lp0_sh a2 i3 l4) K =
    (bif decide (i3 < (ilen a2)) then
    (bif inb i3 (List.length a2) then
      (bif inb i3 (List.length l4) then
        (T_laws_toIntS_lp0_m N n (T_laws_toIntS_lp0_sh a2 (iadd .i64 i3 (1 : Int)) (List.set l4 (Int.toNat i3) (List.getD a2 (Int.toNat i3) (0 : Int)))) K) else none) else none)
    else
    (K (.exit 0) (T_laws_toIntS_lp0_e0 a2 i3 (decide (i3 < (ilen a2))) l4))) := by kernel_rfl

theorem T_laws_toIntS_lp0_eq (N : Nat) {R : Type} (a2 : List Int) (K : Ex → St → Option R) : ∀ (n : Nat) (i3 : Int) (l4 : List Int), T_laws_toIntS_lp0_m N n (T_laws_toIntS_lp0_sh a2 i3 l4) K = T_laws_toIntS_lp0 N a2 (fun i5 t6 l7 => (K (.exit 0) (T_laws_toIntS_lp0_e0 a2 i5 t6 l7))) n i3 l4
  | 0, _, _ => rfl
  | n + 1, i3, l4 => by rw [T_laws_toIntS_lp0_step, T_laws_toIntS_lp0]; (try simp only [T_laws_toIntS_lp0_eq N a2 K n])

theorem T_laws_toIntS_c1 (N : Nat) (a1 : List Int) (i8 : Int) (t9 : Bool) (l10 : List Int) :
    ((ctxK tab (T_laws_toIntS_ctx N) T_laws_toIntS_ann N (theCode Try.f12) [1, 1, 0, 1, 0] (retK tab (T_laws_toIntS_sg N) Try.f12.results.toList some)) (.exit 0) (T_laws_toIntS_lp0_e0 a1 i8 t9 l10)) =
    (some ((), (l10, ()))) := by kernel_rfl

theorem T_laws_toIntS_den (N : Nat) (a1 : List Int) :
    den (R := ODen (T_laws_toIntS_sg N).ps × RDen (T_laws_toIntS_sg N).rs) tab (T_laws_toIntS_ctx N) T_laws_toIntS_ann N (T_laws_toIntS_sg N) Try.f12 (a1, ()) some =
    (bif ((decide ((0 : Int) ≤ (ilen a1))) && (decide ((ilen a1) ≤ (ilen a1)))) && (room (Int.toNat (ilen a1))) then
    (T_laws_toIntS_lp0 N a1
      (fun i8 t9 l10 =>
        (some ((), (l10, ()))))
       N (0 : Int) (List.replicate (Int.toNat (ilen a1)) (0 : Int))) else none) := by
  have h : den (R := ODen (T_laws_toIntS_sg N).ps × RDen (T_laws_toIntS_sg N).rs) tab (T_laws_toIntS_ctx N) T_laws_toIntS_ann N (T_laws_toIntS_sg N) Try.f12 (a1, ()) some =
    (bif ((decide ((0 : Int) ≤ (ilen a1))) && (decide ((ilen a1) ≤ (ilen a1)))) && (room (Int.toNat (ilen a1))) then
    (T_laws_toIntS_lp0_m N N (T_laws_toIntS_lp0_sh a1 (0 : Int) (List.replicate (Int.toNat (ilen a1)) (0 : Int))) (ctxK tab (T_laws_toIntS_ctx N) T_laws_toIntS_ann N (theCode Try.f12) [1, 1, 0, 1, 0] (retK tab (T_laws_toIntS_sg N) Try.f12.results.toList some))) else none) := by kernel_rfl
  rw [h]
  (try simp only [T_laws_toIntS_lp0_eq, T_laws_toIntS_c1]) <;> rfl

theorem T_laws_toIntS_ok (N : Nat) : chkBody Try.f12 (T_laws_toIntS_sg N).ps = true := by kernel_rfl

theorem T_laws_toIntS_callable : Callable Try.prog 12 := callable_of Try.func12 (show chkFn Try.f12 = true by kernel_rfl)

theorem T_laws_toIntS_good (N : Nat) : Good Try.prog 12 (T_laws_toIntS_sg N) :=
  good_body tabOk ctx_nil Try.func12 (T_laws_toIntS_ok N) (fun d _ h => ⟨N, (T_laws_toIntS_den N d.1).trans h⟩)

def T_impl_SigSets_sg (N : Nat) : Sig := Sig.of [.v (.slice (.int .i64)) false, .v (.slice (.int .i64)) false] [(.bool, false)] (fun d => T_impl_SigSets N d.1 d.2.1)

def T_impl_SigSets_ann : Nat → List Ghost
  | 2 => [.canon [1, 9, 10, 11, 12]]
  | 3 => [.canon [1, 6, 9, 10, 11]]
  | 4 => [.canon [1, 6, 9, 10, 11, 15, 16, 17]]
  | 5 => [.canon [1, 6, 9, 10, 11, 15, 16, 17, 18]]
  | 6 => [.canon [1, 6, 8, 9, 10, 11, 15, 16, 17]]
  | 7 => [.canon [1, 6, 9, 10, 11, 15, 16, 17, 23]]
  | 8 => [.canon [4]]
  | 9 => [.canon [1, 6, 9, 10, 11, 15, 16, 17]]
  | 10 => [.canon [1, 9, 10, 11]]
  | 100002 => [.canon [1, 9, 10, 11]]
  | 100005 => [.canon [1, 6, 9, 10, 11, 15, 16, 17]]
  | _ => []

def T_impl_SigSets_ctx (N : Nat) : Ctx := []

def T_impl_SigSets_lp1_sh (b7 : List Int) (t9 : List Int) (t10 : Int) (t11 : Int) (t14 : Int) : St := { env := [(1, .s (.one (.val (.slice (.int .i64)) (b7 : List Int)))), (6, .s (.one (.val (.int .i64) (List.getD t9 (Int.toNat t11) (0 : Int) : Int)))), (9, .s (.one (.val (.slice (.int .i64)) (t9 : List Int)))), (10, .s (.one (.val (.int .i64) (t10 : Int)))), (11, .s (.one (.val (.int .i64) (t11 : Int)))), (15, .s (.one (.val (.slice (.int .i64)) (b7 : List Int)))), (16, .s (.one (.val (.int .i64) (ilen b7 : Int)))), (17, .s (.one (.val (.int .i64) (t14 : Int))))], objs := [], nx := 0 }

def T_impl_SigSets_lp1_e0 (b7 : List Int) (t9 : List Int) (t10 : Int) (t11 : Int) : St := { env := [(4, .s (.one (.val (.bool) (true : Bool))))], objs := [], nx := 0 }

def T_impl_SigSets_lp1_e1 (b7 : List Int) (t9 : List Int) (t10 : Int) (t11 : Int) (t15 : Int) (t16 : Bool) : St := { env := [(1, .s (.one (.val (.slice (.int .i64)) (b7 : List Int)))), (6, .s (.one (.val (.int .i64) (List.getD t9 (Int.toNat t11) (0 : Int) : Int)))), (9, .s (.one (.val (.slice (.int .i64)) (t9 : List Int)))), (10, .s (.one (.val (.int .i64) (t10 : Int)))), (11, .s (.one (.val (.int .i64) (t11 : Int)))), (15, .s (.one (.val (.slice (.int .i64)) (b7 : List Int)))), (16, .s (.one (.val (.int .i64) (ilen b7 : Int)))), (17, .s (.one (.val (.int .i64) (t15 : Int)))), (18, .s (.one (.val (.bool) (t16 : Bool))))], objs := [], nx := 0 }

noncomputable def T_impl_SigSets_lp1_m (N : Nat) {R : Type} (n : Nat) (st : St) (K : Ex → St → Option R) : Option R := loopN (roundG (T_impl_SigSets_ann 100005) fun st k => sx tab (T_impl_SigSets_ctx N) T_impl_SigSets_ann N (nthLoop Try.f13 1) st k) n st K

theorem T_impl_SigSets_lp1_step (N : Nat) {R : Type} (n : Nat) (K : Ex → St → Option R) (b7 : List Int) (t9 : List Int) (t10 : Int) (t11 : Int) (t14 : Int) :
    T_impl_SigSets_lp1_m N (n + 1) (T_impl_SigSets_lp1_sh b7 t9 t10 t11 t14) K =
    (bif decide (t14 < (ilen b7)) then
    (bif inb t14 (List.length b7) then
      (bif (List.getD t9 (Int.toNat t11) (0 : Int)) == (List.getD b7 (Int.toNat t14) (0 : Int)) then
        (K .ret (T_impl_SigSets_lp1_e0 b7 t9 t10 t11))
        else
        (T_impl_SigSets_lp1_m N n (T_impl_SigSets_lp1_sh b7 t9 t10 t11 (iadd .i64 t14 (1 : Int))) K)) else none)
    else
    (K (.exit 2) (T_impl_SigSets_lp1_e1 b7 t9 t10 t11 t14 (decide (t14 < (ilen b7)))))) := by kernel_rfl

theorem T_impl_SigSets_lp1_eq (N : Nat) {R : Type} (b7 : List Int) (t9 : List Int) (t10 : Int) (t11 : Int) (K : Ex → St → Option R) : ∀ (n : Nat) (t14 : Int), T_impl_SigSets_lp1_m N n (T_impl_SigSets_lp1_sh b7 t9 t10 t11 t14) K = T_impl_SigSets_lp1 N b7 t9 t10 t11 (K .ret (T_impl_SigSets_lp1_e0 b7 t9 t10 t11)) (fun t15 t16 => (K (.exit 2) (T_impl_SigSets_lp1_e1 b7 t9 t10 t11 t15 t16))) n t14
  | 0, _ => rfl
  | n + 1, t14 => by rw [T_impl_SigSets_lp1_step, T_impl_SigSets_lp1]; (try simp only [T_impl_SigSets_lp1_eq N b7 t9 t10 t11 K n])

def T_impl_SigSets_lp0_sh (b3 : List Int) (t4 : List Int) (t6 : Int) : St := { env := [(1, .s (.one (.val (.slice (.int .i64)) (b3 : List Int)))), (9, .s (.one (.val (.slice (.int .i64)) (t4 : List Int)))), (10, .s (.one (.val (.int .i64) (ilen t4 : Int)))), (11, .s (.one (.val (.int .i64) (t6 : Int))))], objs := [], nx := 0 }

def T_impl_SigSets_lp0_e0 (b3 : List Int) (t4 : List Int) : St := { env := [(4, .s (.one (.val (.bool) (true : Bool))))], objs := [], nx := 0 }

def T_impl_SigSets_lp0_e1 (b3 : List Int) (t4 : List Int) (t21 : Int) (t22 : Bool) : St := { env := [(1, .s (.one (.val (.slice (.int .i64)) (b3 : List Int)))), (9, .s (.one (.val (.slice (.int .i64)) (t4 : List Int)))), (10, .s (.one (.val (.int .i64) (ilen t4 : Int)))), (11, .s (.one (.val (.int .i64) (t21 : Int)))), (12, .s (.one (.val (.bool) (t22 : Bool))))], objs := [], nx := 0 }

noncomputable def T_impl_SigSets_lp0_m (N : Nat) {R : Type} (n : Nat) (st : St) (K : Ex → St → Option R) : Option R := loopN (roundG (T_impl_SigSets_ann 100002) fun st k => sx tab (T_impl_SigSets_ctx N) T_impl_SigSets_ann N (nthLoop Try.f13 0) st k) n st K

theorem T_impl_SigSets_c1 (N : Nat) {R : Type} (n : Nat) (K : Ex → St → Option R) (b3 : List Int) (t4 : List Int) (t6 : Int) :
    ((ctxK tab (T_impl_SigSets_ctx N) T_impl_SigSets_ann N (nthLoop Try.f13 0) [1, 1, 0, 0, 1, 1, 0] (backK (T_impl_SigSets_ann 100002) (T_impl_SigSets_lp0_m N n) K)) .ret (T_impl_SigSets_lp1_e0 b3 t4 (ilen t4) t6)) =
    (K .ret (T_impl_SigSets_lp0_e0 b3 t4)) := by kernel_rfl

theorem T_impl_SigSets_c2 (N : Nat) {R : Type} (n : Nat) (K : Ex → St → Option R) (b3 : List Int) (t4 : List Int) (t6 : Int) (t23 : Int) (t24 : Bool) :
    ((ctxK tab (T_impl_SigSets_ctx N) T_impl_SigSets_ann N (nthLoop Try.f13 0) [1, 1, 0, 0, 1, 1, 0] (backK (T_impl_SigSets_ann 100002) (T_impl_SigSets_lp0_m N n) K)) (.exit 2) (T_impl_SigSets_lp1_e1 b3 t4 (ilen t4) t6 t23 t24)) =
    (T_impl_SigSets_lp0_m N n (T_impl_SigSets_lp0_sh b3 t4 (iadd .i64 t6 (1 : Int))) K) := by kernel_rfl

theorem T_impl_SigSets_lp0_step (N : Nat) {R : Type} (n : Nat) (K : Ex → St → Option R) (b3 : List Int) (t4 : List Int) (t6 : Int) :
    T_impl_SigSets_lp0_m N (n + 1) (T_impl_SigSets_lp0_sh b3 t4 t6) K =
    (bif decide (t6 < (ilen t4)) then
    (bif inb t6 (List.length t4) then
      (T_impl_SigSets_lp1 N b3 t4 (ilen t4) t6
        (K .ret (T_impl_SigSets_lp0_e0 b3 t4))
        (fun t23 t24 =>
          (T_impl_SigSets_lp0_m N n (T_impl_SigSets_lp0_sh b3 t4 (iadd .i64 t6 (1 : Int))) K))
         N (0 : Int)) else none)
    else
    (K (.exit 0) (T_impl_SigSets_lp0_e1 b3 t4 t6 (decide (t6 < (ilen t4)))))) := by
  have h : T_impl_SigSets_lp0_m N (n + 1) (T_impl_SigSets_lp0_sh b3 t4 t6) K =
    (bif decide (t6 < (ilen t4)) then
    (bif inb t6 (List.length t4) then
      (T_impl_SigSets_lp1_m N N (T_impl_SigSets_lp1_sh b3 t4 (ilen t4) t6 (0 : Int)) (ctxK tab (T_impl_SigSets_ctx N) T_impl_SigSets_ann N (nthLoop Try.f13 0) [1, 1, 0, 0, 1, 1, 0] (backK (T_impl_SigSets_ann 100002) (T_impl_SigSets_lp0_m N n) K))) else none)
    else
    (K (.exit 0) (T_impl_SigSets_lp0_e1 b3 t4 t6 (decide (t6 < (ilen t4)))))) := by kernel_rfl
  rw [h]
  (try simp only [T_impl_SigSets_lp1_eq, T_impl_SigSets_c1, T_impl_SigSets_c2]) <;> rfl

theorem T_impl_SigSets_lp0_eq (N : Nat) {R : Type} (b3 : List Int) (t4 : List Int) (K : Ex → St → Option R) : ∀ (n : Nat) (t6 : Int), T_impl_SigSets_lp0_m N n (T_impl_SigSets_lp0_sh b3 t4 t6) K = T_impl_SigSets_lp0 N b3 t4 (K .ret (T_impl_SigSets_lp0_e0 b3 t4)) (fun t21 t22 => (K (.exit 0) (T_impl_SigSets_lp0_e1 b3 t4 t21 t22))) n t6
  | 0, _ => rfl
  | n + 1, t6 => by rw [T_impl_SigSets_lp0_step, T_impl_SigSets_lp0]; (try simp only [T_impl_SigSets_lp0_eq N b3 t4 K n])

theorem T_impl_SigSets_c3 (N : Nat) (b2 : List Int) (a1 : List Int) :
    ((ctxK tab (T_impl_SigSets_ctx N) T_impl_SigSets_ann N (theCode Try.f13) [1, 0, 1, 0] (retK tab (T_impl_SigSets_sg N) Try.f13.results.toList some)) .ret (T_impl_SigSets_lp0_e0 b2 a1)) =
    (some ((), (true, ()))) := by kernel_rfl

theorem T_impl_SigSets_c4 (N : Nat) (b2 : List Int) (a1 : List Int) (t25 : Int) (t26 : Bool) :
    ((ctxK tab (T_impl_SigSets_ctx N) T_impl_SigSets_ann N (theCode Try.f13) [1, 0, 1, 0] (retK tab (T_impl_SigSets_sg N) Try.f13.results.toList some)) (.exit 0) (T_impl_SigSets_lp0_e1 b2 a1 t25 t26)) =
    (some ((), (false, ()))) := by kernel_rfl

theorem T_impl_SigSets_den (N : Nat) (a1 : List Int) (b2 : List Int) :
    den (R := ODen (T_impl_SigSets_sg N).ps × RDen (T_impl_SigSets_sg N).rs) tab (T_impl_SigSets_ctx N) T_impl_SigSets_ann N (T_impl_SigSets_sg N) Try.f13 (a1, b2, ()) some =
    (T_impl_SigSets_lp0 N b2 a1
    (some ((), (true, ())))
    (fun t25 t26 =>
      (some ((), (false, ()))))
     N (0 : Int)) := by
  have h : den (R := ODen (T_impl_SigSets_sg N).ps × RDen (T_impl_SigSets_sg N).rs) tab (T_impl_SigSets_ctx N) T_impl_SigSets_ann N (T_impl_SigSets_sg N) Try.f13 (a1, b2, ()) some =
    (T_impl_SigSets_lp0_m N N (T_impl_SigSets_lp0_sh b2 a1 (0 : Int)) (ctxK tab (T_impl_SigSets_ctx N) T_impl_SigSets_ann N (theCode Try.f13) [1, 0, 1, 0] (retK tab (T_impl_SigSets_sg N) Try.f13.results.toList some))) := by kernel_rfl
  rw [h]
  (try simp only [T_impl_SigSets_lp0_eq, T_impl_SigSets_c3, T_impl_SigSets_c4]) <;> rfl

theorem T_impl_SigSets_ok (N : Nat) : chkBody Try.f13 (T_impl_SigSets_sg N).ps = true := by kernel_rfl

theorem T_impl_SigSets_callable : Callable Try.prog 13 := callable_of Try.func13 (show chkFn Try.f13 = true by kernel_rfl)

theorem T_impl_SigSets_good (N : Nat) : Good Try.prog 13 (T_impl_SigSets_sg N) :=
  good_body tabOk ctx_nil Try.func13 (T_impl_SigSets_ok N) (fun d _ h => ⟨N, (T_impl_SigSets_den N d.1 d.2.1).trans h⟩)

def T_laws_eqIntS_sg (N : Nat) : Sig := Sig.of [.v (.slice (.int .i64)) false, .v (.slice (.int .i64)) false] [(.bool, false)] (fun d => T_laws_eqIntS N d.1 d.2.1)

def T_laws_eqIntS_ann : Nat → List Ghost
  | 4 => [.canon [0, 1, 5, 14]]
  | 5 => [.canon [0, 1, 5]]
  | 6 => [.canon [0, 1, 5, 25]]
  | 7 => [.canon [4]]
  | 100004 => [.canon [0, 1, 5]]
  | _ => []

def T_laws_eqIntS_ctx (N : Nat) : Ctx := []

def T_laws_eqIntS_lp0_sh (a3 : List Int) (b4 : List Int) (i5 : Int) : St := { env := [(0, .s (.one (.val (.slice (.int .i64)) (a3 : List Int)))), (1, .s (.one (.val (.slice (.int .i64)) (b4 : List Int)))), (5, .s (.one (.val (.int .i64) (i5 : Int))))], objs := [], nx := 0 }

def T_laws_eqIntS_lp0_e0 (a3 : List Int) (b4 : List Int) : St := { env := [(4, .s (.one (.val (.bool) (false : Bool))))], objs := [], nx := 0 }

def T_laws_eqIntS_lp0_e1 (a3 : List Int) (b4 : List Int) (i6 : Int) (t7 : Bool) : St := { env := [(0, .s (.one (.val (.slice (.int .i64)) (a3 : List Int)))), (1, .s (.one (.val (.slice (.int .i64)) (b4 : List Int)))), (5, .s (.one (.val (.int .i64) (i6 : Int)))), (14, .s (.one (.val (.bool) (t7 : Bool))))], objs := [], nx := 0 }

noncomputable def T_laws_eqIntS_lp0_m (N : Nat) {R : Type} (n : Nat) (st : St) (K : Ex → St → Option R) : Option R := loopN (roundG (T_laws_eqIntS_ann 100004) fun st k => sx tab (T_laws_eqIntS_ctx N) T_laws_eqIntS_ann N (nthLoop Try.f14 0) st k) n st K

theorem T_laws_eqIntS_lp0_step (N : Nat) {R : Type} (n : Nat) (K : Ex → St → Option R) (a3 : List Int) (b4 : List Int) (i5 : Int) :
    T_laws_eqIntS_lp0_m N (n + 1) (T_laws_eqIntS_lp0_sh a3 b4 i5) K =
    (bif decide (i5 < (ilen a3)) then
    (bif inb i5 (List.length a3) then
      (bif inb i5 (List.length b4) then
        (bif (List.getD a3 (Int.toNat i5) (0 : Int)) != (List.getD b4 (Int.toNat i5) (0 : Int)) then
          (K .ret (T_laws_eqIntS_lp0_e0 a3 b4))
          else
          (T_laws_eqIntS_lp0_m N n (T_laws_eqIntS_lp0_sh a3 b4 (iadd .i64 i5 (1 : Int))) K)) else none) else none)
    else
    (K (.exit 0) (T_laws_eqIntS_lp0_e1 a3 b4 i5 (decide (i5 < (ilen a3)))))) := by kernel_rfl

theorem T_laws_eqIntS_lp0_eq (N : Nat) {R : Type} (a3 : List Int) (b4 : List Int) (K : Ex → St → Option R) : ∀ (n : Nat) (i5 : Int), T_laws_eqIntS_lp0_m N n (T_laws_eqIntS_lp0_sh a3 b4 i5) K = T_laws_eqIntS_lp0 N a3 b4 (K .ret (T_laws_eqIntS_lp0_e0 a3 b4)) (fun i6 t7 => (K (.exit 0) (T_laws_eqIntS_lp0_e1 a3 b4 i6 t7))) n i5
  | 0, _ => rfl
  | n + 1, i5 => by rw [T_laws_eqIntS_lp0_step, T_laws_eqIntS_lp0]; (try simp only [T_laws_eqIntS_lp0_eq N a3 b4 K n])

theorem T_laws_eqIntS_c1 (N : Nat) (a1 : List Int) (b2 : List Int) :
    ((ctxK tab (T_laws_eqIntS_ctx N) T_laws_eqIntS_ann N (theCode Try.f14) [1, 1, 0, 1, 0] (retK tab (T_laws_eqIntS_sg N) Try.f14.results.toList some)) .ret (T_laws_eqIntS_lp0_e0 a1 b2)) =
    (some ((), (false, ()))) := by kernel_rfl

theorem T_laws_eqIntS_c2 (N : Nat) (a1 : List Int) (b2 : List Int) (i8 : Int) (t9 : Bool) :
    ((ctxK tab (T_laws_eqIntS_ctx N) T_laws_eqIntS_ann N (theCode Try.f14) [1, 1, 0, 1, 0] (retK tab (T_laws_eqIntS_sg N) Try.f14.results.toList some)) (.exit 0) (T_laws_eqIntS_lp0_e1 a1 b2 i8 t9)) =
    (some ((), (true, ()))) := by kernel_rfl

theorem T_laws_eqIntS_den (N : Nat) (a1 : List Int) (b2 : List Int) :
    den (R := ODen (T_laws_eqIntS_sg N).ps × RDen (T_laws_eqIntS_sg N).rs) tab (T_laws_eqIntS_ctx N) T_laws_eqIntS_ann N (T_laws_eqIntS_sg N) Try.f14 (a1, b2, ()) some =
    (bif (ilen a1) != (ilen b2) then
    (some ((), (false, ())))
    else
    (T_laws_eqIntS_lp0 N a1 b2
      (some ((), (false, ())))
      (fun i8 t9 =>
        (some ((), (true, ()))))
       N (0 : Int))) := by
  have h : den (R := ODen (T_laws_eqIntS_sg N).ps × RDen (T_laws_eqIntS_sg N).rs) tab (T_laws_eqIntS_ctx N) T_laws_eqIntS_ann N (T_laws_eqIntS_sg N) Try.f14 (a1, b2, ()) some =
    (bif (ilen a1) != (ilen b2) then
    (some ((), (false, ())))
    else
    (T_laws_eqIntS_lp0_m N N (T_laws_eqIntS_lp0_sh a1 b2 (0 : Int)) (ctxK tab (T_laws_eqIntS_ctx N) T_laws_eqIntS_ann N (theCode Try.f14) [1, 1, 0, 1, 0] (retK tab (T_laws_eqIntS_sg N) Try.f14.results.toList some)))) := by kernel_rfl
  rw [h]
  (try simp only [T_laws_eqIntS_lp0_eq, T_laws_eqIntS_c1, T_laws_eqIntS_c2]) <;> rfl

theorem T_laws_eqIntS_ok (N : Nat) : chkBody Try.f14 (T_laws_eqIntS_sg N).ps = true := by kernel_rfl

theorem T_laws_eqIntS_callable : Callable Try.prog 14 := callable_of Try.func14 (show chkFn Try.f14 = true by kernel_rfl)

theorem T_laws_eqIntS_good (N : Nat) : Good Try.prog 14 (T_laws_eqIntS_sg N) :=
  good_body tabOk ctx_nil Try.func14 (T_laws_eqIntS_ok N) (fun d _ h => ⟨N, (T_laws_eqIntS_den N d.1 d.2.1).trans h⟩)

def T_laws_FnExactSigSets_sg (N : Nat) : Sig := Sig.of [.v (.slice (.int .i64)) false, .v (.slice (.int .i64)) false] [(.bool, false)] (fun d => T_laws_FnExactSigSets N d.1 d.2.1)

def T_laws_FnExactSigSets_ann : Nat → List Ghost
  | _ => []

def T_laws_FnExactSigSets_ctx (N : Nat) : Ctx := [(12, T_laws_toIntS_sg N), (11, T_spec_SigSets_sg N), (13, T_impl_SigSets_sg N), (14, T_laws_eqIntS_sg N)]

theorem T_laws_FnExactSigSets_den (N : Nat) (aA1 : List Int) (aB2 : List Int) :
    den (R := ODen (T_laws_FnExactSigSets_sg N).ps × RDen (T_laws_FnExactSigSets_sg N).rs) tab (T_laws_FnExactSigSets_ctx N) T_laws_FnExactSigSets_ann N (T_laws_FnExactSigSets_sg N) Try.f4 (aA1, aB2, ()) some =
    (bif decide ((ilen aA1) > (1048576 : Int)) then
    (some ((), (true, ())))
    else
    (bif decide ((ilen aB2) > (1048576 : Int)) then
      (some ((), (true, ())))
      else
      ((T_laws_toIntS N aA1).bind fun o3 =>
        ((T_laws_toIntS N aB2).bind fun o4 =>
          ((T_spec_SigSets N o3.2.1 o4.2.1).bind fun o5 =>
            ((T_laws_toIntS N aA1).bind fun o6 =>
              ((T_laws_toIntS N aB2).bind fun o7 =>
                ((T_impl_SigSets N o6.2.1 o7.2.1).bind fun o8 =>
                  (bif !(beq o8.2.1 o5.2.1) then
                    (some ((), (false, ())))
                    else
                    ((T_laws_toIntS N aA1).bind fun o9 =>
                      ((T_laws_eqIntS N o6.2.1 o9.2.1).bind fun o10 =>
                        (bif !o10.2.1 then
                          (some ((), (false, ())))
                          else
                          ((T_laws_toIntS N aB2).bind fun o11 =>
                            ((T_laws_eqIntS N o7.2.1 o11.2.1).bind fun o12 =>
                              (bif !o12.2.1 then
                                (some ((), (false, ())))
                                else
                                (some ((), (true, ())))))))))))))))))) := by kernel_rfl

theorem T_laws_FnExactSigSets_ok (N : Nat) : chkBody Try.f4 (T_laws_FnExactSigSets_sg N).ps = true := by kernel_rfl

theorem T_laws_FnExactSigSets_callable : Callable Try.prog 4 := callable_of Try.func4 (show chkFn Try.f4 = true by kernel_rfl)

theorem T_laws_FnExactSigSets_good (N : Nat) : Good Try.prog 4 (T_laws_FnExactSigSets_sg N) :=
  good_body tabOk (ctx_cons (T_laws_toIntS_good N) T_laws_toIntS_callable (ctx_cons (T_spec_SigSets_good N) T_spec_SigSets_callable (ctx_cons (T_impl_SigSets_good N) T_impl_SigSets_callable (ctx_cons (T_laws_eqIntS_good N) T_laws_eqIntS_callable ctx_nil)))) Try.func4 (T_laws_FnExactSigSets_ok N) (fun d _ h => ⟨N, (T_laws_FnExactSigSets_den N d.1 d.2.1).trans h⟩)

end Go.Sx
