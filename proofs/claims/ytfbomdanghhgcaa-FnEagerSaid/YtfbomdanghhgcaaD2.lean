/- Each Go function does what its Lean function says. -/
import Derived.Test.YtfbomdanghhgcaaD
namespace Go.Sx
open Go.Proofs
set_option linter.unusedVariables false
set_option linter.unusedSimpArgs false

def T_spec_l7Walk_lp2_sh (code57 : List (Int × Int × Int × Int)) (kids58 : List (List (Int × Int × Int × Int))) (order59 : List Int) (next60 : Int) (i61 : Int) (l62 : List Int) (b63 : Int) (b64 : Int) (b65 : Int) (b66 : Int) (l67 : List (Int × List Int × List Int × List Int × Int)) (l68 : List Int) (l69 : List Int) (l70 : List Int) (l71 : List Int) (l72 : List Int) : St := { env := [(0, .s (.one (.val (.slice (.prod (.int .i64) (.prod (.int .i64) (.prod (.int .i64) (.int .i64))))) (code57 : List (Int × Int × Int × Int))))), (1, .s (.one (.val (.slice (.slice (.prod (.int .i64) (.prod (.int .i64) (.prod (.int .i64) (.int .i64)))))) (kids58 : List (List (Int × Int × Int × Int)))))), (2, .s (.one (.val (.slice (.int .i64)) (order59 : List Int)))), (3, .s (.one (.own 0))), (9, .s (.one (.ptr 1 0))), (10, .s (.one (.ptr 2 0))), (11, .s (.one (.ptr 3 0))), (12, .s (.one (.own 4))), (15, .s (.one (.val (.int .i64) (next60 : Int)))), (18, .s (.one (.own 5))), (21, .s (.one (.val (.int .i64) (i61 : Int))))], objs := [(0, .arr (.int .i64) (l62 : List Int)), (1, .box [.own 6, .own 7, .val (.int .i64) (b63 : Int)]), (2, .box [.val (.int .i64) (b64 : Int), .nils, .nils, .nils, .val (.int .i64) (b65 : Int)]), (3, .box [.own 8, .own 9, .val (.int .i64) (b66 : Int)]), (4, .arr (.prod (.int .i64) (.prod (.slice (.int .i64)) (.prod (.slice (.int .i64)) (.prod (.slice (.int .i64)) (.int .i64))))) (l67 : List (Int × List Int × List Int × List Int × Int))), (5, .arr (.int .i64) (l68 : List Int)), (6, .arr (.int .i64) (l69 : List Int)), (7, .arr (.int .i64) (l70 : List Int)), (8, .arr (.int .i64) (l71 : List Int)), (9, .arr (.int .i64) (l72 : List Int))], nx := 10 }

def T_spec_l7Walk_lp2_e0 (code57 : List (Int × Int × Int × Int)) (kids58 : List (List (Int × Int × Int × Int))) (order59 : List Int) (next60 : Int) (b63 : Int) (b64 : Int) (b65 : Int) (b66 : Int) (l67 : List (Int × List Int × List Int × List Int × Int)) (l68 : List Int) (l69 : List Int) (l70 : List Int) (l71 : List Int) (l72 : List Int) (i73 : Int) (t74 : Bool) (l75 : List Int) : St := { env := [(0, .s (.one (.val (.slice (.prod (.int .i64) (.prod (.int .i64) (.prod (.int .i64) (.int .i64))))) (code57 : List (Int × Int × Int × Int))))), (1, .s (.one (.val (.slice (.slice (.prod (.int .i64) (.prod (.int .i64) (.prod (.int .i64) (.int .i64)))))) (kids58 : List (List (Int × Int × Int × Int)))))), (2, .s (.one (.val (.slice (.int .i64)) (order59 : List Int)))), (3, .s (.one (.own 0))), (9, .s (.one (.ptr 1 0))), (10, .s (.one (.ptr 2 0))), (11, .s (.one (.ptr 3 0))), (12, .s (.one (.own 4))), (15, .s (.one (.val (.int .i64) (next60 : Int)))), (18, .s (.one (.own 5))), (21, .s (.one (.val (.int .i64) (i73 : Int)))), (201, .s (.one (.val (.bool) (t74 : Bool))))], objs := [(0, .arr (.int .i64) (l75 : List Int)), (1, .box [.own 6, .own 7, .val (.int .i64) (b63 : Int)]), (2, .box [.val (.int .i64) (b64 : Int), .nils, .nils, .nils, .val (.int .i64) (b65 : Int)]), (3, .box [.own 8, .own 9, .val (.int .i64) (b66 : Int)]), (4, .arr (.prod (.int .i64) (.prod (.slice (.int .i64)) (.prod (.slice (.int .i64)) (.prod (.slice (.int .i64)) (.int .i64))))) (l67 : List (Int × List Int × List Int × List Int × Int))), (5, .arr (.int .i64) (l68 : List Int)), (6, .arr (.int .i64) (l69 : List Int)), (7, .arr (.int .i64) (l70 : List Int)), (8, .arr (.int .i64) (l71 : List Int)), (9, .arr (.int .i64) (l72 : List Int))], nx := 10 }

noncomputable def T_spec_l7Walk_lp2_m (N m : Nat) {R : Type} (n : Nat) (st : St) (K : Ex → St → Option R) : Option R := loopN (roundG (T_spec_l7Walk_ann 100044) fun st k => sx tab (T_spec_l7Walk_ctx N m) T_spec_l7Walk_ann N (nthLoop Try.f112 2) st k) n st K

theorem T_spec_l7Walk_lp2_step (N m : Nat) {R : Type} (n : Nat) (K : Ex → St → Option R) (code57 : List (Int × Int × Int × Int)) (kids58 : List (List (Int × Int × Int × Int))) (order59 : List Int) (next60 : Int) (i61 : Int) (l62 : List Int) (b63 : Int) (b64 : Int) (b65 : Int) (b66 : Int) (l67 : List (Int × List Int × List Int × List Int × Int)) (l68 : List Int) (l69 : List Int) (l70 : List Int) (l71 : List Int) (l72 : List Int) :
    T_spec_l7Walk_lp2_m N m (n + 1) (T_spec_l7Walk_lp2_sh code57 kids58 order59 next60 i61 l62 b63 b64 b65 b66 l67 l68 l69 l70 l71 l72) K =
    (bif decide (i61 < (ilen l68)) then
 (bif inb i61 (List.length l68) then
 (bif inb i61 (List.length l62) then
 (T_spec_l7Walk_lp2_m N m n (T_spec_l7Walk_lp2_sh code57 kids58 order59 next60 (iadd .i64 i61 (1 : Int)) (List.set l62 (Int.toNat i61) (List.getD l68 (Int.toNat i61) (0 : Int))) b63 b64 b65 b66 l67 l68 l69 l70 l71 l72) K) else none) else none)
 else
 (K (.exit 5) (T_spec_l7Walk_lp2_e0 code57 kids58 order59 next60 b63 b64 b65 b66 l67 l68 l69 l70 l71 l72 i61 (decide (i61 < (ilen l68))) l62))) := by kernel_rfl

theorem T_spec_l7Walk_lp2_eq (N m : Nat) {R : Type} (code57 : List (Int × Int × Int × Int)) (kids58 : List (List (Int × Int × Int × Int))) (order59 : List Int) (next60 : Int) (b63 : Int) (b64 : Int) (b65 : Int) (b66 : Int) (l67 : List (Int × List Int × List Int × List Int × Int)) (l68 : List Int) (l69 : List Int) (l70 : List Int) (l71 : List Int) (l72 : List Int) (K : Ex → St → Option R) : ∀ (n : Nat) (i61 : Int) (l62 : List Int), T_spec_l7Walk_lp2_m N m n (T_spec_l7Walk_lp2_sh code57 kids58 order59 next60 i61 l62 b63 b64 b65 b66 l67 l68 l69 l70 l71 l72) K = T_spec_l7Walk_lp2 N (T_spec_l7Walk_r N m) code57 kids58 order59 next60 b63 b64 b65 b66 l67 l68 l69 l70 l71 l72 (fun i73 t74 l75 => (K (.exit 5) (T_spec_l7Walk_lp2_e0 code57 kids58 order59 next60 b63 b64 b65 b66 l67 l68 l69 l70 l71 l72 i73 t74 l75))) n i61 l62
  | 0, _, _ => rfl
  | n + 1, i61, l62 => by rw [T_spec_l7Walk_lp2_step, T_spec_l7Walk_lp2]; (try simp only [T_spec_l7Walk_lp2_eq N m code57 kids58 order59 next60 b63 b64 b65 b66 l67 l68 l69 l70 l71 l72 K n])

def T_spec_l7Walk_lp0_sh (code8 : List (Int × Int × Int × Int)) (kids9 : List (List (Int × Int × Int × Int))) (order10 : List Int) (pc11 : Int) (l12 : List Int) (b13 : Int) (b16 : Int) (l17 : List (Int × List Int × List Int × List Int × Int)) (l18 : List Int) (l19 : List Int) (l20 : List Int) (l21 : List Int) : St := { env := [(0, .s (.one (.val (.slice (.prod (.int .i64) (.prod (.int .i64) (.prod (.int .i64) (.int .i64))))) (code8 : List (Int × Int × Int × Int))))), (1, .s (.one (.val (.slice (.slice (.prod (.int .i64) (.prod (.int .i64) (.prod (.int .i64) (.int .i64)))))) (kids9 : List (List (Int × Int × Int × Int)))))), (2, .s (.one (.val (.slice (.int .i64)) (order10 : List Int)))), (3, .s (.one (.own 0))), (9, .s (.one (.ptr 1 0))), (10, .s (.one (.ptr 2 0))), (11, .s (.one (.ptr 3 0))), (12, .s (.one (.own 4))), (13, .s (.one (.val (.int .i64) (pc11 : Int))))], objs := [(0, .arr (.int .i64) (l12 : List Int)), (1, .box [.own 5, .own 6, .val (.int .i64) (b13 : Int)]), (2, .box [.val (.int .i64) ((0 : Int) : Int), .nils, .nils, .nils, .val (.int .i64) ((0 : Int) : Int)]), (3, .box [.own 7, .own 8, .val (.int .i64) (b16 : Int)]), (4, .arr (.prod (.int .i64) (.prod (.slice (.int .i64)) (.prod (.slice (.int .i64)) (.prod (.slice (.int .i64)) (.int .i64))))) (l17 : List (Int × List Int × List Int × List Int × Int))), (5, .arr (.int .i64) (l18 : List Int)), (6, .arr (.int .i64) (l19 : List Int)), (7, .arr (.int .i64) (l20 : List Int)), (8, .arr (.int .i64) (l21 : List Int))], nx := 9 }

def T_spec_l7Walk_lp0_e0 (code8 : List (Int × Int × Int × Int)) (kids9 : List (List (Int × Int × Int × Int))) (order10 : List Int) (b16 : Int) (l20 : List Int) (l21 : List Int) (l93 : List Int) : St := { env := [(10, .s (.one (.ptr 0 0)))], objs := [(0, .box [.val (.int .i64) ((2 : Int) : Int), .own 1, .own 2, .own 3, .val (.int .i64) (b16 : Int)]), (1, .arr (.int .i64) (l93 : List Int)), (2, .arr (.int .i64) (l20 : List Int)), (3, .arr (.int .i64) (l21 : List Int))], nx := 4 }

def T_spec_l7Walk_lp0_e1 (code8 : List (Int × Int × Int × Int)) (kids9 : List (List (Int × Int × Int × Int))) (order10 : List Int) (b16 : Int) (l20 : List Int) (l21 : List Int) (pc94 : Int) (t95 : Bool) (l96 : List Int) (b97 : Int) (l98 : List (Int × List Int × List Int × List Int × Int)) (l99 : List Int) (l100 : List Int) : St := { env := [(0, .s (.one (.val (.slice (.prod (.int .i64) (.prod (.int .i64) (.prod (.int .i64) (.int .i64))))) (code8 : List (Int × Int × Int × Int))))), (1, .s (.one (.val (.slice (.slice (.prod (.int .i64) (.prod (.int .i64) (.prod (.int .i64) (.int .i64)))))) (kids9 : List (List (Int × Int × Int × Int)))))), (2, .s (.one (.val (.slice (.int .i64)) (order10 : List Int)))), (3, .s (.one (.own 0))), (9, .s (.one (.ptr 1 0))), (10, .s (.one (.ptr 2 0))), (11, .s (.one (.ptr 3 0))), (12, .s (.one (.own 4))), (13, .s (.one (.val (.int .i64) (pc94 : Int)))), (37, .s (.one (.val (.bool) (t95 : Bool))))], objs := [(0, .arr (.int .i64) (l96 : List Int)), (1, .box [.own 5, .own 6, .val (.int .i64) (b97 : Int)]), (2, .box [.val (.int .i64) ((0 : Int) : Int), .nils, .nils, .nils, .val (.int .i64) ((0 : Int) : Int)]), (3, .box [.own 7, .own 8, .val (.int .i64) (b16 : Int)]), (4, .arr (.prod (.int .i64) (.prod (.slice (.int .i64)) (.prod (.slice (.int .i64)) (.prod (.slice (.int .i64)) (.int .i64))))) (l98 : List (Int × List Int × List Int × List Int × Int))), (5, .arr (.int .i64) (l99 : List Int)), (6, .arr (.int .i64) (l100 : List Int)), (7, .arr (.int .i64) (l20 : List Int)), (8, .arr (.int .i64) (l21 : List Int))], nx := 9 }

noncomputable def T_spec_l7Walk_lp0_m (N m : Nat) {R : Type} (n : Nat) (st : St) (K : Ex → St → Option R) : Option R := loopN (roundG (T_spec_l7Walk_ann 100006) fun st k => sx tab (T_spec_l7Walk_ctx N m) T_spec_l7Walk_ann N (nthLoop Try.f112 0) st k) n st K

theorem T_spec_l7Walk_c2 (N m : Nat) {R : Type} (n : Nat) (K : Ex → St → Option R) (code8 : List (Int × Int × Int × Int)) (kids9 : List (List (Int × Int × Int × Int))) (order10 : List Int) (pc11 : Int) (b106 : Int) (b16 : Int) (l17 : List (Int × List Int × List Int × List Int × Int)) (l107 : List Int) (l108 : List Int) (l109 : List Int) (l20 : List Int) (l21 : List Int) (i110 : Int) (t111 : Bool) (l112 : List Int) :
    ((ctxK tab (T_spec_l7Walk_ctx N m) T_spec_l7Walk_ann N (nthLoop Try.f112 0) [1, 0, 1, 1, 0, 1, 0, 1, 1, 1, 1, 1, 1, 1, 1, 1, 1, 1, 1, 1, 0, 1, 1, 1, 0] (backK (T_spec_l7Walk_ann 100006) (T_spec_l7Walk_lp0_m N m n) K)) (.exit 5) (T_spec_l7Walk_lp2_e0 code8 kids9 order10 (iadd .i64 pc11 (1 : Int)) b106 (0 : Int) (0 : Int) b16 l17 l107 l108 l109 l20 l21 i110 t111 l112)) =
    (T_spec_l7Walk_lp0_m N m n (T_spec_l7Walk_lp0_sh code8 kids9 order10 (iadd .i64 pc11 (1 : Int)) l112 b106 b16 l17 l108 l109 l20 l21) K) := by kernel_rfl

theorem T_spec_l7Walk_c1 (N m : Nat) {R : Type} (n : Nat) (K : Ex → St → Option R) (code8 : List (Int × Int × Int × Int)) (kids9 : List (List (Int × Int × Int × Int))) (order10 : List Int) (pc11 : Int) (l12 : List Int) (b16 : Int) (l17 : List (Int × List Int × List Int × List Int × Int)) (l20 : List Int) (l21 : List Int) (i104 : Int) (t105 : Bool) (b106 : Int) (l107 : List Int) (l108 : List Int) (l109 : List Int) :
    ((ctxK tab (T_spec_l7Walk_ctx N m) T_spec_l7Walk_ann N (nthLoop Try.f112 0) [1, 0, 1, 1, 0, 1, 0, 1, 1, 1, 1, 1, 1, 1, 1, 1, 1, 1, 1, 1, 0, 1, 0, 1, 0] (backK (T_spec_l7Walk_ann 100006) (T_spec_l7Walk_lp0_m N m n) K)) (.exit 3) (T_spec_l7Walk_lp1_e0 code8 kids9 order10 (iadd .i64 pc11 (1 : Int)) l12 (0 : Int) (0 : Int) b16 l17 l20 l21 i104 t105 b106 l107 l108 l109)) =
    (T_spec_l7Walk_lp2 N (T_spec_l7Walk_r N m) code8 kids9 order10 (iadd .i64 pc11 (1 : Int)) b106 (0 : Int) (0 : Int) b16 l17 l107 l108 l109 l20 l21
 (fun i110 t111 l112 =>
   (T_spec_l7Walk_lp0_m N m n (T_spec_l7Walk_lp0_sh code8 kids9 order10 (iadd .i64 pc11 (1 : Int)) l112 b106 b16 l17 l108 l109 l20 l21) K))
  N (0 : Int) l12) := by
  have h : ((ctxK tab (T_spec_l7Walk_ctx N m) T_spec_l7Walk_ann N (nthLoop Try.f112 0) [1, 0, 1, 1, 0, 1, 0, 1, 1, 1, 1, 1, 1, 1, 1, 1, 1, 1, 1, 1, 0, 1, 0, 1, 0] (backK (T_spec_l7Walk_ann 100006) (T_spec_l7Walk_lp0_m N m n) K)) (.exit 3) (T_spec_l7Walk_lp1_e0 code8 kids9 order10 (iadd .i64 pc11 (1 : Int)) l12 (0 : Int) (0 : Int) b16 l17 l20 l21 i104 t105 b106 l107 l108 l109)) =
    (T_spec_l7Walk_lp2_m N m N (T_spec_l7Walk_lp2_sh code8 kids9 order10 (iadd .i64 pc11 (1 : Int)) (0 : Int) l12 b106 (0 : Int) (0 : Int) b16 l17 l107 l108 l109 l20 l21) (ctxK tab (T_spec_l7Walk_ctx N m) T_spec_l7Walk_ann N (nthLoop Try.f112 0) [1, 0, 1, 1, 0, 1, 0, 1, 1, 1, 1, 1, 1, 1, 1, 1, 1, 1, 1, 1, 0, 1, 1, 1, 0] (backK (T_spec_l7Walk_ann 100006) (T_spec_l7Walk_lp0_m N m n) K))) := by kernel_rfl
  rw [h]
  (try simp only [T_spec_l7Walk_lp2_eq, T_spec_l7Walk_c2]) <;> rfl

theorem T_spec_l7Walk_lp0_step (N m : Nat) {R : Type} (n : Nat) (K : Ex → St → Option R) (code8 : List (Int × Int × Int × Int)) (kids9 : List (List (Int × Int × Int × Int))) (order10 : List Int) (pc11 : Int) (l12 : List Int) (b13 : Int) (b16 : Int) (l17 : List (Int × List Int × List Int × List Int × Int)) (l18 : List Int) (l19 : List Int) (l20 : List Int) (l21 : List Int) :
    T_spec_l7Walk_lp0_m N m (n + 1) (T_spec_l7Walk_lp0_sh code8 kids9 order10 pc11 l12 b13 b16 l17 l18 l19 l20 l21) K =
    (bif decide (pc11 < (ilen code8)) then
 (bif inb pc11 (List.length code8) then
 (bif (List.getD code8 (Int.toNat pc11) ((0 : Int), ((0 : Int), ((0 : Int), (0 : Int))))).1 == (5 : Int) then
 (bif inb (List.getD code8 (Int.toNat pc11) ((0 : Int), ((0 : Int), ((0 : Int), (0 : Int))))).2.2.1 (List.length l18) then
 (bif inb (List.getD code8 (Int.toNat pc11) ((0 : Int), ((0 : Int), ((0 : Int), (0 : Int))))).2.1 (List.length l12) then
 (T_spec_l7Walk_lp0_m N m n (T_spec_l7Walk_lp0_sh code8 kids9 order10 (iadd .i64 pc11 (1 : Int)) (List.set l12 (Int.toNat (List.getD code8 (Int.toNat pc11) ((0 : Int), ((0 : Int), ((0 : Int), (0 : Int))))).2.1) (List.getD l18 (Int.toNat (List.getD code8 (Int.toNat pc11) ((0 : Int), ((0 : Int), ((0 : Int), (0 : Int))))).2.2.1) (0 : Int))) b13 b16 l17 l18 l19 l20 l21) K) else none) else none)
 else
 (bif (List.getD code8 (Int.toNat pc11) ((0 : Int), ((0 : Int), ((0 : Int), (0 : Int))))).1 == (6 : Int) then
 (bif inb (List.getD code8 (Int.toNat pc11) ((0 : Int), ((0 : Int), ((0 : Int), (0 : Int))))).2.2.1 (List.length l12) then
 (bif inb (List.getD code8 (Int.toNat pc11) ((0 : Int), ((0 : Int), ((0 : Int), (0 : Int))))).2.1 (List.length l18) then
 (T_spec_l7Walk_lp0_m N m n (T_spec_l7Walk_lp0_sh code8 kids9 order10 (iadd .i64 pc11 (1 : Int)) l12 b13 b16 l17 (List.set l18 (Int.toNat (List.getD code8 (Int.toNat pc11) ((0 : Int), ((0 : Int), ((0 : Int), (0 : Int))))).2.1) (List.getD l12 (Int.toNat (List.getD code8 (Int.toNat pc11) ((0 : Int), ((0 : Int), ((0 : Int), (0 : Int))))).2.2.1) (0 : Int))) l19 l20 l21) K) else none) else none)
 else
 (bif (List.getD code8 (Int.toNat pc11) ((0 : Int), ((0 : Int), ((0 : Int), (0 : Int))))).1 == (7 : Int) then
 (bif inb (List.getD code8 (Int.toNat pc11) ((0 : Int), ((0 : Int), ((0 : Int), (0 : Int))))).2.1 (List.length l12) then
 (bif (List.getD l12 (Int.toNat (List.getD code8 (Int.toNat pc11) ((0 : Int), ((0 : Int), ((0 : Int), (0 : Int))))).2.1) (0 : Int)) == (0 : Int) then
 (T_spec_l7Walk_lp0_m N m n (T_spec_l7Walk_lp0_sh code8 kids9 order10 (iadd .i64 (iadd .i64 pc11 (1 : Int)) (List.getD code8 (Int.toNat pc11) ((0 : Int), ((0 : Int), ((0 : Int), (0 : Int))))).2.2.1) l12 b13 b16 l17 l18 l19 l20 l21) K)
 else
 (T_spec_l7Walk_lp0_m N m n (T_spec_l7Walk_lp0_sh code8 kids9 order10 (iadd .i64 pc11 (1 : Int)) l12 b13 b16 l17 l18 l19 l20 l21) K)) else none)
 else
 (bif (List.getD code8 (Int.toNat pc11) ((0 : Int), ((0 : Int), ((0 : Int), (0 : Int))))).1 == (8 : Int) then
 (bif room ((List.length ([] : List Int)) + (List.length l12)) then
 ((T_spec_l7Copy N (l18, (l19, b13))).bind fun o101 =>
 (bif room ((List.length l17) + (List.length ([(pc11, (List.append ([] : List Int) l12, o101.2.1))]))) then
 (T_spec_l7Walk_lp0_m N m n (T_spec_l7Walk_lp0_sh code8 kids9 order10 (iadd .i64 pc11 (1 : Int)) l12 b13 b16 (List.append l17 ([(pc11, (List.append ([] : List Int) l12, o101.2.1))])) l18 l19 l20 l21) K) else none)) else none)
 else
 (bif (List.getD code8 (Int.toNat pc11) ((0 : Int), ((0 : Int), ((0 : Int), (0 : Int))))).1 == (9 : Int) then
 (bif inb (isub .i64 (ilen l17) (1 : Int)) (List.length l17) then
 (bif (decide ((0 : Int) ≤ (isub .i64 (ilen l17) (1 : Int)))) && (decide ((isub .i64 (ilen l17) (1 : Int)) ≤ ((List.length l17) : Int))) then
 (bif inb (List.getD l17 (Int.toNat (isub .i64 (ilen l17) (1 : Int))) ((0 : Int), (([] : List Int), (([] : List Int), (([] : List Int), (0 : Int)))))).1 (List.length code8) then
 (bif inb (List.getD code8 (Int.toNat (List.getD l17 (Int.toNat (isub .i64 (ilen l17) (1 : Int))) ((0 : Int), (([] : List Int), (([] : List Int), (([] : List Int), (0 : Int)))))).1) ((0 : Int), ((0 : Int), ((0 : Int), (0 : Int))))).2.1 (List.length l12) then
 (T_spec_l7Walk_lp0_m N m n (T_spec_l7Walk_lp0_sh code8 kids9 order10 (iadd .i64 pc11 (1 : Int)) (List.set l12 (Int.toNat (List.getD code8 (Int.toNat (List.getD l17 (Int.toNat (isub .i64 (ilen l17) (1 : Int))) ((0 : Int), (([] : List Int), (([] : List Int), (([] : List Int), (0 : Int)))))).1) ((0 : Int), ((0 : Int), ((0 : Int), (0 : Int))))).2.1) (1 : Int)) b13 b16 (List.take (Int.toNat (isub .i64 (ilen l17) (1 : Int))) l17) l18 l19 l20 l21) K) else none) else none) else none) else none)
 else
 (bif (List.getD code8 (Int.toNat pc11) ((0 : Int), ((0 : Int), ((0 : Int), (0 : Int))))).1 == (10 : Int) then
 (bif (ilen l17) == (0 : Int) then
 (K .ret (T_spec_l7Walk_lp0_e0 code8 kids9 order10 b16 l20 l21 l12))
 else
 (bif inb (isub .i64 (ilen l17) (1 : Int)) (List.length l17) then
 (bif (decide ((0 : Int) ≤ (isub .i64 (ilen l17) (1 : Int)))) && (decide ((isub .i64 (ilen l17) (1 : Int)) ≤ ((List.length l17) : Int))) then
 (bif room ((List.length ([] : List Int)) + (List.length (List.getD l17 (Int.toNat (isub .i64 (ilen l17) (1 : Int))) ((0 : Int), (([] : List Int), (([] : List Int), (([] : List Int), (0 : Int)))))).2.1)) then
 ((T_spec_l7Copy N (List.getD l17 (Int.toNat (isub .i64 (ilen l17) (1 : Int))) ((0 : Int), (([] : List Int), (([] : List Int), (([] : List Int), (0 : Int)))))).2.2).bind fun o102 =>
 (bif inb (List.getD l17 (Int.toNat (isub .i64 (ilen l17) (1 : Int))) ((0 : Int), (([] : List Int), (([] : List Int), (([] : List Int), (0 : Int)))))).1 (List.length code8) then
 (bif inb (List.getD code8 (Int.toNat (List.getD l17 (Int.toNat (isub .i64 (ilen l17) (1 : Int))) ((0 : Int), (([] : List Int), (([] : List Int), (([] : List Int), (0 : Int)))))).1) ((0 : Int), ((0 : Int), ((0 : Int), (0 : Int))))).2.1 (List.length (List.append ([] : List Int) (List.getD l17 (Int.toNat (isub .i64 (ilen l17) (1 : Int))) ((0 : Int), (([] : List Int), (([] : List Int), (([] : List Int), (0 : Int)))))).2.1)) then
 ((T_spec_EndOf N code8 (List.getD l17 (Int.toNat (isub .i64 (ilen l17) (1 : Int))) ((0 : Int), (([] : List Int), (([] : List Int), (([] : List Int), (0 : Int)))))).1).bind fun o103 =>
 (T_spec_l7Walk_lp0_m N m n (T_spec_l7Walk_lp0_sh code8 kids9 order10 (iadd .i64 o103.2.1 (1 : Int)) (List.set (List.append ([] : List Int) (List.getD l17 (Int.toNat (isub .i64 (ilen l17) (1 : Int))) ((0 : Int), (([] : List Int), (([] : List Int), (([] : List Int), (0 : Int)))))).2.1) (Int.toNat (List.getD code8 (Int.toNat (List.getD l17 (Int.toNat (isub .i64 (ilen l17) (1 : Int))) ((0 : Int), (([] : List Int), (([] : List Int), (([] : List Int), (0 : Int)))))).1) ((0 : Int), ((0 : Int), ((0 : Int), (0 : Int))))).2.1) (0 : Int)) o102.2.1.2.2 b16 (List.take (Int.toNat (isub .i64 (ilen l17) (1 : Int))) l17) o102.2.1.1 o102.2.1.2.1 l20 l21) K)) else none) else none)) else none) else none) else none))
 else
 (bif (List.getD code8 (Int.toNat pc11) ((0 : Int), ((0 : Int), ((0 : Int), (0 : Int))))).1 == (11 : Int) then
 (bif ((decide ((0 : Int) ≤ (ilen kids9))) && (decide ((ilen kids9) ≤ (ilen kids9)))) && (room (Int.toNat (ilen kids9))) then
 (T_spec_l7Walk_lp1 N (T_spec_l7Walk_r N m) code8 kids9 order10 (iadd .i64 pc11 (1 : Int)) l12 (0 : Int) (0 : Int) b16 l17 l20 l21
 (fun i104 t105 b106 l107 l108 l109 =>
   (T_spec_l7Walk_lp2 N (T_spec_l7Walk_r N m) code8 kids9 order10 (iadd .i64 pc11 (1 : Int)) b106 (0 : Int) (0 : Int) b16 l17 l107 l108 l109 l20 l21
 (fun i110 t111 l112 =>
   (T_spec_l7Walk_lp0_m N m n (T_spec_l7Walk_lp0_sh code8 kids9 order10 (iadd .i64 pc11 (1 : Int)) l112 b106 b16 l17 l108 l109 l20 l21) K))
  N (0 : Int) l12))
  N (0 : Int) b13 (List.replicate (Int.toNat (ilen kids9)) (0 : Int)) l18 l19) else none)
 else
 (bif (List.getD code8 (Int.toNat pc11) ((0 : Int), ((0 : Int), ((0 : Int), (0 : Int))))).1 == (12 : Int) then
 (bif inb (List.getD code8 (Int.toNat pc11) ((0 : Int), ((0 : Int), ((0 : Int), (0 : Int))))).2.1 (List.length l19) then
 (bif inb (List.getD code8 (Int.toNat pc11) ((0 : Int), ((0 : Int), ((0 : Int), (0 : Int))))).2.2.1 (List.length l12) then
 (bif inb (List.getD code8 (Int.toNat pc11) ((0 : Int), ((0 : Int), ((0 : Int), (0 : Int))))).2.1 (List.length l19) then
 (bif inz (65536 : Int) then
 (bif inb (List.getD code8 (Int.toNat pc11) ((0 : Int), ((0 : Int), ((0 : Int), (0 : Int))))).2.2.2 (List.length l12) then
 (T_spec_l7Walk_lp0_m N m n (T_spec_l7Walk_lp0_sh code8 kids9 order10 (iadd .i64 pc11 (1 : Int)) (List.set l12 (Int.toNat (List.getD code8 (Int.toNat pc11) ((0 : Int), ((0 : Int), ((0 : Int), (0 : Int))))).2.2.2) (irem (List.getD l19 (Int.toNat (List.getD code8 (Int.toNat pc11) ((0 : Int), ((0 : Int), ((0 : Int), (0 : Int))))).2.1) (0 : Int)) (65536 : Int))) b13 b16 l17 l18 (List.set l19 (Int.toNat (List.getD code8 (Int.toNat pc11) ((0 : Int), ((0 : Int), ((0 : Int), (0 : Int))))).2.1) (iadd .i64 (1 : Int) (List.getD l12 (Int.toNat (List.getD code8 (Int.toNat pc11) ((0 : Int), ((0 : Int), ((0 : Int), (0 : Int))))).2.2.1) (0 : Int)))) l20 l21) K) else none) else none) else none) else none) else none)
 else
 (bif (List.getD code8 (Int.toNat pc11) ((0 : Int), ((0 : Int), ((0 : Int), (0 : Int))))).1 == (13 : Int) then
 (bif inb (List.getD code8 (Int.toNat pc11) ((0 : Int), ((0 : Int), ((0 : Int), (0 : Int))))).2.2.1 (List.length l19) then
 (bif inz (65536 : Int) then
 (bif inb (List.getD code8 (Int.toNat pc11) ((0 : Int), ((0 : Int), ((0 : Int), (0 : Int))))).2.1 (List.length l12) then
 (T_spec_l7Walk_lp0_m N m n (T_spec_l7Walk_lp0_sh code8 kids9 order10 (iadd .i64 pc11 (1 : Int)) (List.set l12 (Int.toNat (List.getD code8 (Int.toNat pc11) ((0 : Int), ((0 : Int), ((0 : Int), (0 : Int))))).2.1) (irem (List.getD l19 (Int.toNat (List.getD code8 (Int.toNat pc11) ((0 : Int), ((0 : Int), ((0 : Int), (0 : Int))))).2.2.1) (0 : Int)) (65536 : Int))) b13 b16 l17 l18 l19 l20 l21) K) else none) else none) else none)
 else
 (bif (List.getD code8 (Int.toNat pc11) ((0 : Int), ((0 : Int), ((0 : Int), (0 : Int))))).1 == (14 : Int) then
 (bif inb (List.getD code8 (Int.toNat pc11) ((0 : Int), ((0 : Int), ((0 : Int), (0 : Int))))).2.1 (List.length l19) then
 (bif inb (List.getD code8 (Int.toNat pc11) ((0 : Int), ((0 : Int), ((0 : Int), (0 : Int))))).2.1 (List.length l19) then
 (bif inz (65536 : Int) then
 (bif inb (List.getD code8 (Int.toNat pc11) ((0 : Int), ((0 : Int), ((0 : Int), (0 : Int))))).2.2.1 (List.length l12) then
 (T_spec_l7Walk_lp0_m N m n (T_spec_l7Walk_lp0_sh code8 kids9 order10 (iadd .i64 pc11 (1 : Int)) (List.set l12 (Int.toNat (List.getD code8 (Int.toNat pc11) ((0 : Int), ((0 : Int), ((0 : Int), (0 : Int))))).2.2.1) (irem (List.getD l19 (Int.toNat (List.getD code8 (Int.toNat pc11) ((0 : Int), ((0 : Int), ((0 : Int), (0 : Int))))).2.1) (0 : Int)) (65536 : Int))) b13 b16 l17 l18 (List.set l19 (Int.toNat (List.getD code8 (Int.toNat pc11) ((0 : Int), ((0 : Int), ((0 : Int), (0 : Int))))).2.1) (0 : Int)) l20 l21) K) else none) else none) else none) else none)
 else
 (bif (List.getD code8 (Int.toNat pc11) ((0 : Int), ((0 : Int), ((0 : Int), (0 : Int))))).1 == (15 : Int) then
 (bif inb (List.getD code8 (Int.toNat pc11) ((0 : Int), ((0 : Int), ((0 : Int), (0 : Int))))).2.1 (List.length l12) then
 (bif inz (65536 : Int) then
 (T_spec_l7Walk_lp0_m N m n (T_spec_l7Walk_lp0_sh code8 kids9 order10 (iadd .i64 pc11 (1 : Int)) l12 (irem (iadd .i64 b13 (List.getD l12 (Int.toNat (List.getD code8 (Int.toNat pc11) ((0 : Int), ((0 : Int), ((0 : Int), (0 : Int))))).2.1) (0 : Int))) (65536 : Int)) b16 l17 l18 l19 l20 l21) K) else none) else none)
 else
 (bif (List.getD code8 (Int.toNat pc11) ((0 : Int), ((0 : Int), ((0 : Int), (0 : Int))))).1 == (16 : Int) then
 (bif inb (List.getD code8 (Int.toNat pc11) ((0 : Int), ((0 : Int), ((0 : Int), (0 : Int))))).2.1 (List.length l12) then
 (T_spec_l7Walk_lp0_m N m n (T_spec_l7Walk_lp0_sh code8 kids9 order10 (iadd .i64 pc11 (1 : Int)) (List.set l12 (Int.toNat (List.getD code8 (Int.toNat pc11) ((0 : Int), ((0 : Int), ((0 : Int), (0 : Int))))).2.1) b13) b13 b16 l17 l18 l19 l20 l21) K) else none)
 else
 ((T_spec_Calc N (List.getD code8 (Int.toNat pc11) ((0 : Int), ((0 : Int), ((0 : Int), (0 : Int))))) l12).bind fun o113 =>
 (T_spec_l7Walk_lp0_m N m n (T_spec_l7Walk_lp0_sh code8 kids9 order10 (iadd .i64 pc11 (1 : Int)) o113.2.1 b13 b16 l17 l18 l19 l20 l21) K)))))))))))))) else none)
 else
 (K (.exit 0) (T_spec_l7Walk_lp0_e1 code8 kids9 order10 b16 l20 l21 pc11 (decide (pc11 < (ilen code8))) l12 b13 l17 l18 l19))) := by
  have h : T_spec_l7Walk_lp0_m N m (n + 1) (T_spec_l7Walk_lp0_sh code8 kids9 order10 pc11 l12 b13 b16 l17 l18 l19 l20 l21) K =
    (bif decide (pc11 < (ilen code8)) then
 (bif inb pc11 (List.length code8) then
 (bif (List.getD code8 (Int.toNat pc11) ((0 : Int), ((0 : Int), ((0 : Int), (0 : Int))))).1 == (5 : Int) then
 (bif inb (List.getD code8 (Int.toNat pc11) ((0 : Int), ((0 : Int), ((0 : Int), (0 : Int))))).2.2.1 (List.length l18) then
 (bif inb (List.getD code8 (Int.toNat pc11) ((0 : Int), ((0 : Int), ((0 : Int), (0 : Int))))).2.1 (List.length l12) then
 (T_spec_l7Walk_lp0_m N m n (T_spec_l7Walk_lp0_sh code8 kids9 order10 (iadd .i64 pc11 (1 : Int)) (List.set l12 (Int.toNat (List.getD code8 (Int.toNat pc11) ((0 : Int), ((0 : Int), ((0 : Int), (0 : Int))))).2.1) (List.getD l18 (Int.toNat (List.getD code8 (Int.toNat pc11) ((0 : Int), ((0 : Int), ((0 : Int), (0 : Int))))).2.2.1) (0 : Int))) b13 b16 l17 l18 l19 l20 l21) K) else none) else none)
 else
 (bif (List.getD code8 (Int.toNat pc11) ((0 : Int), ((0 : Int), ((0 : Int), (0 : Int))))).1 == (6 : Int) then
 (bif inb (List.getD code8 (Int.toNat pc11) ((0 : Int), ((0 : Int), ((0 : Int), (0 : Int))))).2.2.1 (List.length l12) then
 (bif inb (List.getD code8 (Int.toNat pc11) ((0 : Int), ((0 : Int), ((0 : Int), (0 : Int))))).2.1 (List.length l18) then
 (T_spec_l7Walk_lp0_m N m n (T_spec_l7Walk_lp0_sh code8 kids9 order10 (iadd .i64 pc11 (1 : Int)) l12 b13 b16 l17 (List.set l18 (Int.toNat (List.getD code8 (Int.toNat pc11) ((0 : Int), ((0 : Int), ((0 : Int), (0 : Int))))).2.1) (List.getD l12 (Int.toNat (List.getD code8 (Int.toNat pc11) ((0 : Int), ((0 : Int), ((0 : Int), (0 : Int))))).2.2.1) (0 : Int))) l19 l20 l21) K) else none) else none)
 else
 (bif (List.getD code8 (Int.toNat pc11) ((0 : Int), ((0 : Int), ((0 : Int), (0 : Int))))).1 == (7 : Int) then
 (bif inb (List.getD code8 (Int.toNat pc11) ((0 : Int), ((0 : Int), ((0 : Int), (0 : Int))))).2.1 (List.length l12) then
 (bif (List.getD l12 (Int.toNat (List.getD code8 (Int.toNat pc11) ((0 : Int), ((0 : Int), ((0 : Int), (0 : Int))))).2.1) (0 : Int)) == (0 : Int) then
 (T_spec_l7Walk_lp0_m N m n (T_spec_l7Walk_lp0_sh code8 kids9 order10 (iadd .i64 (iadd .i64 pc11 (1 : Int)) (List.getD code8 (Int.toNat pc11) ((0 : Int), ((0 : Int), ((0 : Int), (0 : Int))))).2.2.1) l12 b13 b16 l17 l18 l19 l20 l21) K)
 else
 (T_spec_l7Walk_lp0_m N m n (T_spec_l7Walk_lp0_sh code8 kids9 order10 (iadd .i64 pc11 (1 : Int)) l12 b13 b16 l17 l18 l19 l20 l21) K)) else none)
 else
 (bif (List.getD code8 (Int.toNat pc11) ((0 : Int), ((0 : Int), ((0 : Int), (0 : Int))))).1 == (8 : Int) then
 (bif room ((List.length ([] : List Int)) + (List.length l12)) then
 ((T_spec_l7Copy N (l18, (l19, b13))).bind fun o101 =>
 (bif room ((List.length l17) + (List.length ([(pc11, (List.append ([] : List Int) l12, o101.2.1))]))) then
 (T_spec_l7Walk_lp0_m N m n (T_spec_l7Walk_lp0_sh code8 kids9 order10 (iadd .i64 pc11 (1 : Int)) l12 b13 b16 (List.append l17 ([(pc11, (List.append ([] : List Int) l12, o101.2.1))])) l18 l19 l20 l21) K) else none)) else none)
 else
 (bif (List.getD code8 (Int.toNat pc11) ((0 : Int), ((0 : Int), ((0 : Int), (0 : Int))))).1 == (9 : Int) then
 (bif inb (isub .i64 (ilen l17) (1 : Int)) (List.length l17) then
 (bif (decide ((0 : Int) ≤ (isub .i64 (ilen l17) (1 : Int)))) && (decide ((isub .i64 (ilen l17) (1 : Int)) ≤ ((List.length l17) : Int))) then
 (bif inb (List.getD l17 (Int.toNat (isub .i64 (ilen l17) (1 : Int))) ((0 : Int), (([] : List Int), (([] : List Int), (([] : List Int), (0 : Int)))))).1 (List.length code8) then
 (bif inb (List.getD code8 (Int.toNat (List.getD l17 (Int.toNat (isub .i64 (ilen l17) (1 : Int))) ((0 : Int), (([] : List Int), (([] : List Int), (([] : List Int), (0 : Int)))))).1) ((0 : Int), ((0 : Int), ((0 : Int), (0 : Int))))).2.1 (List.length l12) then
 (T_spec_l7Walk_lp0_m N m n (T_spec_l7Walk_lp0_sh code8 kids9 order10 (iadd .i64 pc11 (1 : Int)) (List.set l12 (Int.toNat (List.getD code8 (Int.toNat (List.getD l17 (Int.toNat (isub .i64 (ilen l17) (1 : Int))) ((0 : Int), (([] : List Int), (([] : List Int), (([] : List Int), (0 : Int)))))).1) ((0 : Int), ((0 : Int), ((0 : Int), (0 : Int))))).2.1) (1 : Int)) b13 b16 (List.take (Int.toNat (isub .i64 (ilen l17) (1 : Int))) l17) l18 l19 l20 l21) K) else none) else none) else none) else none)
 else
 (bif (List.getD code8 (Int.toNat pc11) ((0 : Int), ((0 : Int), ((0 : Int), (0 : Int))))).1 == (10 : Int) then
 (bif (ilen l17) == (0 : Int) then
 (K .ret (T_spec_l7Walk_lp0_e0 code8 kids9 order10 b16 l20 l21 l12))
 else
 (bif inb (isub .i64 (ilen l17) (1 : Int)) (List.length l17) then
 (bif (decide ((0 : Int) ≤ (isub .i64 (ilen l17) (1 : Int)))) && (decide ((isub .i64 (ilen l17) (1 : Int)) ≤ ((List.length l17) : Int))) then
 (bif room ((List.length ([] : List Int)) + (List.length (List.getD l17 (Int.toNat (isub .i64 (ilen l17) (1 : Int))) ((0 : Int), (([] : List Int), (([] : List Int), (([] : List Int), (0 : Int)))))).2.1)) then
 ((T_spec_l7Copy N (List.getD l17 (Int.toNat (isub .i64 (ilen l17) (1 : Int))) ((0 : Int), (([] : List Int), (([] : List Int), (([] : List Int), (0 : Int)))))).2.2).bind fun o102 =>
 (bif inb (List.getD l17 (Int.toNat (isub .i64 (ilen l17) (1 : Int))) ((0 : Int), (([] : List Int), (([] : List Int), (([] : List Int), (0 : Int)))))).1 (List.length code8) then
 (bif inb (List.getD code8 (Int.toNat (List.getD l17 (Int.toNat (isub .i64 (ilen l17) (1 : Int))) ((0 : Int), (([] : List Int), (([] : List Int), (([] : List Int), (0 : Int)))))).1) ((0 : Int), ((0 : Int), ((0 : Int), (0 : Int))))).2.1 (List.length (List.append ([] : List Int) (List.getD l17 (Int.toNat (isub .i64 (ilen l17) (1 : Int))) ((0 : Int), (([] : List Int), (([] : List Int), (([] : List Int), (0 : Int)))))).2.1)) then
 ((T_spec_EndOf N code8 (List.getD l17 (Int.toNat (isub .i64 (ilen l17) (1 : Int))) ((0 : Int), (([] : List Int), (([] : List Int), (([] : List Int), (0 : Int)))))).1).bind fun o103 =>
 (T_spec_l7Walk_lp0_m N m n (T_spec_l7Walk_lp0_sh code8 kids9 order10 (iadd .i64 o103.2.1 (1 : Int)) (List.set (List.append ([] : List Int) (List.getD l17 (Int.toNat (isub .i64 (ilen l17) (1 : Int))) ((0 : Int), (([] : List Int), (([] : List Int), (([] : List Int), (0 : Int)))))).2.1) (Int.toNat (List.getD code8 (Int.toNat (List.getD l17 (Int.toNat (isub .i64 (ilen l17) (1 : Int))) ((0 : Int), (([] : List Int), (([] : List Int), (([] : List Int), (0 : Int)))))).1) ((0 : Int), ((0 : Int), ((0 : Int), (0 : Int))))).2.1) (0 : Int)) o102.2.1.2.2 b16 (List.take (Int.toNat (isub .i64 (ilen l17) (1 : Int))) l17) o102.2.1.1 o102.2.1.2.1 l20 l21) K)) else none) else none)) else none) else none) else none))
 else
 (bif (List.getD code8 (Int.toNat pc11) ((0 : Int), ((0 : Int), ((0 : Int), (0 : Int))))).1 == (11 : Int) then
 (bif ((decide ((0 : Int) ≤ (ilen kids9))) && (decide ((ilen kids9) ≤ (ilen kids9)))) && (room (Int.toNat (ilen kids9))) then
 (T_spec_l7Walk_lp1_m N m N (T_spec_l7Walk_lp1_sh code8 kids9 order10 (iadd .i64 pc11 (1 : Int)) (0 : Int) l12 b13 (0 : Int) (0 : Int) b16 l17 (List.replicate (Int.toNat (ilen kids9)) (0 : Int)) l18 l19 l20 l21) (ctxK tab (T_spec_l7Walk_ctx N m) T_spec_l7Walk_ann N (nthLoop Try.f112 0) [1, 0, 1, 1, 0, 1, 0, 1, 1, 1, 1, 1, 1, 1, 1, 1, 1, 1, 1, 1, 0, 1, 0, 1, 0] (backK (T_spec_l7Walk_ann 100006) (T_spec_l7Walk_lp0_m N m n) K))) else none)
 else
 (bif (List.getD code8 (Int.toNat pc11) ((0 : Int), ((0 : Int), ((0 : Int), (0 : Int))))).1 == (12 : Int) then
 (bif inb (List.getD code8 (Int.toNat pc11) ((0 : Int), ((0 : Int), ((0 : Int), (0 : Int))))).2.1 (List.length l19) then
 (bif inb (List.getD code8 (Int.toNat pc11) ((0 : Int), ((0 : Int), ((0 : Int), (0 : Int))))).2.2.1 (List.length l12) then
 (bif inb (List.getD code8 (Int.toNat pc11) ((0 : Int), ((0 : Int), ((0 : Int), (0 : Int))))).2.1 (List.length l19) then
 (bif inz (65536 : Int) then
 (bif inb (List.getD code8 (Int.toNat pc11) ((0 : Int), ((0 : Int), ((0 : Int), (0 : Int))))).2.2.2 (List.length l12) then
 (T_spec_l7Walk_lp0_m N m n (T_spec_l7Walk_lp0_sh code8 kids9 order10 (iadd .i64 pc11 (1 : Int)) (List.set l12 (Int.toNat (List.getD code8 (Int.toNat pc11) ((0 : Int), ((0 : Int), ((0 : Int), (0 : Int))))).2.2.2) (irem (List.getD l19 (Int.toNat (List.getD code8 (Int.toNat pc11) ((0 : Int), ((0 : Int), ((0 : Int), (0 : Int))))).2.1) (0 : Int)) (65536 : Int))) b13 b16 l17 l18 (List.set l19 (Int.toNat (List.getD code8 (Int.toNat pc11) ((0 : Int), ((0 : Int), ((0 : Int), (0 : Int))))).2.1) (iadd .i64 (1 : Int) (List.getD l12 (Int.toNat (List.getD code8 (Int.toNat pc11) ((0 : Int), ((0 : Int), ((0 : Int), (0 : Int))))).2.2.1) (0 : Int)))) l20 l21) K) else none) else none) else none) else none) else none)
 else
 (bif (List.getD code8 (Int.toNat pc11) ((0 : Int), ((0 : Int), ((0 : Int), (0 : Int))))).1 == (13 : Int) then
 (bif inb (List.getD code8 (Int.toNat pc11) ((0 : Int), ((0 : Int), ((0 : Int), (0 : Int))))).2.2.1 (List.length l19) then
 (bif inz (65536 : Int) then
 (bif inb (List.getD code8 (Int.toNat pc11) ((0 : Int), ((0 : Int), ((0 : Int), (0 : Int))))).2.1 (List.length l12) then
 (T_spec_l7Walk_lp0_m N m n (T_spec_l7Walk_lp0_sh code8 kids9 order10 (iadd .i64 pc11 (1 : Int)) (List.set l12 (Int.toNat (List.getD code8 (Int.toNat pc11) ((0 : Int), ((0 : Int), ((0 : Int), (0 : Int))))).2.1) (irem (List.getD l19 (Int.toNat (List.getD code8 (Int.toNat pc11) ((0 : Int), ((0 : Int), ((0 : Int), (0 : Int))))).2.2.1) (0 : Int)) (65536 : Int))) b13 b16 l17 l18 l19 l20 l21) K) else none) else none) else none)
 else
 (bif (List.getD code8 (Int.toNat pc11) ((0 : Int), ((0 : Int), ((0 : Int), (0 : Int))))).1 == (14 : Int) then
 (bif inb (List.getD code8 (Int.toNat pc11) ((0 : Int), ((0 : Int), ((0 : Int), (0 : Int))))).2.1 (List.length l19) then
 (bif inb (List.getD code8 (Int.toNat pc11) ((0 : Int), ((0 : Int), ((0 : Int), (0 : Int))))).2.1 (List.length l19) then
 (bif inz (65536 : Int) then
 (bif inb (List.getD code8 (Int.toNat pc11) ((0 : Int), ((0 : Int), ((0 : Int), (0 : Int))))).2.2.1 (List.length l12) then
 (T_spec_l7Walk_lp0_m N m n (T_spec_l7Walk_lp0_sh code8 kids9 order10 (iadd .i64 pc11 (1 : Int)) (List.set l12 (Int.toNat (List.getD code8 (Int.toNat pc11) ((0 : Int), ((0 : Int), ((0 : Int), (0 : Int))))).2.2.1) (irem (List.getD l19 (Int.toNat (List.getD code8 (Int.toNat pc11) ((0 : Int), ((0 : Int), ((0 : Int), (0 : Int))))).2.1) (0 : Int)) (65536 : Int))) b13 b16 l17 l18 (List.set l19 (Int.toNat (List.getD code8 (Int.toNat pc11) ((0 : Int), ((0 : Int), ((0 : Int), (0 : Int))))).2.1) (0 : Int)) l20 l21) K) else none) else none) else none) else none)
 else
 (bif (List.getD code8 (Int.toNat pc11) ((0 : Int), ((0 : Int), ((0 : Int), (0 : Int))))).1 == (15 : Int) then
 (bif inb (List.getD code8 (Int.toNat pc11) ((0 : Int), ((0 : Int), ((0 : Int), (0 : Int))))).2.1 (List.length l12) then
 (bif inz (65536 : Int) then
 (T_spec_l7Walk_lp0_m N m n (T_spec_l7Walk_lp0_sh code8 kids9 order10 (iadd .i64 pc11 (1 : Int)) l12 (irem (iadd .i64 b13 (List.getD l12 (Int.toNat (List.getD code8 (Int.toNat pc11) ((0 : Int), ((0 : Int), ((0 : Int), (0 : Int))))).2.1) (0 : Int))) (65536 : Int)) b16 l17 l18 l19 l20 l21) K) else none) else none)
 else
 (bif (List.getD code8 (Int.toNat pc11) ((0 : Int), ((0 : Int), ((0 : Int), (0 : Int))))).1 == (16 : Int) then
 (bif inb (List.getD code8 (Int.toNat pc11) ((0 : Int), ((0 : Int), ((0 : Int), (0 : Int))))).2.1 (List.length l12) then
 (T_spec_l7Walk_lp0_m N m n (T_spec_l7Walk_lp0_sh code8 kids9 order10 (iadd .i64 pc11 (1 : Int)) (List.set l12 (Int.toNat (List.getD code8 (Int.toNat pc11) ((0 : Int), ((0 : Int), ((0 : Int), (0 : Int))))).2.1) b13) b13 b16 l17 l18 l19 l20 l21) K) else none)
 else
 ((T_spec_Calc N (List.getD code8 (Int.toNat pc11) ((0 : Int), ((0 : Int), ((0 : Int), (0 : Int))))) l12).bind fun o113 =>
 (T_spec_l7Walk_lp0_m N m n (T_spec_l7Walk_lp0_sh code8 kids9 order10 (iadd .i64 pc11 (1 : Int)) o113.2.1 b13 b16 l17 l18 l19 l20 l21) K)))))))))))))) else none)
 else
 (K (.exit 0) (T_spec_l7Walk_lp0_e1 code8 kids9 order10 b16 l20 l21 pc11 (decide (pc11 < (ilen code8))) l12 b13 l17 l18 l19))) := by kernel_rfl
  rw [h]
  (try simp only [T_spec_l7Walk_lp1_eq, T_spec_l7Walk_c1]) <;> rfl

theorem T_spec_l7Walk_lp0_eq (N m : Nat) {R : Type} (code8 : List (Int × Int × Int × Int)) (kids9 : List (List (Int × Int × Int × Int))) (order10 : List Int) (b16 : Int) (l20 : List Int) (l21 : List Int) (K : Ex → St → Option R) : ∀ (n : Nat) (pc11 : Int) (l12 : List Int) (b13 : Int) (l17 : List (Int × List Int × List Int × List Int × Int)) (l18 : List Int) (l19 : List Int), T_spec_l7Walk_lp0_m N m n (T_spec_l7Walk_lp0_sh code8 kids9 order10 pc11 l12 b13 b16 l17 l18 l19 l20 l21) K = T_spec_l7Walk_lp0 N (T_spec_l7Walk_r N m) code8 kids9 order10 b16 l20 l21 (fun l93 => (K .ret (T_spec_l7Walk_lp0_e0 code8 kids9 order10 b16 l20 l21 l93))) (fun pc94 t95 l96 b97 l98 l99 l100 => (K (.exit 0) (T_spec_l7Walk_lp0_e1 code8 kids9 order10 b16 l20 l21 pc94 t95 l96 b97 l98 l99 l100))) n pc11 l12 b13 l17 l18 l19
  | 0, _, _, _, _, _, _ => rfl
  | n + 1, pc11, l12, b13, l17, l18, l19 => by rw [T_spec_l7Walk_lp0_step, T_spec_l7Walk_lp0]; (try simp only [T_spec_l7Walk_lp0_eq N m code8 kids9 order10 b16 l20 l21 K n])

theorem T_spec_l7Walk_c3 (N m : Nat) (code1 : List (Int × Int × Int × Int)) (kids2 : List (List (Int × Int × Int × Int))) (order3 : List Int) (o6 : Unit × (List Int × List Int × Int) × Unit) (l114 : List Int) :
    ((ctxK (R := ODen (T_spec_l7Walk_sgr N (m + 1)).ps × RDen (T_spec_l7Walk_sgr N (m + 1)).rs) tab (T_spec_l7Walk_ctx N m) T_spec_l7Walk_ann N (theCode Try.f112) [1, 1, 1, 1, 1, 1, 0, 0] (retK tab (T_spec_l7Walk_sgr N (m + 1)) Try.f112.results.toList some)) .ret (T_spec_l7Walk_lp0_e0 code1 kids2 order3 o6.2.1.2.2 o6.2.1.1 o6.2.1.2.1 l114)) =
    (some (α := ODen (T_spec_l7Walk_sgr N (m + 1)).ps × RDen (T_spec_l7Walk_sgr N (m + 1)).rs) ((), (((2 : Int), (l114, o6.2.1)), ()))) := by kernel_rfl

theorem T_spec_l7Walk_c4 (N m : Nat) (code1 : List (Int × Int × Int × Int)) (kids2 : List (List (Int × Int × Int × Int))) (order3 : List Int) (o6 : Unit × (List Int × List Int × Int) × Unit) (pc115 : Int) (t116 : Bool) (l117 : List Int) (b118 : Int) (l119 : List (Int × List Int × List Int × List Int × Int)) (l120 : List Int) (l121 : List Int) :
    ((ctxK (R := ODen (T_spec_l7Walk_sgr N (m + 1)).ps × RDen (T_spec_l7Walk_sgr N (m + 1)).rs) tab (T_spec_l7Walk_ctx N m) T_spec_l7Walk_ann N (theCode Try.f112) [1, 1, 1, 1, 1, 1, 0, 0] (retK tab (T_spec_l7Walk_sgr N (m + 1)) Try.f112.results.toList some)) (.exit 0) (T_spec_l7Walk_lp0_e1 code1 kids2 order3 o6.2.1.2.2 o6.2.1.1 o6.2.1.2.1 pc115 t116 l117 b118 l119 l120 l121)) =
    (some (α := ODen (T_spec_l7Walk_sgr N (m + 1)).ps × RDen (T_spec_l7Walk_sgr N (m + 1)).rs) ((), (((1 : Int), (l117, (l120, (l121, b118)))), ()))) := by kernel_rfl

theorem T_spec_l7Walk_den (N m : Nat) (code1 : List (Int × Int × Int × Int)) (kids2 : List (List (Int × Int × Int × Int))) (order3 : List Int) (regs4 : List Int) (s5 : List Int × List Int × Int) :
    den (R := ODen (T_spec_l7Walk_sgr N (m + 1)).ps × RDen (T_spec_l7Walk_sgr N (m + 1)).rs) tab (T_spec_l7Walk_ctx N m) T_spec_l7Walk_ann N (T_spec_l7Walk_sgr N (m + 1)) Try.f112 (code1, kids2, order3, regs4, s5, ()) some =
    ((T_spec_l7Copy N s5).bind fun o6 =>
 (bif room ((List.length ([] : List Int)) + (List.length regs4)) then
 ((T_spec_l7Copy N s5).bind fun o7 =>
 (T_spec_l7Walk_lp0 N (T_spec_l7Walk_r N m) code1 kids2 order3 o6.2.1.2.2 o6.2.1.1 o6.2.1.2.1
 (fun l114 =>
   (some (α := ODen (T_spec_l7Walk_sgr N (m + 1)).ps × RDen (T_spec_l7Walk_sgr N (m + 1)).rs) ((), (((2 : Int), (l114, o6.2.1)), ()))))
 (fun pc115 t116 l117 b118 l119 l120 l121 =>
   (some (α := ODen (T_spec_l7Walk_sgr N (m + 1)).ps × RDen (T_spec_l7Walk_sgr N (m + 1)).rs) ((), (((1 : Int), (l117, (l120, (l121, b118)))), ()))))
  N (0 : Int) (List.append ([] : List Int) regs4) o7.2.1.2.2 ([] : List (Int × List Int × List Int × List Int × Int)) o7.2.1.1 o7.2.1.2.1)) else none)) := by
  have h : den (R := ODen (T_spec_l7Walk_sgr N (m + 1)).ps × RDen (T_spec_l7Walk_sgr N (m + 1)).rs) tab (T_spec_l7Walk_ctx N m) T_spec_l7Walk_ann N (T_spec_l7Walk_sgr N (m + 1)) Try.f112 (code1, kids2, order3, regs4, s5, ()) some =
    ((T_spec_l7Copy N s5).bind fun o6 =>
 (bif room ((List.length ([] : List Int)) + (List.length regs4)) then
 ((T_spec_l7Copy N s5).bind fun o7 =>
 (T_spec_l7Walk_lp0_m N m N (T_spec_l7Walk_lp0_sh code1 kids2 order3 (0 : Int) (List.append ([] : List Int) regs4) o7.2.1.2.2 o6.2.1.2.2 ([] : List (Int × List Int × List Int × List Int × Int)) o7.2.1.1 o7.2.1.2.1 o6.2.1.1 o6.2.1.2.1) (ctxK (R := ODen (T_spec_l7Walk_sgr N (m + 1)).ps × RDen (T_spec_l7Walk_sgr N (m + 1)).rs) tab (T_spec_l7Walk_ctx N m) T_spec_l7Walk_ann N (theCode Try.f112) [1, 1, 1, 1, 1, 1, 0, 0] (retK tab (T_spec_l7Walk_sgr N (m + 1)) Try.f112.results.toList some)))) else none)) := by kernel_rfl
  rw [h]
  (try simp only [T_spec_l7Walk_lp0_eq, T_spec_l7Walk_c3, T_spec_l7Walk_c4]) <;> rfl

theorem T_spec_l7Walk_ok (N m : Nat) : chkBody Try.f112 (T_spec_l7Walk_sgr N (m + 1)).ps = true := by kernel_rfl

theorem T_spec_l7Walk_callable : Callable Try.prog 112 := callable_of Try.func112 (show chkFn Try.f112 = true by kernel_rfl)

theorem T_spec_l7Walk_goodr (N : Nat) : ∀ m, Good Try.prog 112 (T_spec_l7Walk_sgr N m)
  | 0 => fun d o h => nomatch (show none = some o from h)
  | m + 1 => good_body mixedOk tabOk (ctx_cons (T_spec_l7Copy_good N) T_spec_l7Copy_callable (ctx_cons (T_spec_EndOf_good N) T_spec_EndOf_callable (ctx_cons (T_spec_l7Walk_goodr N m) T_spec_l7Walk_callable (ctx_cons (T_spec_Calc_good N) T_spec_Calc_callable ctx_nil)))) Try.func112 (T_spec_l7Walk_ok N m) (fun d _ h => ⟨N, (T_spec_l7Walk_den N m d.1 d.2.1 d.2.2.1 d.2.2.2.1 d.2.2.2.2.1).trans h⟩)

theorem T_spec_l7Walk_good (N : Nat) : Good Try.prog 112 (T_spec_l7Walk_sg N) := T_spec_l7Walk_goodr N N

noncomputable def T_spec_SerialKid_sg (N : Nat) : Sig := Sig.of [.v (.slice (.prod (.int .i64) (.prod (.int .i64) (.prod (.int .i64) (.int .i64))))) false, .v (.slice (.int .i64)) false, .v (.slice (.int .i64)) false] [.v (.int .i64) false, .v (.own (.int .i64)) false, .v (.own (.int .i64)) false] (fun d => T_spec_SerialKid N d.1 d.2.1 d.2.2.1)

def T_spec_SerialKid_ann : Nat → List Ghost
  | _ => []

noncomputable def T_spec_SerialKid_ctx (N : Nat) : Ctx := [(96, T_spec_KidOk_sg N), (97, T_spec_l4Regs_sg N), (93, T_spec_l3Vals_sg N), (112, T_spec_l7Walk_sg N)]

theorem T_spec_SerialKid_den (N : Nat) (code1 : List (Int × Int × Int × Int)) (regs2 : List Int) (cells3 : List Int) :
    den (R := ODen (T_spec_SerialKid_sg N).ps × RDen (T_spec_SerialKid_sg N).rs) tab (T_spec_SerialKid_ctx N) T_spec_SerialKid_ann N (T_spec_SerialKid_sg N) Try.f50 (code1, regs2, cells3, ()) some =
    (T_spec_SerialKid N code1 regs2 cells3 : Option (ODen (T_spec_SerialKid_sg N).ps × RDen (T_spec_SerialKid_sg N).rs)) := by kernel_rfl

theorem T_spec_SerialKid_ok (N : Nat) : chkBody Try.f50 (T_spec_SerialKid_sg N).ps = true := by kernel_rfl

theorem T_spec_SerialKid_callable : Callable Try.prog 50 := callable_of Try.func50 (show chkFn Try.f50 = true by kernel_rfl)

theorem T_spec_SerialKid_good (N : Nat) : Good Try.prog 50 (T_spec_SerialKid_sg N) :=
  good_body mixedOk tabOk (ctx_cons (T_spec_KidOk_good N) T_spec_KidOk_callable (ctx_cons (T_spec_l4Regs_good N) T_spec_l4Regs_callable (ctx_cons (T_spec_l3Vals_good N) T_spec_l3Vals_callable (ctx_cons (T_spec_l7Walk_good N) T_spec_l7Walk_callable ctx_nil)))) Try.func50 (T_spec_SerialKid_ok N) (fun d _ h => ⟨N, (T_spec_SerialKid_den N d.1 d.2.1 d.2.2.1).trans h⟩)

noncomputable def T_laws_sameInts_sg (N : Nat) : Sig := Sig.of [.v (.slice (.int .i64)) false, .v (.slice (.int .i64)) false] [.v (.bool) false] (fun d => T_laws_sameInts N d.1 d.2.1)

def T_laws_sameInts_ann : Nat → List Ghost
  | 4 => [.canon [0, 1, 5, 14]]
  | 5 => [.canon [0, 1, 5]]
  | 6 => [.canon [0, 1, 5, 25]]
  | 7 => [.canon [4]]
  | 100004 => [.canon [0, 1, 5]]
  | _ => []

noncomputable def T_laws_sameInts_ctx (N : Nat) : Ctx := []

def T_laws_sameInts_lp0_sh (a3 : List Int) (b4 : List Int) (i5 : Int) : St := { env := [(0, .s (.one (.val (.slice (.int .i64)) (a3 : List Int)))), (1, .s (.one (.val (.slice (.int .i64)) (b4 : List Int)))), (5, .s (.one (.val (.int .i64) (i5 : Int))))], objs := [], nx := 0 }

def T_laws_sameInts_lp0_e0 (a3 : List Int) (b4 : List Int) : St := { env := [(4, .s (.one (.val (.bool) (false : Bool))))], objs := [], nx := 0 }

def T_laws_sameInts_lp0_e1 (a3 : List Int) (b4 : List Int) (i6 : Int) (t7 : Bool) : St := { env := [(0, .s (.one (.val (.slice (.int .i64)) (a3 : List Int)))), (1, .s (.one (.val (.slice (.int .i64)) (b4 : List Int)))), (5, .s (.one (.val (.int .i64) (i6 : Int)))), (14, .s (.one (.val (.bool) (t7 : Bool))))], objs := [], nx := 0 }

noncomputable def T_laws_sameInts_lp0_m (N : Nat) {R : Type} (n : Nat) (st : St) (K : Ex → St → Option R) : Option R := loopN (roundG (T_laws_sameInts_ann 100004) fun st k => sx tab (T_laws_sameInts_ctx N) T_laws_sameInts_ann N (nthLoop Try.f35 0) st k) n st K

theorem T_laws_sameInts_lp0_step (N : Nat) {R : Type} (n : Nat) (K : Ex → St → Option R) (a3 : List Int) (b4 : List Int) (i5 : Int) :
    T_laws_sameInts_lp0_m N (n + 1) (T_laws_sameInts_lp0_sh a3 b4 i5) K =
    (bif decide (i5 < (ilen a3)) then
 (bif inb i5 (List.length a3) then
 (bif inb i5 (List.length b4) then
 (bif (List.getD a3 (Int.toNat i5) (0 : Int)) != (List.getD b4 (Int.toNat i5) (0 : Int)) then
 (K .ret (T_laws_sameInts_lp0_e0 a3 b4))
 else
 (T_laws_sameInts_lp0_m N n (T_laws_sameInts_lp0_sh a3 b4 (iadd .i64 i5 (1 : Int))) K)) else none) else none)
 else
 (K (.exit 0) (T_laws_sameInts_lp0_e1 a3 b4 i5 (decide (i5 < (ilen a3)))))) := by kernel_rfl

theorem T_laws_sameInts_lp0_eq (N : Nat) {R : Type} (a3 : List Int) (b4 : List Int) (K : Ex → St → Option R) : ∀ (n : Nat) (i5 : Int), T_laws_sameInts_lp0_m N n (T_laws_sameInts_lp0_sh a3 b4 i5) K = T_laws_sameInts_lp0 N a3 b4 (K .ret (T_laws_sameInts_lp0_e0 a3 b4)) (fun i6 t7 => (K (.exit 0) (T_laws_sameInts_lp0_e1 a3 b4 i6 t7))) n i5
  | 0, _ => rfl
  | n + 1, i5 => by rw [T_laws_sameInts_lp0_step, T_laws_sameInts_lp0]; (try simp only [T_laws_sameInts_lp0_eq N a3 b4 K n])

theorem T_laws_sameInts_c1 (N : Nat) (a1 : List Int) (b2 : List Int) :
    ((ctxK (R := ODen (T_laws_sameInts_sg N).ps × RDen (T_laws_sameInts_sg N).rs) tab (T_laws_sameInts_ctx N) T_laws_sameInts_ann N (theCode Try.f35) [1, 1, 0, 1, 0] (retK tab (T_laws_sameInts_sg N) Try.f35.results.toList some)) .ret (T_laws_sameInts_lp0_e0 a1 b2)) =
    (some (α := ODen (T_laws_sameInts_sg N).ps × RDen (T_laws_sameInts_sg N).rs) ((), (false, ()))) := by kernel_rfl

theorem T_laws_sameInts_c2 (N : Nat) (a1 : List Int) (b2 : List Int) (i8 : Int) (t9 : Bool) :
    ((ctxK (R := ODen (T_laws_sameInts_sg N).ps × RDen (T_laws_sameInts_sg N).rs) tab (T_laws_sameInts_ctx N) T_laws_sameInts_ann N (theCode Try.f35) [1, 1, 0, 1, 0] (retK tab (T_laws_sameInts_sg N) Try.f35.results.toList some)) (.exit 0) (T_laws_sameInts_lp0_e1 a1 b2 i8 t9)) =
    (some (α := ODen (T_laws_sameInts_sg N).ps × RDen (T_laws_sameInts_sg N).rs) ((), (true, ()))) := by kernel_rfl

theorem T_laws_sameInts_den (N : Nat) (a1 : List Int) (b2 : List Int) :
 den (R := ODen (T_laws_sameInts_sg N).ps × RDen (T_laws_sameInts_sg N).rs) tab (T_laws_sameInts_ctx N) T_laws_sameInts_ann N (T_laws_sameInts_sg N) Try.f35 (a1, b2, ()) some =
 (T_laws_sameInts N a1 b2 : Option (ODen (T_laws_sameInts_sg N).ps × RDen (T_laws_sameInts_sg N).rs)) := by
  have h : den (R := ODen (T_laws_sameInts_sg N).ps × RDen (T_laws_sameInts_sg N).rs) tab (T_laws_sameInts_ctx N) T_laws_sameInts_ann N (T_laws_sameInts_sg N) Try.f35 (a1, b2, ()) some =
 (bif (ilen a1) != (ilen b2) then
 (some (α := ODen (T_laws_sameInts_sg N).ps × RDen (T_laws_sameInts_sg N).rs) ((), (false, ())))
 else
 (T_laws_sameInts_lp0_m N N (T_laws_sameInts_lp0_sh a1 b2 (0 : Int)) (ctxK (R := ODen (T_laws_sameInts_sg N).ps × RDen (T_laws_sameInts_sg N).rs) tab (T_laws_sameInts_ctx N) T_laws_sameInts_ann N (theCode Try.f35) [1, 1, 0, 1, 0] (retK tab (T_laws_sameInts_sg N) Try.f35.results.toList some)))) := by kernel_rfl
  rw [h]
  (try simp only [T_laws_sameInts_lp0_eq, T_laws_sameInts_c1, T_laws_sameInts_c2]) <;> rfl

theorem T_laws_sameInts_ok (N : Nat) : chkBody Try.f35 (T_laws_sameInts_sg N).ps = true := by kernel_rfl

theorem T_laws_sameInts_callable : Callable Try.prog 35 := callable_of Try.func35 (show chkFn Try.f35 = true by kernel_rfl)

theorem T_laws_sameInts_good (N : Nat) : Good Try.prog 35 (T_laws_sameInts_sg N) :=
  good_body mixedOk tabOk ctx_nil Try.func35 (T_laws_sameInts_ok N) (fun d _ h => ⟨N, (T_laws_sameInts_den N d.1 d.2.1).trans h⟩)

noncomputable def T_laws_at_sg (N : Nat) : Sig := Sig.of [.v (.slice (.int .u8)) false, .v (.int .i64) false] [.v (.int .i64) false] (fun d => T_laws_at N d.1 d.2.1)

def T_laws_at_ann : Nat → List Ghost
  | _ => []

noncomputable def T_laws_at_ctx (N : Nat) : Ctx := []

theorem T_laws_at_den (N : Nat) (code1 : List Int) (i2 : Int) :
    den (R := ODen (T_laws_at_sg N).ps × RDen (T_laws_at_sg N).rs) tab (T_laws_at_ctx N) T_laws_at_ann N (T_laws_at_sg N) Try.f31 (code1, i2, ()) some =
    (T_laws_at N code1 i2 : Option (ODen (T_laws_at_sg N).ps × RDen (T_laws_at_sg N).rs)) := by kernel_rfl

theorem T_laws_at_ok (N : Nat) : chkBody Try.f31 (T_laws_at_sg N).ps = true := by kernel_rfl

theorem T_laws_at_callable : Callable Try.prog 31 := callable_of Try.func31 (show chkFn Try.f31 = true by kernel_rfl)

theorem T_laws_at_good (N : Nat) : Good Try.prog 31 (T_laws_at_sg N) :=
  good_body mixedOk tabOk ctx_nil Try.func31 (T_laws_at_ok N) (fun d _ h => ⟨N, (T_laws_at_den N d.1 d.2.1).trans h⟩)

noncomputable def T_impl_EagerBack_sg (N : Nat) : Sig := Sig.of [.v (.slice (.int .i64)) false, .v (.slice (.prod (.int .i64) (.int .i64))) false] [.v (.own (.int .i64)) false] (fun d => T_impl_EagerBack N d.1 d.2.1)

def T_impl_EagerBack_ann : Nat → List Ghost
  | _ => []

noncomputable def T_impl_EagerBack_ctx (N : Nat) : Ctx := [(51, T_impl_EagerCut_sg N)]

theorem T_impl_EagerBack_den (N : Nat) (cells1 : List Int) (log2 : List (Int × Int)) :
    den (R := ODen (T_impl_EagerBack_sg N).ps × RDen (T_impl_EagerBack_sg N).rs) tab (T_impl_EagerBack_ctx N) T_impl_EagerBack_ann N (T_impl_EagerBack_sg N) Try.f52 (cells1, log2, ()) some =
    (T_impl_EagerBack N cells1 log2 : Option (ODen (T_impl_EagerBack_sg N).ps × RDen (T_impl_EagerBack_sg N).rs)) := by kernel_rfl

theorem T_impl_EagerBack_ok (N : Nat) : chkBody Try.f52 (T_impl_EagerBack_sg N).ps = true := by kernel_rfl

theorem T_impl_EagerBack_callable : Callable Try.prog 52 := callable_of Try.func52 (show chkFn Try.f52 = true by kernel_rfl)

theorem T_impl_EagerBack_good (N : Nat) : Good Try.prog 52 (T_impl_EagerBack_sg N) :=
  good_body mixedOk tabOk (ctx_cons (T_impl_EagerCut_good N) T_impl_EagerCut_callable ctx_nil) Try.func52 (T_impl_EagerBack_ok N) (fun d _ h => ⟨N, (T_impl_EagerBack_den N d.1 d.2.1).trans h⟩)

noncomputable def T_laws_FnEager_sg (N : Nat) : Sig := Sig.of [.v (.slice (.int .u8)) false] [.v (.bool) false] (fun d => T_laws_FnEager N d.1)

def T_laws_FnEager_ann : Nat → List Ghost
  | _ => []

noncomputable def T_laws_FnEager_ctx (N : Nat) : Ctx := [(9, T_laws_big_sg N), (49, T_spec_DrawEagerRun_sg N), (41, T_impl_EagerRun_sg N), (50, T_spec_SerialKid_sg N), (35, T_laws_sameInts_sg N), (31, T_laws_at_sg N), (51, T_impl_EagerCut_sg N), (52, T_impl_EagerBack_sg N)]

theorem T_laws_FnEager_den (N : Nat) (code1 : List Int) :
    den (R := ODen (T_laws_FnEager_sg N).ps × RDen (T_laws_FnEager_sg N).rs) tab (T_laws_FnEager_ctx N) T_laws_FnEager_ann N (T_laws_FnEager_sg N) Try.f8 (code1, ()) some =
    (T_laws_FnEager N code1 : Option (ODen (T_laws_FnEager_sg N).ps × RDen (T_laws_FnEager_sg N).rs)) := by kernel_rfl

theorem T_laws_FnEager_ok (N : Nat) : chkBody Try.f8 (T_laws_FnEager_sg N).ps = true := by kernel_rfl

theorem T_laws_FnEager_callable : Callable Try.prog 8 := callable_of Try.func8 (show chkFn Try.f8 = true by kernel_rfl)

theorem T_laws_FnEager_good (N : Nat) : Good Try.prog 8 (T_laws_FnEager_sg N) :=
  good_body mixedOk tabOk (ctx_cons (T_laws_big_good N) T_laws_big_callable (ctx_cons (T_spec_DrawEagerRun_good N) T_spec_DrawEagerRun_callable (ctx_cons (T_impl_EagerRun_good N) T_impl_EagerRun_callable (ctx_cons (T_spec_SerialKid_good N) T_spec_SerialKid_callable (ctx_cons (T_laws_sameInts_good N) T_laws_sameInts_callable (ctx_cons (T_laws_at_good N) T_laws_at_callable (ctx_cons (T_impl_EagerCut_good N) T_impl_EagerCut_callable (ctx_cons (T_impl_EagerBack_good N) T_impl_EagerBack_callable ctx_nil)))))))) Try.func8 (T_laws_FnEager_ok N) (fun d _ h => ⟨N, (T_laws_FnEager_den N d.1).trans h⟩)

end Go.Sx
