/- Each Go function does what its Lean function says. -/
import Derived.Test.YtbmealjpegdhiaaT
import Derived.Test.YtbmealjpegdhiaaProg
namespace Go.Sx
open Go.Proofs
set_option linter.unusedVariables false
set_option linter.unusedSimpArgs false

def tab : Tab := [(3, ⟨.int .i64, false, .basic⟩), (4, ⟨.bool, false, .basic⟩), (26, ⟨.slice (.int .i64), false, .slice 3⟩), (34, ⟨.slice (.slice (.prod (.int .i64) (.prod (.int .i64) (.prod (.int .i64) (.int .i64))))), false, .slice 106⟩), (37, ⟨.slice (.slice (.prod (.int .i64) (.prod (.int .i64) (.prod (.int .i64) (.int .i64))))), false, .slice 111⟩), (104, ⟨.slice (.prod (.int .i64) (.prod (.int .i64) (.prod (.int .i64) (.int .i64)))), false, .slice 196⟩), (106, ⟨.slice (.prod (.int .i64) (.prod (.int .i64) (.prod (.int .i64) (.int .i64)))), true, .struct [(0, 104)]⟩), (109, ⟨.slice (.prod (.int .i64) (.prod (.int .i64) (.prod (.int .i64) (.int .i64)))), false, .slice 165⟩), (111, ⟨.slice (.prod (.int .i64) (.prod (.int .i64) (.prod (.int .i64) (.int .i64)))), true, .struct [(0, 109)]⟩), (165, ⟨.prod (.int .i64) (.prod (.int .i64) (.prod (.int .i64) (.int .i64))), true, .struct [(0, 3), (1, 3), (2, 3), (3, 3)]⟩), (196, ⟨.prod (.int .i64) (.prod (.int .i64) (.prod (.int .i64) (.int .i64))), true, .struct [(0, 3), (1, 3), (2, 3), (3, 3)]⟩)]

theorem mixedOk : Try.prog.follows .mixedOrders = true := by kernel_rfl

theorem tabOk : TabOk Try.prog tab := tab_ok (show chkTab Try.prog tab tab = true by kernel_rfl)

noncomputable def T_laws_szOpS_sg (N : Nat) : Sig := Sig.of [.v (.slice (.prod (.int .i64) (.prod (.int .i64) (.prod (.int .i64) (.int .i64))))) false, .v (.int .i64) false] [.v (.int .i64) false] (fun d => T_laws_szOpS N d.1 d.2.1)

def T_laws_szOpS_ann : Nat → List Ghost
  | _ => []

noncomputable def T_laws_szOpS_ctx (N : Nat) : Ctx := []

theorem T_laws_szOpS_den (N : Nat) (a1 : List (Int × Int × Int × Int)) (left2 : Int) :
    den (R := ODen (T_laws_szOpS_sg N).ps × RDen (T_laws_szOpS_sg N).rs) tab (T_laws_szOpS_ctx N) T_laws_szOpS_ann N (T_laws_szOpS_sg N) Try.f127 (a1, left2, ()) some =
    (bif decide ((isub .i64 left2 (ilen a1)) < (0 : Int)) then
    (some (α := ODen (T_laws_szOpS_sg N).ps × RDen (T_laws_szOpS_sg N).rs) ((), ((-1 : Int), ())))
    else
    (some (α := ODen (T_laws_szOpS_sg N).ps × RDen (T_laws_szOpS_sg N).rs) ((), (isub .i64 left2 (ilen a1), ())))) := by kernel_rfl

theorem T_laws_szOpS_ok (N : Nat) : chkBody Try.f127 (T_laws_szOpS_sg N).ps = true := by kernel_rfl

theorem T_laws_szOpS_callable : Callable Try.prog 127 := callable_of Try.func127 (show chkFn Try.f127 = true by kernel_rfl)

theorem T_laws_szOpS_good (N : Nat) : Good Try.prog 127 (T_laws_szOpS_sg N) :=
  good_body mixedOk tabOk ctx_nil Try.func127 (T_laws_szOpS_ok N) (fun d _ h => ⟨N, (T_laws_szOpS_den N d.1 d.2.1).trans h⟩)

noncomputable def T_laws_szKid_sg (N : Nat) : Sig := Sig.of [.v (.slice (.prod (.int .i64) (.prod (.int .i64) (.prod (.int .i64) (.int .i64))))) true, .v (.int .i64) false] [.v (.int .i64) false] (fun d => T_laws_szKid N d.1 d.2.1)

def T_laws_szKid_ann : Nat → List Ghost
  | _ => []

noncomputable def T_laws_szKid_ctx (N : Nat) : Ctx := [(127, T_laws_szOpS_sg N)]

theorem T_laws_szKid_den (N : Nat) (a1 : List (Int × Int × Int × Int)) (left2 : Int) :
    den (R := ODen (T_laws_szKid_sg N).ps × RDen (T_laws_szKid_sg N).rs) tab (T_laws_szKid_ctx N) T_laws_szKid_ann N (T_laws_szKid_sg N) Try.f65 (a1, left2, ()) some =
    ((T_laws_szOpS N a1 left2).bind fun o3 =>
    (bif decide (o3.2.1 < (0 : Int)) then
      (some (α := ODen (T_laws_szKid_sg N).ps × RDen (T_laws_szKid_sg N).rs) ((), ((-1 : Int), ())))
      else
      (some (α := ODen (T_laws_szKid_sg N).ps × RDen (T_laws_szKid_sg N).rs) ((), (o3.2.1, ()))))) := by kernel_rfl

theorem T_laws_szKid_ok (N : Nat) : chkBody Try.f65 (T_laws_szKid_sg N).ps = true := by kernel_rfl

theorem T_laws_szKid_callable : Callable Try.prog 65 := callable_of Try.func65 (show chkFn Try.f65 = true by kernel_rfl)

theorem T_laws_szKid_good (N : Nat) : Good Try.prog 65 (T_laws_szKid_sg N) :=
  good_body mixedOk tabOk (ctx_cons (T_laws_szOpS_good N) T_laws_szOpS_callable ctx_nil) Try.func65 (T_laws_szKid_ok N) (fun d _ h => ⟨N, (T_laws_szKid_den N d.1 d.2.1).trans h⟩)

noncomputable def T_laws_szKidS_sg (N : Nat) : Sig := Sig.of [.v (.slice (.slice (.prod (.int .i64) (.prod (.int .i64) (.prod (.int .i64) (.int .i64)))))) false, .v (.int .i64) false] [.v (.int .i64) false] (fun d => T_laws_szKidS N d.1 d.2.1)

def T_laws_szKidS_ann : Nat → List Ghost
  | 5 => [.canon [0, 1, 5, 15]]
  | 6 => [.canon [0, 1, 5]]
  | 7 => [.canon [0, 1, 5]]
  | 8 => [.canon [0, 1, 5, 25]]
  | 9 => [.canon [4]]
  | 100005 => [.canon [0, 1, 5]]
  | _ => []

noncomputable def T_laws_szKidS_ctx (N : Nat) : Ctx := [(65, T_laws_szKid_sg N)]

def T_laws_szKidS_lp0_sh (a3 : List (List (Int × Int × Int × Int))) (left4 : Int) (i5 : Int) : St := { env := [(0, .s (.one (.val (.slice (.slice (.prod (.int .i64) (.prod (.int .i64) (.prod (.int .i64) (.int .i64)))))) (a3 : List (List (Int × Int × Int × Int)))))), (1, .s (.one (.val (.int .i64) (left4 : Int)))), (5, .s (.one (.val (.int .i64) (i5 : Int))))], objs := [], nx := 0 }

def T_laws_szKidS_lp0_e0 (a3 : List (List (Int × Int × Int × Int))) : St := { env := [(4, .s (.one (.val (.int .i64) ((-1 : Int) : Int))))], objs := [], nx := 0 }

def T_laws_szKidS_lp0_e1 (a3 : List (List (Int × Int × Int × Int))) (left7 : Int) (i8 : Int) (t9 : Bool) : St := { env := [(0, .s (.one (.val (.slice (.slice (.prod (.int .i64) (.prod (.int .i64) (.prod (.int .i64) (.int .i64)))))) (a3 : List (List (Int × Int × Int × Int)))))), (1, .s (.one (.val (.int .i64) (left7 : Int)))), (5, .s (.one (.val (.int .i64) (i8 : Int)))), (15, .s (.one (.val (.bool) (t9 : Bool))))], objs := [], nx := 0 }

noncomputable def T_laws_szKidS_lp0_m (N : Nat) {R : Type} (n : Nat) (st : St) (K : Ex → St → Option R) : Option R := loopN (roundG (T_laws_szKidS_ann 100005) fun st k => sx tab (T_laws_szKidS_ctx N) T_laws_szKidS_ann N (nthLoop Try.f17 0) st k) n st K

theorem T_laws_szKidS_lp0_step (N : Nat) {R : Type} (n : Nat) (K : Ex → St → Option R) (a3 : List (List (Int × Int × Int × Int))) (left4 : Int) (i5 : Int) :
    T_laws_szKidS_lp0_m N (n + 1) (T_laws_szKidS_lp0_sh a3 left4 i5) K =
    (bif decide (i5 < (ilen a3)) then
    (bif inb i5 (List.length a3) then
      ((T_laws_szKid N (List.getD a3 (Int.toNat i5) ([] : List (Int × Int × Int × Int))) left4).bind fun o10 =>
        (bif decide (o10.2.1 < (0 : Int)) then
          (K .ret (T_laws_szKidS_lp0_e0 a3))
          else
          (T_laws_szKidS_lp0_m N n (T_laws_szKidS_lp0_sh a3 o10.2.1 (iadd .i64 i5 (1 : Int))) K))) else none)
    else
    (K (.exit 0) (T_laws_szKidS_lp0_e1 a3 left4 i5 (decide (i5 < (ilen a3)))))) := by kernel_rfl

theorem T_laws_szKidS_lp0_eq (N : Nat) {R : Type} (a3 : List (List (Int × Int × Int × Int))) (K : Ex → St → Option R) : ∀ (n : Nat) (left4 : Int) (i5 : Int), T_laws_szKidS_lp0_m N n (T_laws_szKidS_lp0_sh a3 left4 i5) K = T_laws_szKidS_lp0 N a3 (K .ret (T_laws_szKidS_lp0_e0 a3)) (fun left7 i8 t9 => (K (.exit 0) (T_laws_szKidS_lp0_e1 a3 left7 i8 t9))) n left4 i5
  | 0, _, _ => rfl
  | n + 1, left4, i5 => by rw [T_laws_szKidS_lp0_step, T_laws_szKidS_lp0]; (try simp only [T_laws_szKidS_lp0_eq N a3 K n])

theorem T_laws_szKidS_c1 (N : Nat) (a1 : List (List (Int × Int × Int × Int))) :
    ((ctxK (R := ODen (T_laws_szKidS_sg N).ps × RDen (T_laws_szKidS_sg N).rs) tab (T_laws_szKidS_ctx N) T_laws_szKidS_ann N (theCode Try.f17) [1, 1, 1, 0, 1, 0] (retK tab (T_laws_szKidS_sg N) Try.f17.results.toList some)) .ret (T_laws_szKidS_lp0_e0 a1)) =
    (some (α := ODen (T_laws_szKidS_sg N).ps × RDen (T_laws_szKidS_sg N).rs) ((), ((-1 : Int), ()))) := by kernel_rfl

theorem T_laws_szKidS_c2 (N : Nat) (a1 : List (List (Int × Int × Int × Int))) (left11 : Int) (i12 : Int) (t13 : Bool) :
    ((ctxK (R := ODen (T_laws_szKidS_sg N).ps × RDen (T_laws_szKidS_sg N).rs) tab (T_laws_szKidS_ctx N) T_laws_szKidS_ann N (theCode Try.f17) [1, 1, 1, 0, 1, 0] (retK tab (T_laws_szKidS_sg N) Try.f17.results.toList some)) (.exit 0) (T_laws_szKidS_lp0_e1 a1 left11 i12 t13)) =
    (some (α := ODen (T_laws_szKidS_sg N).ps × RDen (T_laws_szKidS_sg N).rs) ((), (left11, ()))) := by kernel_rfl

theorem T_laws_szKidS_den (N : Nat) (a1 : List (List (Int × Int × Int × Int))) (left2 : Int) :
    den (R := ODen (T_laws_szKidS_sg N).ps × RDen (T_laws_szKidS_sg N).rs) tab (T_laws_szKidS_ctx N) T_laws_szKidS_ann N (T_laws_szKidS_sg N) Try.f17 (a1, left2, ()) some =
    (bif decide ((isub .i64 left2 (ilen a1)) < (0 : Int)) then
    (some (α := ODen (T_laws_szKidS_sg N).ps × RDen (T_laws_szKidS_sg N).rs) ((), ((-1 : Int), ())))
    else
    (T_laws_szKidS_lp0 N a1
      (some (α := ODen (T_laws_szKidS_sg N).ps × RDen (T_laws_szKidS_sg N).rs) ((), ((-1 : Int), ())))
      (fun left11 i12 t13 =>
        (some (α := ODen (T_laws_szKidS_sg N).ps × RDen (T_laws_szKidS_sg N).rs) ((), (left11, ()))))
       N (isub .i64 left2 (ilen a1)) (0 : Int))) := by
  have h : den (R := ODen (T_laws_szKidS_sg N).ps × RDen (T_laws_szKidS_sg N).rs) tab (T_laws_szKidS_ctx N) T_laws_szKidS_ann N (T_laws_szKidS_sg N) Try.f17 (a1, left2, ()) some =
    (bif decide ((isub .i64 left2 (ilen a1)) < (0 : Int)) then
    (some (α := ODen (T_laws_szKidS_sg N).ps × RDen (T_laws_szKidS_sg N).rs) ((), ((-1 : Int), ())))
    else
    (T_laws_szKidS_lp0_m N N (T_laws_szKidS_lp0_sh a1 (isub .i64 left2 (ilen a1)) (0 : Int)) (ctxK (R := ODen (T_laws_szKidS_sg N).ps × RDen (T_laws_szKidS_sg N).rs) tab (T_laws_szKidS_ctx N) T_laws_szKidS_ann N (theCode Try.f17) [1, 1, 1, 0, 1, 0] (retK tab (T_laws_szKidS_sg N) Try.f17.results.toList some)))) := by kernel_rfl
  rw [h]
  (try simp only [T_laws_szKidS_lp0_eq, T_laws_szKidS_c1, T_laws_szKidS_c2]) <;> rfl

theorem T_laws_szKidS_ok (N : Nat) : chkBody Try.f17 (T_laws_szKidS_sg N).ps = true := by kernel_rfl

theorem T_laws_szKidS_callable : Callable Try.prog 17 := callable_of Try.func17 (show chkFn Try.f17 = true by kernel_rfl)

theorem T_laws_szKidS_good (N : Nat) : Good Try.prog 17 (T_laws_szKidS_sg N) :=
  good_body mixedOk tabOk (ctx_cons (T_laws_szKid_good N) T_laws_szKid_callable ctx_nil) Try.func17 (T_laws_szKidS_ok N) (fun d _ h => ⟨N, (T_laws_szKidS_den N d.1 d.2.1).trans h⟩)

noncomputable def T_laws_toOp_sg (N : Nat) : Sig := Sig.of [.v (.prod (.int .i64) (.prod (.int .i64) (.prod (.int .i64) (.int .i64)))) true] [.v (.prod (.int .i64) (.prod (.int .i64) (.prod (.int .i64) (.int .i64)))) true] (fun d => T_laws_toOp N d.1)

def T_laws_toOp_ann : Nat → List Ghost
  | _ => []

noncomputable def T_laws_toOp_ctx (N : Nat) : Ctx := []

theorem T_laws_toOp_den (N : Nat) (a1 : Int × Int × Int × Int) :
    den (R := ODen (T_laws_toOp_sg N).ps × RDen (T_laws_toOp_sg N).rs) tab (T_laws_toOp_ctx N) T_laws_toOp_ann N (T_laws_toOp_sg N) Try.f165 (a1, ()) some =
    (some (α := ODen (T_laws_toOp_sg N).ps × RDen (T_laws_toOp_sg N).rs) ((), (a1, ()))) := by kernel_rfl

theorem T_laws_toOp_ok (N : Nat) : chkBody Try.f165 (T_laws_toOp_sg N).ps = true := by kernel_rfl

theorem T_laws_toOp_callable : Callable Try.prog 165 := callable_of Try.func165 (show chkFn Try.f165 = true by kernel_rfl)

theorem T_laws_toOp_good (N : Nat) : Good Try.prog 165 (T_laws_toOp_sg N) :=
  good_body mixedOk tabOk ctx_nil Try.func165 (T_laws_toOp_ok N) (fun d _ h => ⟨N, (T_laws_toOp_den N d.1).trans h⟩)

noncomputable def T_laws_toOpS_sg (N : Nat) : Sig := Sig.of [.v (.slice (.prod (.int .i64) (.prod (.int .i64) (.prod (.int .i64) (.int .i64))))) false] [.v (.own (.prod (.int .i64) (.prod (.int .i64) (.prod (.int .i64) (.int .i64))))) false] (fun d => T_laws_toOpS N d.1)

def T_laws_toOpS_ann : Nat → List Ghost
  | 3 => [.canon [0, 3, 4, 11]]
  | 4 => [.canon [0, 3, 4]]
  | 5 => [.canon [0, 3, 4]]
  | 100003 => [.canon [0, 3, 4]]
  | _ => []

noncomputable def T_laws_toOpS_ctx (N : Nat) : Ctx := [(165, T_laws_toOp_sg N)]

def T_laws_toOpS_lp0_sh (a2 : List (Int × Int × Int × Int)) (i3 : Int) (l4 : List (Int × Int × Int × Int)) : St := { env := [(0, .s (.one (.val (.slice (.prod (.int .i64) (.prod (.int .i64) (.prod (.int .i64) (.int .i64))))) (a2 : List (Int × Int × Int × Int))))), (3, .s (.one (.own 0))), (4, .s (.one (.val (.int .i64) (i3 : Int))))], objs := [(0, .arr (.prod (.int .i64) (.prod (.int .i64) (.prod (.int .i64) (.int .i64)))) (l4 : List (Int × Int × Int × Int)))], nx := 1 }

def T_laws_toOpS_lp0_e0 (a2 : List (Int × Int × Int × Int)) (i6 : Int) (t7 : Bool) (l8 : List (Int × Int × Int × Int)) : St := { env := [(0, .s (.one (.val (.slice (.prod (.int .i64) (.prod (.int .i64) (.prod (.int .i64) (.int .i64))))) (a2 : List (Int × Int × Int × Int))))), (3, .s (.one (.own 0))), (4, .s (.one (.val (.int .i64) (i6 : Int)))), (11, .s (.one (.val (.bool) (t7 : Bool))))], objs := [(0, .arr (.prod (.int .i64) (.prod (.int .i64) (.prod (.int .i64) (.int .i64)))) (l8 : List (Int × Int × Int × Int)))], nx := 1 }

noncomputable def T_laws_toOpS_lp0_m (N : Nat) {R : Type} (n : Nat) (st : St) (K : Ex → St → Option R) : Option R := loopN (roundG (T_laws_toOpS_ann 100003) fun st k => sx tab (T_laws_toOpS_ctx N) T_laws_toOpS_ann N (nthLoop Try.f132 0) st k) n st K

theorem T_laws_toOpS_lp0_step (N : Nat) {R : Type} (n : Nat) (K : Ex → St → Option R) (a2 : List (Int × Int × Int × Int)) (i3 : Int) (l4 : List (Int × Int × Int × Int)) :
    T_laws_toOpS_lp0_m N (n + 1) (T_laws_toOpS_lp0_sh a2 i3 l4) K =
    (bif decide (i3 < (ilen a2)) then
    (bif inb i3 (List.length a2) then
      ((T_laws_toOp N (List.getD a2 (Int.toNat i3) ((0 : Int), ((0 : Int), ((0 : Int), (0 : Int)))))).bind fun o9 =>
        (bif inb i3 (List.length l4) then
          (T_laws_toOpS_lp0_m N n (T_laws_toOpS_lp0_sh a2 (iadd .i64 i3 (1 : Int)) (List.set l4 (Int.toNat i3) o9.2.1)) K) else none)) else none)
    else
    (K (.exit 0) (T_laws_toOpS_lp0_e0 a2 i3 (decide (i3 < (ilen a2))) l4))) := by kernel_rfl

theorem T_laws_toOpS_lp0_eq (N : Nat) {R : Type} (a2 : List (Int × Int × Int × Int)) (K : Ex → St → Option R) : ∀ (n : Nat) (i3 : Int) (l4 : List (Int × Int × Int × Int)), T_laws_toOpS_lp0_m N n (T_laws_toOpS_lp0_sh a2 i3 l4) K = T_laws_toOpS_lp0 N a2 (fun i6 t7 l8 => (K (.exit 0) (T_laws_toOpS_lp0_e0 a2 i6 t7 l8))) n i3 l4
  | 0, _, _ => rfl
  | n + 1, i3, l4 => by rw [T_laws_toOpS_lp0_step, T_laws_toOpS_lp0]; (try simp only [T_laws_toOpS_lp0_eq N a2 K n])

theorem T_laws_toOpS_c1 (N : Nat) (a1 : List (Int × Int × Int × Int)) (i10 : Int) (t11 : Bool) (l12 : List (Int × Int × Int × Int)) :
    ((ctxK (R := ODen (T_laws_toOpS_sg N).ps × RDen (T_laws_toOpS_sg N).rs) tab (T_laws_toOpS_ctx N) T_laws_toOpS_ann N (theCode Try.f132) [1, 1, 0, 1, 0] (retK tab (T_laws_toOpS_sg N) Try.f132.results.toList some)) (.exit 0) (T_laws_toOpS_lp0_e0 a1 i10 t11 l12)) =
    (some (α := ODen (T_laws_toOpS_sg N).ps × RDen (T_laws_toOpS_sg N).rs) ((), (l12, ()))) := by kernel_rfl

theorem T_laws_toOpS_den (N : Nat) (a1 : List (Int × Int × Int × Int)) :
    den (R := ODen (T_laws_toOpS_sg N).ps × RDen (T_laws_toOpS_sg N).rs) tab (T_laws_toOpS_ctx N) T_laws_toOpS_ann N (T_laws_toOpS_sg N) Try.f132 (a1, ()) some =
    (bif ((decide ((0 : Int) ≤ (ilen a1))) && (decide ((ilen a1) ≤ (ilen a1)))) && (room (Int.toNat (ilen a1))) then
    (T_laws_toOpS_lp0 N a1
      (fun i10 t11 l12 =>
        (some (α := ODen (T_laws_toOpS_sg N).ps × RDen (T_laws_toOpS_sg N).rs) ((), (l12, ()))))
       N (0 : Int) (List.replicate (Int.toNat (ilen a1)) ((0 : Int), ((0 : Int), ((0 : Int), (0 : Int)))))) else none) := by
  have h : den (R := ODen (T_laws_toOpS_sg N).ps × RDen (T_laws_toOpS_sg N).rs) tab (T_laws_toOpS_ctx N) T_laws_toOpS_ann N (T_laws_toOpS_sg N) Try.f132 (a1, ()) some =
    (bif ((decide ((0 : Int) ≤ (ilen a1))) && (decide ((ilen a1) ≤ (ilen a1)))) && (room (Int.toNat (ilen a1))) then
    (T_laws_toOpS_lp0_m N N (T_laws_toOpS_lp0_sh a1 (0 : Int) (List.replicate (Int.toNat (ilen a1)) ((0 : Int), ((0 : Int), ((0 : Int), (0 : Int)))))) (ctxK (R := ODen (T_laws_toOpS_sg N).ps × RDen (T_laws_toOpS_sg N).rs) tab (T_laws_toOpS_ctx N) T_laws_toOpS_ann N (theCode Try.f132) [1, 1, 0, 1, 0] (retK tab (T_laws_toOpS_sg N) Try.f132.results.toList some))) else none) := by kernel_rfl
  rw [h]
  (try simp only [T_laws_toOpS_lp0_eq, T_laws_toOpS_c1]) <;> rfl

theorem T_laws_toOpS_ok (N : Nat) : chkBody Try.f132 (T_laws_toOpS_sg N).ps = true := by kernel_rfl

theorem T_laws_toOpS_callable : Callable Try.prog 132 := callable_of Try.func132 (show chkFn Try.f132 = true by kernel_rfl)

theorem T_laws_toOpS_good (N : Nat) : Good Try.prog 132 (T_laws_toOpS_sg N) :=
  good_body mixedOk tabOk (ctx_cons (T_laws_toOp_good N) T_laws_toOp_callable ctx_nil) Try.func132 (T_laws_toOpS_ok N) (fun d _ h => ⟨N, (T_laws_toOpS_den N d.1).trans h⟩)

noncomputable def T_laws_toKid_sg (N : Nat) : Sig := Sig.of [.v (.slice (.prod (.int .i64) (.prod (.int .i64) (.prod (.int .i64) (.int .i64))))) true] [.v (.own (.prod (.int .i64) (.prod (.int .i64) (.prod (.int .i64) (.int .i64))))) true] (fun d => T_laws_toKid N d.1)

def T_laws_toKid_ann : Nat → List Ghost
  | _ => []

noncomputable def T_laws_toKid_ctx (N : Nat) : Ctx := [(132, T_laws_toOpS_sg N)]

theorem T_laws_toKid_den (N : Nat) (a1 : List (Int × Int × Int × Int)) :
    den (R := ODen (T_laws_toKid_sg N).ps × RDen (T_laws_toKid_sg N).rs) tab (T_laws_toKid_ctx N) T_laws_toKid_ann N (T_laws_toKid_sg N) Try.f69 (a1, ()) some =
    ((T_laws_toOpS N a1).bind fun o2 =>
    (some (α := ODen (T_laws_toKid_sg N).ps × RDen (T_laws_toKid_sg N).rs) ((), (o2.2.1, ())))) := by kernel_rfl

theorem T_laws_toKid_ok (N : Nat) : chkBody Try.f69 (T_laws_toKid_sg N).ps = true := by kernel_rfl

theorem T_laws_toKid_callable : Callable Try.prog 69 := callable_of Try.func69 (show chkFn Try.f69 = true by kernel_rfl)

theorem T_laws_toKid_good (N : Nat) : Good Try.prog 69 (T_laws_toKid_sg N) :=
  good_body mixedOk tabOk (ctx_cons (T_laws_toOpS_good N) T_laws_toOpS_callable ctx_nil) Try.func69 (T_laws_toKid_ok N) (fun d _ h => ⟨N, (T_laws_toKid_den N d.1).trans h⟩)

noncomputable def T_laws_toKidS_sg (N : Nat) : Sig := Sig.of [.v (.slice (.slice (.prod (.int .i64) (.prod (.int .i64) (.prod (.int .i64) (.int .i64)))))) false] [.v (.own (.slice (.prod (.int .i64) (.prod (.int .i64) (.prod (.int .i64) (.int .i64)))))) false] (fun d => T_laws_toKidS N d.1)

def T_laws_toKidS_ann : Nat → List Ghost
  | 3 => [.canon [0, 3, 4, 11]]
  | 4 => [.canon [0, 3, 4]]
  | 5 => [.canon [0, 3, 4]]
  | 100003 => [.canon [0, 3, 4]]
  | _ => []

noncomputable def T_laws_toKidS_ctx (N : Nat) : Ctx := [(69, T_laws_toKid_sg N)]

def T_laws_toKidS_lp0_sh (a2 : List (List (Int × Int × Int × Int))) (i3 : Int) (l4 : List (List (Int × Int × Int × Int))) : St := { env := [(0, .s (.one (.val (.slice (.slice (.prod (.int .i64) (.prod (.int .i64) (.prod (.int .i64) (.int .i64)))))) (a2 : List (List (Int × Int × Int × Int)))))), (3, .s (.one (.own 0))), (4, .s (.one (.val (.int .i64) (i3 : Int))))], objs := [(0, .arr (.slice (.prod (.int .i64) (.prod (.int .i64) (.prod (.int .i64) (.int .i64))))) (l4 : List (List (Int × Int × Int × Int))))], nx := 1 }

def T_laws_toKidS_lp0_e0 (a2 : List (List (Int × Int × Int × Int))) (i6 : Int) (t7 : Bool) (l8 : List (List (Int × Int × Int × Int))) : St := { env := [(0, .s (.one (.val (.slice (.slice (.prod (.int .i64) (.prod (.int .i64) (.prod (.int .i64) (.int .i64)))))) (a2 : List (List (Int × Int × Int × Int)))))), (3, .s (.one (.own 0))), (4, .s (.one (.val (.int .i64) (i6 : Int)))), (11, .s (.one (.val (.bool) (t7 : Bool))))], objs := [(0, .arr (.slice (.prod (.int .i64) (.prod (.int .i64) (.prod (.int .i64) (.int .i64))))) (l8 : List (List (Int × Int × Int × Int))))], nx := 1 }

noncomputable def T_laws_toKidS_lp0_m (N : Nat) {R : Type} (n : Nat) (st : St) (K : Ex → St → Option R) : Option R := loopN (roundG (T_laws_toKidS_ann 100003) fun st k => sx tab (T_laws_toKidS_ctx N) T_laws_toKidS_ann N (nthLoop Try.f19 0) st k) n st K

theorem T_laws_toKidS_lp0_step (N : Nat) {R : Type} (n : Nat) (K : Ex → St → Option R) (a2 : List (List (Int × Int × Int × Int))) (i3 : Int) (l4 : List (List (Int × Int × Int × Int))) :
    T_laws_toKidS_lp0_m N (n + 1) (T_laws_toKidS_lp0_sh a2 i3 l4) K =
    (bif decide (i3 < (ilen a2)) then
    (bif inb i3 (List.length a2) then
      ((T_laws_toKid N (List.getD a2 (Int.toNat i3) ([] : List (Int × Int × Int × Int)))).bind fun o9 =>
        (bif inb i3 (List.length l4) then
          (T_laws_toKidS_lp0_m N n (T_laws_toKidS_lp0_sh a2 (iadd .i64 i3 (1 : Int)) (List.set l4 (Int.toNat i3) o9.2.1)) K) else none)) else none)
    else
    (K (.exit 0) (T_laws_toKidS_lp0_e0 a2 i3 (decide (i3 < (ilen a2))) l4))) := by kernel_rfl

theorem T_laws_toKidS_lp0_eq (N : Nat) {R : Type} (a2 : List (List (Int × Int × Int × Int))) (K : Ex → St → Option R) : ∀ (n : Nat) (i3 : Int) (l4 : List (List (Int × Int × Int × Int))), T_laws_toKidS_lp0_m N n (T_laws_toKidS_lp0_sh a2 i3 l4) K = T_laws_toKidS_lp0 N a2 (fun i6 t7 l8 => (K (.exit 0) (T_laws_toKidS_lp0_e0 a2 i6 t7 l8))) n i3 l4
  | 0, _, _ => rfl
  | n + 1, i3, l4 => by rw [T_laws_toKidS_lp0_step, T_laws_toKidS_lp0]; (try simp only [T_laws_toKidS_lp0_eq N a2 K n])

theorem T_laws_toKidS_c1 (N : Nat) (a1 : List (List (Int × Int × Int × Int))) (i10 : Int) (t11 : Bool) (l12 : List (List (Int × Int × Int × Int))) :
    ((ctxK (R := ODen (T_laws_toKidS_sg N).ps × RDen (T_laws_toKidS_sg N).rs) tab (T_laws_toKidS_ctx N) T_laws_toKidS_ann N (theCode Try.f19) [1, 1, 0, 1, 0] (retK tab (T_laws_toKidS_sg N) Try.f19.results.toList some)) (.exit 0) (T_laws_toKidS_lp0_e0 a1 i10 t11 l12)) =
    (some (α := ODen (T_laws_toKidS_sg N).ps × RDen (T_laws_toKidS_sg N).rs) ((), (l12, ()))) := by kernel_rfl

theorem T_laws_toKidS_den (N : Nat) (a1 : List (List (Int × Int × Int × Int))) :
    den (R := ODen (T_laws_toKidS_sg N).ps × RDen (T_laws_toKidS_sg N).rs) tab (T_laws_toKidS_ctx N) T_laws_toKidS_ann N (T_laws_toKidS_sg N) Try.f19 (a1, ()) some =
    (bif ((decide ((0 : Int) ≤ (ilen a1))) && (decide ((ilen a1) ≤ (ilen a1)))) && (room (Int.toNat (ilen a1))) then
    (T_laws_toKidS_lp0 N a1
      (fun i10 t11 l12 =>
        (some (α := ODen (T_laws_toKidS_sg N).ps × RDen (T_laws_toKidS_sg N).rs) ((), (l12, ()))))
       N (0 : Int) (List.replicate (Int.toNat (ilen a1)) ([] : List (Int × Int × Int × Int)))) else none) := by
  have h : den (R := ODen (T_laws_toKidS_sg N).ps × RDen (T_laws_toKidS_sg N).rs) tab (T_laws_toKidS_ctx N) T_laws_toKidS_ann N (T_laws_toKidS_sg N) Try.f19 (a1, ()) some =
    (bif ((decide ((0 : Int) ≤ (ilen a1))) && (decide ((ilen a1) ≤ (ilen a1)))) && (room (Int.toNat (ilen a1))) then
    (T_laws_toKidS_lp0_m N N (T_laws_toKidS_lp0_sh a1 (0 : Int) (List.replicate (Int.toNat (ilen a1)) ([] : List (Int × Int × Int × Int)))) (ctxK (R := ODen (T_laws_toKidS_sg N).ps × RDen (T_laws_toKidS_sg N).rs) tab (T_laws_toKidS_ctx N) T_laws_toKidS_ann N (theCode Try.f19) [1, 1, 0, 1, 0] (retK tab (T_laws_toKidS_sg N) Try.f19.results.toList some))) else none) := by kernel_rfl
  rw [h]
  (try simp only [T_laws_toKidS_lp0_eq, T_laws_toKidS_c1]) <;> rfl

theorem T_laws_toKidS_ok (N : Nat) : chkBody Try.f19 (T_laws_toKidS_sg N).ps = true := by kernel_rfl

theorem T_laws_toKidS_callable : Callable Try.prog 19 := callable_of Try.func19 (show chkFn Try.f19 = true by kernel_rfl)

theorem T_laws_toKidS_good (N : Nat) : Good Try.prog 19 (T_laws_toKidS_sg N) :=
  good_body mixedOk tabOk (ctx_cons (T_laws_toKid_good N) T_laws_toKid_callable ctx_nil) Try.func19 (T_laws_toKidS_ok N) (fun d _ h => ⟨N, (T_laws_toKidS_den N d.1).trans h⟩)

noncomputable def T_laws_toIntS_sg (N : Nat) : Sig := Sig.of [.v (.slice (.int .i64)) false] [.v (.own (.int .i64)) false] (fun d => T_laws_toIntS N d.1)

def T_laws_toIntS_ann : Nat → List Ghost
  | 3 => [.canon [0, 3, 4, 11]]
  | 4 => [.canon [0, 3, 4]]
  | 5 => [.canon [0, 3, 4]]
  | 100003 => [.canon [0, 3, 4]]
  | _ => []

noncomputable def T_laws_toIntS_ctx (N : Nat) : Ctx := []

def T_laws_toIntS_lp0_sh (a2 : List Int) (i3 : Int) (l4 : List Int) : St := { env := [(0, .s (.one (.val (.slice (.int .i64)) (a2 : List Int)))), (3, .s (.one (.own 0))), (4, .s (.one (.val (.int .i64) (i3 : Int))))], objs := [(0, .arr (.int .i64) (l4 : List Int))], nx := 1 }

def T_laws_toIntS_lp0_e0 (a2 : List Int) (i5 : Int) (t6 : Bool) (l7 : List Int) : St := { env := [(0, .s (.one (.val (.slice (.int .i64)) (a2 : List Int)))), (3, .s (.one (.own 0))), (4, .s (.one (.val (.int .i64) (i5 : Int)))), (11, .s (.one (.val (.bool) (t6 : Bool))))], objs := [(0, .arr (.int .i64) (l7 : List Int))], nx := 1 }

noncomputable def T_laws_toIntS_lp0_m (N : Nat) {R : Type} (n : Nat) (st : St) (K : Ex → St → Option R) : Option R := loopN (roundG (T_laws_toIntS_ann 100003) fun st k => sx tab (T_laws_toIntS_ctx N) T_laws_toIntS_ann N (nthLoop Try.f20 0) st k) n st K

theorem T_laws_toIntS_lp0_step (N : Nat) {R : Type} (n : Nat) (K : Ex → St → Option R) (a2 : List Int) (i3 : Int) (l4 : List Int) :
    T_laws_toIntS_lp0_m N (n + 1) (T_laws_toIntS_lp0_sh a2 i3 l4) K =
    (bif decide (i3 < (ilen a2)) then
    (bif inb i3 (List.length a2) then
      (bif inb i3 (List.length l4) then
        (T_laws_toIntS_lp0_m N n (T_laws_toIntS_lp0_sh a2 (iadd .i64 i3 (1 : Int)) (List.set l4 (Int.toNat i3) (List.getD a2 (Int.toNat i3) (0 : Int)))) K) else none) else none)
    else
    (K (.exit 0) (T_laws_toIntS_lp0_e0 a2 i3 (decide (i3 < (ilen a2))) l4))) := by kernel_rfl

theorem T_laws_toIntS_lp0_eq (N : Nat) {R : Type} (a2 : List Int) (K : Ex → St → Option R) : ∀ (n : Nat) (i3 : Int) (l4 : List Int), T_laws_toIntS_lp0_m N n (T_laws_toIntS_lp0_sh a2 i3 l4) K = T_laws_toIntS_lp0 N a2 (fun i5 t6 l7 => (K (.exit 0) (T_laws_toIntS_lp0_e0 a2 i5 t6 l7))) n i3 l4
  | 0, _, _ => rfl
  | n + 1, i3, l4 => by rw [T_laws_toIntS_lp0_step, T_laws_toIntS_lp0]; (try simp only [T_laws_toIntS_lp0_eq N a2 K n])

theorem T_laws_toIntS_c1 (N : Nat) (a1 : List Int) (i8 : Int) (t9 : Bool) (l10 : List Int) :
    ((ctxK (R := ODen (T_laws_toIntS_sg N).ps × RDen (T_laws_toIntS_sg N).rs) tab (T_laws_toIntS_ctx N) T_laws_toIntS_ann N (theCode Try.f20) [1, 1, 0, 1, 0] (retK tab (T_laws_toIntS_sg N) Try.f20.results.toList some)) (.exit 0) (T_laws_toIntS_lp0_e0 a1 i8 t9 l10)) =
    (some (α := ODen (T_laws_toIntS_sg N).ps × RDen (T_laws_toIntS_sg N).rs) ((), (l10, ()))) := by kernel_rfl

theorem T_laws_toIntS_den (N : Nat) (a1 : List Int) :
    den (R := ODen (T_laws_toIntS_sg N).ps × RDen (T_laws_toIntS_sg N).rs) tab (T_laws_toIntS_ctx N) T_laws_toIntS_ann N (T_laws_toIntS_sg N) Try.f20 (a1, ()) some =
    (bif ((decide ((0 : Int) ≤ (ilen a1))) && (decide ((ilen a1) ≤ (ilen a1)))) && (room (Int.toNat (ilen a1))) then
    (T_laws_toIntS_lp0 N a1
      (fun i8 t9 l10 =>
        (some (α := ODen (T_laws_toIntS_sg N).ps × RDen (T_laws_toIntS_sg N).rs) ((), (l10, ()))))
       N (0 : Int) (List.replicate (Int.toNat (ilen a1)) (0 : Int))) else none) := by
  have h : den (R := ODen (T_laws_toIntS_sg N).ps × RDen (T_laws_toIntS_sg N).rs) tab (T_laws_toIntS_ctx N) T_laws_toIntS_ann N (T_laws_toIntS_sg N) Try.f20 (a1, ()) some =
    (bif ((decide ((0 : Int) ≤ (ilen a1))) && (decide ((ilen a1) ≤ (ilen a1)))) && (room (Int.toNat (ilen a1))) then
    (T_laws_toIntS_lp0_m N N (T_laws_toIntS_lp0_sh a1 (0 : Int) (List.replicate (Int.toNat (ilen a1)) (0 : Int))) (ctxK (R := ODen (T_laws_toIntS_sg N).ps × RDen (T_laws_toIntS_sg N).rs) tab (T_laws_toIntS_ctx N) T_laws_toIntS_ann N (theCode Try.f20) [1, 1, 0, 1, 0] (retK tab (T_laws_toIntS_sg N) Try.f20.results.toList some))) else none) := by kernel_rfl
  rw [h]
  (try simp only [T_laws_toIntS_lp0_eq, T_laws_toIntS_c1]) <;> rfl

theorem T_laws_toIntS_ok (N : Nat) : chkBody Try.f20 (T_laws_toIntS_sg N).ps = true := by kernel_rfl

theorem T_laws_toIntS_callable : Callable Try.prog 20 := callable_of Try.func20 (show chkFn Try.f20 = true by kernel_rfl)

theorem T_laws_toIntS_good (N : Nat) : Good Try.prog 20 (T_laws_toIntS_sg N) :=
  good_body mixedOk tabOk ctx_nil Try.func20 (T_laws_toIntS_ok N) (fun d _ h => ⟨N, (T_laws_toIntS_den N d.1).trans h⟩)

noncomputable def T_spec_l1In_sg (N : Nat) : Sig := Sig.of [.v (.int .i64) false, .v (.int .i64) false, .v (.int .i64) false] [.v (.bool) false] (fun d => T_spec_l1In N d.1 d.2.1 d.2.2.1)

def T_spec_l1In_ann : Nat → List Ghost
  | _ => []

noncomputable def T_spec_l1In_ctx (N : Nat) : Ctx := []

theorem T_spec_l1In_den (N : Nat) (x1 : Int) (low2 : Int) (high3 : Int) :
    den (R := ODen (T_spec_l1In_sg N).ps × RDen (T_spec_l1In_sg N).rs) tab (T_spec_l1In_ctx N) T_spec_l1In_ann N (T_spec_l1In_sg N) Try.f59 (x1, low2, high3, ()) some =
    (bif decide (x1 ≥ low2) then
    (some (α := ODen (T_spec_l1In_sg N).ps × RDen (T_spec_l1In_sg N).rs) ((), (decide (x1 ≤ high3), ())))
    else
    (some (α := ODen (T_spec_l1In_sg N).ps × RDen (T_spec_l1In_sg N).rs) ((), (false, ())))) := by kernel_rfl

theorem T_spec_l1In_ok (N : Nat) : chkBody Try.f59 (T_spec_l1In_sg N).ps = true := by kernel_rfl

theorem T_spec_l1In_callable : Callable Try.prog 59 := callable_of Try.func59 (show chkFn Try.f59 = true by kernel_rfl)

theorem T_spec_l1In_good (N : Nat) : Good Try.prog 59 (T_spec_l1In_sg N) :=
  good_body mixedOk tabOk ctx_nil Try.func59 (T_spec_l1In_ok N) (fun d _ h => ⟨N, (T_spec_l1In_den N d.1 d.2.1 d.2.2.1).trans h⟩)

noncomputable def T_spec_l3Val_sg (N : Nat) : Sig := Sig.of [.v (.int .i64) false] [.v (.bool) false] (fun d => T_spec_l3Val N d.1)

def T_spec_l3Val_ann : Nat → List Ghost
  | _ => []

noncomputable def T_spec_l3Val_ctx (N : Nat) : Ctx := [(59, T_spec_l1In_sg N)]

theorem T_spec_l3Val_den (N : Nat) (v1 : Int) :
    den (R := ODen (T_spec_l3Val_sg N).ps × RDen (T_spec_l3Val_sg N).rs) tab (T_spec_l3Val_ctx N) T_spec_l3Val_ann N (T_spec_l3Val_sg N) Try.f128 (v1, ()) some =
    ((T_spec_l1In N v1 (0 : Int) (65535 : Int)).bind fun o2 =>
    (some (α := ODen (T_spec_l3Val_sg N).ps × RDen (T_spec_l3Val_sg N).rs) ((), (o2.2.1, ())))) := by kernel_rfl

theorem T_spec_l3Val_ok (N : Nat) : chkBody Try.f128 (T_spec_l3Val_sg N).ps = true := by kernel_rfl

theorem T_spec_l3Val_callable : Callable Try.prog 128 := callable_of Try.func128 (show chkFn Try.f128 = true by kernel_rfl)

theorem T_spec_l3Val_good (N : Nat) : Good Try.prog 128 (T_spec_l3Val_sg N) :=
  good_body mixedOk tabOk (ctx_cons (T_spec_l1In_good N) T_spec_l1In_callable ctx_nil) Try.func128 (T_spec_l3Val_ok N) (fun d _ h => ⟨N, (T_spec_l3Val_den N d.1).trans h⟩)

noncomputable def T_spec_l4Regs_sg (N : Nat) : Sig := Sig.of [.v (.slice (.int .i64)) false] [.v (.bool) false] (fun d => T_spec_l4Regs N d.1)

def T_spec_l4Regs_ann : Nat → List Ghost
  | 4 => [.canon [0, 3, 10]]
  | 5 => [.canon [0, 3]]
  | 6 => [.canon [0, 3, 18]]
  | 7 => [.canon [2]]
  | 100004 => [.canon [0, 3]]
  | _ => []

noncomputable def T_spec_l4Regs_ctx (N : Nat) : Ctx := [(128, T_spec_l3Val_sg N)]

def T_spec_l4Regs_lp0_sh (l2 : List Int) (i3 : Int) : St := { env := [(0, .s (.one (.val (.slice (.int .i64)) (l2 : List Int)))), (3, .s (.one (.val (.int .i64) (i3 : Int))))], objs := [], nx := 0 }

def T_spec_l4Regs_lp0_e0 (l2 : List Int) : St := { env := [(2, .s (.one (.val (.bool) (false : Bool))))], objs := [], nx := 0 }

def T_spec_l4Regs_lp0_e1 (l2 : List Int) (i5 : Int) (t6 : Bool) : St := { env := [(0, .s (.one (.val (.slice (.int .i64)) (l2 : List Int)))), (3, .s (.one (.val (.int .i64) (i5 : Int)))), (10, .s (.one (.val (.bool) (t6 : Bool))))], objs := [], nx := 0 }

noncomputable def T_spec_l4Regs_lp0_m (N : Nat) {R : Type} (n : Nat) (st : St) (K : Ex → St → Option R) : Option R := loopN (roundG (T_spec_l4Regs_ann 100004) fun st k => sx tab (T_spec_l4Regs_ctx N) T_spec_l4Regs_ann N (nthLoop Try.f66 0) st k) n st K

theorem T_spec_l4Regs_lp0_step (N : Nat) {R : Type} (n : Nat) (K : Ex → St → Option R) (l2 : List Int) (i3 : Int) :
    T_spec_l4Regs_lp0_m N (n + 1) (T_spec_l4Regs_lp0_sh l2 i3) K =
    (bif decide (i3 < (ilen l2)) then
    (bif inb i3 (List.length l2) then
      ((T_spec_l3Val N (List.getD l2 (Int.toNat i3) (0 : Int))).bind fun o7 =>
        (bif !o7.2.1 then
          (K .ret (T_spec_l4Regs_lp0_e0 l2))
          else
          (T_spec_l4Regs_lp0_m N n (T_spec_l4Regs_lp0_sh l2 (iadd .i64 i3 (1 : Int))) K))) else none)
    else
    (K (.exit 0) (T_spec_l4Regs_lp0_e1 l2 i3 (decide (i3 < (ilen l2)))))) := by kernel_rfl

theorem T_spec_l4Regs_lp0_eq (N : Nat) {R : Type} (l2 : List Int) (K : Ex → St → Option R) : ∀ (n : Nat) (i3 : Int), T_spec_l4Regs_lp0_m N n (T_spec_l4Regs_lp0_sh l2 i3) K = T_spec_l4Regs_lp0 N l2 (K .ret (T_spec_l4Regs_lp0_e0 l2)) (fun i5 t6 => (K (.exit 0) (T_spec_l4Regs_lp0_e1 l2 i5 t6))) n i3
  | 0, _ => rfl
  | n + 1, i3 => by rw [T_spec_l4Regs_lp0_step, T_spec_l4Regs_lp0]; (try simp only [T_spec_l4Regs_lp0_eq N l2 K n])

theorem T_spec_l4Regs_c1 (N : Nat) (l1 : List Int) :
    ((ctxK (R := ODen (T_spec_l4Regs_sg N).ps × RDen (T_spec_l4Regs_sg N).rs) tab (T_spec_l4Regs_ctx N) T_spec_l4Regs_ann N (theCode Try.f66) [1, 1, 0, 1, 0] (retK tab (T_spec_l4Regs_sg N) Try.f66.results.toList some)) .ret (T_spec_l4Regs_lp0_e0 l1)) =
    (some (α := ODen (T_spec_l4Regs_sg N).ps × RDen (T_spec_l4Regs_sg N).rs) ((), (false, ()))) := by kernel_rfl

theorem T_spec_l4Regs_c2 (N : Nat) (l1 : List Int) (i8 : Int) (t9 : Bool) :
    ((ctxK (R := ODen (T_spec_l4Regs_sg N).ps × RDen (T_spec_l4Regs_sg N).rs) tab (T_spec_l4Regs_ctx N) T_spec_l4Regs_ann N (theCode Try.f66) [1, 1, 0, 1, 0] (retK tab (T_spec_l4Regs_sg N) Try.f66.results.toList some)) (.exit 0) (T_spec_l4Regs_lp0_e1 l1 i8 t9)) =
    (some (α := ODen (T_spec_l4Regs_sg N).ps × RDen (T_spec_l4Regs_sg N).rs) ((), (true, ()))) := by kernel_rfl

theorem T_spec_l4Regs_den (N : Nat) (l1 : List Int) :
    den (R := ODen (T_spec_l4Regs_sg N).ps × RDen (T_spec_l4Regs_sg N).rs) tab (T_spec_l4Regs_ctx N) T_spec_l4Regs_ann N (T_spec_l4Regs_sg N) Try.f66 (l1, ()) some =
    (bif (ilen l1) != (4 : Int) then
    (some (α := ODen (T_spec_l4Regs_sg N).ps × RDen (T_spec_l4Regs_sg N).rs) ((), (false, ())))
    else
    (T_spec_l4Regs_lp0 N l1
      (some (α := ODen (T_spec_l4Regs_sg N).ps × RDen (T_spec_l4Regs_sg N).rs) ((), (false, ())))
      (fun i8 t9 =>
        (some (α := ODen (T_spec_l4Regs_sg N).ps × RDen (T_spec_l4Regs_sg N).rs) ((), (true, ()))))
       N (0 : Int))) := by
  have h : den (R := ODen (T_spec_l4Regs_sg N).ps × RDen (T_spec_l4Regs_sg N).rs) tab (T_spec_l4Regs_ctx N) T_spec_l4Regs_ann N (T_spec_l4Regs_sg N) Try.f66 (l1, ()) some =
    (bif (ilen l1) != (4 : Int) then
    (some (α := ODen (T_spec_l4Regs_sg N).ps × RDen (T_spec_l4Regs_sg N).rs) ((), (false, ())))
    else
    (T_spec_l4Regs_lp0_m N N (T_spec_l4Regs_lp0_sh l1 (0 : Int)) (ctxK (R := ODen (T_spec_l4Regs_sg N).ps × RDen (T_spec_l4Regs_sg N).rs) tab (T_spec_l4Regs_ctx N) T_spec_l4Regs_ann N (theCode Try.f66) [1, 1, 0, 1, 0] (retK tab (T_spec_l4Regs_sg N) Try.f66.results.toList some)))) := by kernel_rfl
  rw [h]
  (try simp only [T_spec_l4Regs_lp0_eq, T_spec_l4Regs_c1, T_spec_l4Regs_c2]) <;> rfl

theorem T_spec_l4Regs_ok (N : Nat) : chkBody Try.f66 (T_spec_l4Regs_sg N).ps = true := by kernel_rfl

theorem T_spec_l4Regs_callable : Callable Try.prog 66 := callable_of Try.func66 (show chkFn Try.f66 = true by kernel_rfl)

theorem T_spec_l4Regs_good (N : Nat) : Good Try.prog 66 (T_spec_l4Regs_sg N) :=
  good_body mixedOk tabOk (ctx_cons (T_spec_l3Val_good N) T_spec_l3Val_callable ctx_nil) Try.func66 (T_spec_l4Regs_ok N) (fun d _ h => ⟨N, (T_spec_l4Regs_den N d.1).trans h⟩)

noncomputable def T_spec_l3Vals_sg (N : Nat) : Sig := Sig.of [.v (.slice (.int .i64)) false] [.v (.bool) false] (fun d => T_spec_l3Vals N d.1)

def T_spec_l3Vals_ann : Nat → List Ghost
  | 4 => [.canon [0, 3, 10]]
  | 5 => [.canon [0, 3]]
  | 6 => [.canon [0, 3, 18]]
  | 7 => [.canon [2]]
  | 100004 => [.canon [0, 3]]
  | _ => []

noncomputable def T_spec_l3Vals_ctx (N : Nat) : Ctx := [(128, T_spec_l3Val_sg N)]

def T_spec_l3Vals_lp0_sh (l2 : List Int) (i3 : Int) : St := { env := [(0, .s (.one (.val (.slice (.int .i64)) (l2 : List Int)))), (3, .s (.one (.val (.int .i64) (i3 : Int))))], objs := [], nx := 0 }

def T_spec_l3Vals_lp0_e0 (l2 : List Int) : St := { env := [(2, .s (.one (.val (.bool) (false : Bool))))], objs := [], nx := 0 }

def T_spec_l3Vals_lp0_e1 (l2 : List Int) (i5 : Int) (t6 : Bool) : St := { env := [(0, .s (.one (.val (.slice (.int .i64)) (l2 : List Int)))), (3, .s (.one (.val (.int .i64) (i5 : Int)))), (10, .s (.one (.val (.bool) (t6 : Bool))))], objs := [], nx := 0 }

noncomputable def T_spec_l3Vals_lp0_m (N : Nat) {R : Type} (n : Nat) (st : St) (K : Ex → St → Option R) : Option R := loopN (roundG (T_spec_l3Vals_ann 100004) fun st k => sx tab (T_spec_l3Vals_ctx N) T_spec_l3Vals_ann N (nthLoop Try.f67 0) st k) n st K

theorem T_spec_l3Vals_lp0_step (N : Nat) {R : Type} (n : Nat) (K : Ex → St → Option R) (l2 : List Int) (i3 : Int) :
    T_spec_l3Vals_lp0_m N (n + 1) (T_spec_l3Vals_lp0_sh l2 i3) K =
    (bif decide (i3 < (ilen l2)) then
    (bif inb i3 (List.length l2) then
      ((T_spec_l3Val N (List.getD l2 (Int.toNat i3) (0 : Int))).bind fun o7 =>
        (bif !o7.2.1 then
          (K .ret (T_spec_l3Vals_lp0_e0 l2))
          else
          (T_spec_l3Vals_lp0_m N n (T_spec_l3Vals_lp0_sh l2 (iadd .i64 i3 (1 : Int))) K))) else none)
    else
    (K (.exit 0) (T_spec_l3Vals_lp0_e1 l2 i3 (decide (i3 < (ilen l2)))))) := by kernel_rfl

theorem T_spec_l3Vals_lp0_eq (N : Nat) {R : Type} (l2 : List Int) (K : Ex → St → Option R) : ∀ (n : Nat) (i3 : Int), T_spec_l3Vals_lp0_m N n (T_spec_l3Vals_lp0_sh l2 i3) K = T_spec_l3Vals_lp0 N l2 (K .ret (T_spec_l3Vals_lp0_e0 l2)) (fun i5 t6 => (K (.exit 0) (T_spec_l3Vals_lp0_e1 l2 i5 t6))) n i3
  | 0, _ => rfl
  | n + 1, i3 => by rw [T_spec_l3Vals_lp0_step, T_spec_l3Vals_lp0]; (try simp only [T_spec_l3Vals_lp0_eq N l2 K n])

theorem T_spec_l3Vals_c1 (N : Nat) (l1 : List Int) :
    ((ctxK (R := ODen (T_spec_l3Vals_sg N).ps × RDen (T_spec_l3Vals_sg N).rs) tab (T_spec_l3Vals_ctx N) T_spec_l3Vals_ann N (theCode Try.f67) [1, 1, 0, 1, 0] (retK tab (T_spec_l3Vals_sg N) Try.f67.results.toList some)) .ret (T_spec_l3Vals_lp0_e0 l1)) =
    (some (α := ODen (T_spec_l3Vals_sg N).ps × RDen (T_spec_l3Vals_sg N).rs) ((), (false, ()))) := by kernel_rfl

theorem T_spec_l3Vals_c2 (N : Nat) (l1 : List Int) (i8 : Int) (t9 : Bool) :
    ((ctxK (R := ODen (T_spec_l3Vals_sg N).ps × RDen (T_spec_l3Vals_sg N).rs) tab (T_spec_l3Vals_ctx N) T_spec_l3Vals_ann N (theCode Try.f67) [1, 1, 0, 1, 0] (retK tab (T_spec_l3Vals_sg N) Try.f67.results.toList some)) (.exit 0) (T_spec_l3Vals_lp0_e1 l1 i8 t9)) =
    (some (α := ODen (T_spec_l3Vals_sg N).ps × RDen (T_spec_l3Vals_sg N).rs) ((), (true, ()))) := by kernel_rfl

theorem T_spec_l3Vals_den (N : Nat) (l1 : List Int) :
    den (R := ODen (T_spec_l3Vals_sg N).ps × RDen (T_spec_l3Vals_sg N).rs) tab (T_spec_l3Vals_ctx N) T_spec_l3Vals_ann N (T_spec_l3Vals_sg N) Try.f67 (l1, ()) some =
    (bif (ilen l1) != (8 : Int) then
    (some (α := ODen (T_spec_l3Vals_sg N).ps × RDen (T_spec_l3Vals_sg N).rs) ((), (false, ())))
    else
    (T_spec_l3Vals_lp0 N l1
      (some (α := ODen (T_spec_l3Vals_sg N).ps × RDen (T_spec_l3Vals_sg N).rs) ((), (false, ())))
      (fun i8 t9 =>
        (some (α := ODen (T_spec_l3Vals_sg N).ps × RDen (T_spec_l3Vals_sg N).rs) ((), (true, ()))))
       N (0 : Int))) := by
  have h : den (R := ODen (T_spec_l3Vals_sg N).ps × RDen (T_spec_l3Vals_sg N).rs) tab (T_spec_l3Vals_ctx N) T_spec_l3Vals_ann N (T_spec_l3Vals_sg N) Try.f67 (l1, ()) some =
    (bif (ilen l1) != (8 : Int) then
    (some (α := ODen (T_spec_l3Vals_sg N).ps × RDen (T_spec_l3Vals_sg N).rs) ((), (false, ())))
    else
    (T_spec_l3Vals_lp0_m N N (T_spec_l3Vals_lp0_sh l1 (0 : Int)) (ctxK (R := ODen (T_spec_l3Vals_sg N).ps × RDen (T_spec_l3Vals_sg N).rs) tab (T_spec_l3Vals_ctx N) T_spec_l3Vals_ann N (theCode Try.f67) [1, 1, 0, 1, 0] (retK tab (T_spec_l3Vals_sg N) Try.f67.results.toList some)))) := by kernel_rfl
  rw [h]
  (try simp only [T_spec_l3Vals_lp0_eq, T_spec_l3Vals_c1, T_spec_l3Vals_c2]) <;> rfl

theorem T_spec_l3Vals_ok (N : Nat) : chkBody Try.f67 (T_spec_l3Vals_sg N).ps = true := by kernel_rfl

theorem T_spec_l3Vals_callable : Callable Try.prog 67 := callable_of Try.func67 (show chkFn Try.f67 = true by kernel_rfl)

theorem T_spec_l3Vals_good (N : Nat) : Good Try.prog 67 (T_spec_l3Vals_sg N) :=
  good_body mixedOk tabOk (ctx_cons (T_spec_l3Val_good N) T_spec_l3Val_callable ctx_nil) Try.func67 (T_spec_l3Vals_ok N) (fun d _ h => ⟨N, (T_spec_l3Vals_den N d.1).trans h⟩)

noncomputable def T_spec_l4Reg_sg (N : Nat) : Sig := Sig.of [.v (.int .i64) false] [.v (.bool) false] (fun d => T_spec_l4Reg N d.1)

def T_spec_l4Reg_ann : Nat → List Ghost
  | _ => []

noncomputable def T_spec_l4Reg_ctx (N : Nat) : Ctx := [(59, T_spec_l1In_sg N)]

theorem T_spec_l4Reg_den (N : Nat) (i1 : Int) :
    den (R := ODen (T_spec_l4Reg_sg N).ps × RDen (T_spec_l4Reg_sg N).rs) tab (T_spec_l4Reg_ctx N) T_spec_l4Reg_ann N (T_spec_l4Reg_sg N) Try.f179 (i1, ()) some =
    ((T_spec_l1In N i1 (0 : Int) (3 : Int)).bind fun o2 =>
    (some (α := ODen (T_spec_l4Reg_sg N).ps × RDen (T_spec_l4Reg_sg N).rs) ((), (o2.2.1, ())))) := by kernel_rfl

theorem T_spec_l4Reg_ok (N : Nat) : chkBody Try.f179 (T_spec_l4Reg_sg N).ps = true := by kernel_rfl

theorem T_spec_l4Reg_callable : Callable Try.prog 179 := callable_of Try.func179 (show chkFn Try.f179 = true by kernel_rfl)

theorem T_spec_l4Reg_good (N : Nat) : Good Try.prog 179 (T_spec_l4Reg_sg N) :=
  good_body mixedOk tabOk (ctx_cons (T_spec_l1In_good N) T_spec_l1In_callable ctx_nil) Try.func179 (T_spec_l4Reg_ok N) (fun d _ h => ⟨N, (T_spec_l4Reg_den N d.1).trans h⟩)

noncomputable def T_spec_l3Cell_sg (N : Nat) : Sig := Sig.of [.v (.int .i64) false] [.v (.bool) false] (fun d => T_spec_l3Cell N d.1)

def T_spec_l3Cell_ann : Nat → List Ghost
  | _ => []

noncomputable def T_spec_l3Cell_ctx (N : Nat) : Ctx := [(59, T_spec_l1In_sg N)]

theorem T_spec_l3Cell_den (N : Nat) (i1 : Int) :
    den (R := ODen (T_spec_l3Cell_sg N).ps × RDen (T_spec_l3Cell_sg N).rs) tab (T_spec_l3Cell_ctx N) T_spec_l3Cell_ann N (T_spec_l3Cell_sg N) Try.f152 (i1, ()) some =
    ((T_spec_l1In N i1 (0 : Int) (7 : Int)).bind fun o2 =>
    (some (α := ODen (T_spec_l3Cell_sg N).ps × RDen (T_spec_l3Cell_sg N).rs) ((), (o2.2.1, ())))) := by kernel_rfl

theorem T_spec_l3Cell_ok (N : Nat) : chkBody Try.f152 (T_spec_l3Cell_sg N).ps = true := by kernel_rfl

theorem T_spec_l3Cell_callable : Callable Try.prog 152 := callable_of Try.func152 (show chkFn Try.f152 = true by kernel_rfl)

theorem T_spec_l3Cell_good (N : Nat) : Good Try.prog 152 (T_spec_l3Cell_sg N) :=
  good_body mixedOk tabOk (ctx_cons (T_spec_l1In_good N) T_spec_l1In_callable ctx_nil) Try.func152 (T_spec_l3Cell_ok N) (fun d _ h => ⟨N, (T_spec_l3Cell_den N d.1).trans h⟩)

noncomputable def T_spec_OpOk_sg (N : Nat) : Sig := Sig.of [.v (.prod (.int .i64) (.prod (.int .i64) (.prod (.int .i64) (.int .i64)))) true] [.v (.bool) false] (fun d => T_spec_OpOk N d.1)

def T_spec_OpOk_ann : Nat → List Ghost
  | _ => []

noncomputable def T_spec_OpOk_ctx (N : Nat) : Ctx := [(179, T_spec_l4Reg_sg N), (128, T_spec_l3Val_sg N), (152, T_spec_l3Cell_sg N), (59, T_spec_l1In_sg N)]

theorem T_spec_OpOk_den (N : Nat) (o1 : Int × Int × Int × Int) :
    den (R := ODen (T_spec_OpOk_sg N).ps × RDen (T_spec_OpOk_sg N).rs) tab (T_spec_OpOk_ctx N) T_spec_OpOk_ann N (T_spec_OpOk_sg N) Try.f163 (o1, ()) some =
    (bif o1.1 == (1 : Int) then
    ((T_spec_l4Reg N o1.2.1).bind fun o2 =>
      (bif o2.2.1 then
        ((T_spec_l3Val N o1.2.2.1).bind fun o3 =>
          (bif o3.2.1 then
            (some (α := ODen (T_spec_OpOk_sg N).ps × RDen (T_spec_OpOk_sg N).rs) ((), (o1.2.2.2 == (0 : Int), ())))
            else
            (some (α := ODen (T_spec_OpOk_sg N).ps × RDen (T_spec_OpOk_sg N).rs) ((), (false, ())))))
        else
        (some (α := ODen (T_spec_OpOk_sg N).ps × RDen (T_spec_OpOk_sg N).rs) ((), (false, ())))))
    else
    (bif o1.1 == (2 : Int) then
      (bif o1.1 == (2 : Int) then
        ((T_spec_l4Reg N o1.2.1).bind fun o4 =>
          (bif o4.2.1 then
            ((T_spec_l4Reg N o1.2.2.1).bind fun o5 =>
              (bif o5.2.1 then
                ((T_spec_l4Reg N o1.2.2.2).bind fun o6 =>
                  (some (α := ODen (T_spec_OpOk_sg N).ps × RDen (T_spec_OpOk_sg N).rs) ((), (o6.2.1, ()))))
                else
                (some (α := ODen (T_spec_OpOk_sg N).ps × RDen (T_spec_OpOk_sg N).rs) ((), (false, ())))))
            else
            (some (α := ODen (T_spec_OpOk_sg N).ps × RDen (T_spec_OpOk_sg N).rs) ((), (false, ())))))
        else
        (bif o1.1 == (5 : Int) then
          ((T_spec_l4Reg N o1.2.1).bind fun o7 =>
            (bif o7.2.1 then
              ((T_spec_l3Cell N o1.2.2.1).bind fun o8 =>
                (bif o8.2.1 then
                  (some (α := ODen (T_spec_OpOk_sg N).ps × RDen (T_spec_OpOk_sg N).rs) ((), (o1.2.2.2 == (0 : Int), ())))
                  else
                  (some (α := ODen (T_spec_OpOk_sg N).ps × RDen (T_spec_OpOk_sg N).rs) ((), (false, ())))))
              else
              (some (α := ODen (T_spec_OpOk_sg N).ps × RDen (T_spec_OpOk_sg N).rs) ((), (false, ())))))
          else
          (bif o1.1 == (6 : Int) then
            ((T_spec_l3Cell N o1.2.1).bind fun o9 =>
              (bif o9.2.1 then
                ((T_spec_l4Reg N o1.2.2.1).bind fun o10 =>
                  (bif o10.2.1 then
                    (some (α := ODen (T_spec_OpOk_sg N).ps × RDen (T_spec_OpOk_sg N).rs) ((), (o1.2.2.2 == (0 : Int), ())))
                    else
                    (some (α := ODen (T_spec_OpOk_sg N).ps × RDen (T_spec_OpOk_sg N).rs) ((), (false, ())))))
                else
                (some (α := ODen (T_spec_OpOk_sg N).ps × RDen (T_spec_OpOk_sg N).rs) ((), (false, ())))))
            else
            (bif o1.1 == (7 : Int) then
              ((T_spec_l4Reg N o1.2.1).bind fun o11 =>
                (bif o11.2.1 then
                  ((T_spec_l1In N o1.2.2.1 (1 : Int) (20 : Int)).bind fun o12 =>
                    (bif o12.2.1 then
                      (some (α := ODen (T_spec_OpOk_sg N).ps × RDen (T_spec_OpOk_sg N).rs) ((), (o1.2.2.2 == (0 : Int), ())))
                      else
                      (some (α := ODen (T_spec_OpOk_sg N).ps × RDen (T_spec_OpOk_sg N).rs) ((), (false, ())))))
                  else
                  (some (α := ODen (T_spec_OpOk_sg N).ps × RDen (T_spec_OpOk_sg N).rs) ((), (false, ())))))
              else
              (bif o1.1 == (8 : Int) then
                (bif o1.1 == (8 : Int) then
                  ((T_spec_l4Reg N o1.2.1).bind fun o13 =>
                    (bif o13.2.1 then
                      (bif o1.2.2.1 == (0 : Int) then
                        (some (α := ODen (T_spec_OpOk_sg N).ps × RDen (T_spec_OpOk_sg N).rs) ((), (o1.2.2.2 == (0 : Int), ())))
                        else
                        (some (α := ODen (T_spec_OpOk_sg N).ps × RDen (T_spec_OpOk_sg N).rs) ((), (false, ()))))
                      else
                      (some (α := ODen (T_spec_OpOk_sg N).ps × RDen (T_spec_OpOk_sg N).rs) ((), (false, ())))))
                  else
                  (bif o1.1 == (9 : Int) then
                    (bif o1.1 == (9 : Int) then
                      (bif o1.2.1 == (0 : Int) then
                        (bif o1.2.2.1 == (0 : Int) then
                          (some (α := ODen (T_spec_OpOk_sg N).ps × RDen (T_spec_OpOk_sg N).rs) ((), (o1.2.2.2 == (0 : Int), ())))
                          else
                          (some (α := ODen (T_spec_OpOk_sg N).ps × RDen (T_spec_OpOk_sg N).rs) ((), (false, ()))))
                        else
                        (some (α := ODen (T_spec_OpOk_sg N).ps × RDen (T_spec_OpOk_sg N).rs) ((), (false, ()))))
                      else
                      (bif o1.1 == (12 : Int) then
                        ((T_spec_l1In N o1.2.1 (0 : Int) (7 : Int)).bind fun o14 =>
                          (bif o14.2.1 then
                            ((T_spec_l4Reg N o1.2.2.1).bind fun o15 =>
                              (bif o15.2.1 then
                                ((T_spec_l4Reg N o1.2.2.2).bind fun o16 =>
                                  (some (α := ODen (T_spec_OpOk_sg N).ps × RDen (T_spec_OpOk_sg N).rs) ((), (o16.2.1, ()))))
                                else
                                (some (α := ODen (T_spec_OpOk_sg N).ps × RDen (T_spec_OpOk_sg N).rs) ((), (false, ())))))
                            else
                            (some (α := ODen (T_spec_OpOk_sg N).ps × RDen (T_spec_OpOk_sg N).rs) ((), (false, ())))))
                        else
                        (bif o1.1 == (13 : Int) then
                          ((T_spec_l4Reg N o1.2.1).bind fun o17 =>
                            (bif o17.2.1 then
                              ((T_spec_l1In N o1.2.2.1 (0 : Int) (7 : Int)).bind fun o18 =>
                                (bif o18.2.1 then
                                  (some (α := ODen (T_spec_OpOk_sg N).ps × RDen (T_spec_OpOk_sg N).rs) ((), (o1.2.2.2 == (0 : Int), ())))
                                  else
                                  (some (α := ODen (T_spec_OpOk_sg N).ps × RDen (T_spec_OpOk_sg N).rs) ((), (false, ())))))
                              else
                              (some (α := ODen (T_spec_OpOk_sg N).ps × RDen (T_spec_OpOk_sg N).rs) ((), (false, ())))))
                          else
                          (bif o1.1 == (14 : Int) then
                            ((T_spec_l1In N o1.2.1 (0 : Int) (7 : Int)).bind fun o19 =>
                              (bif o19.2.1 then
                                ((T_spec_l4Reg N o1.2.2.1).bind fun o20 =>
                                  (bif o20.2.1 then
                                    (some (α := ODen (T_spec_OpOk_sg N).ps × RDen (T_spec_OpOk_sg N).rs) ((), (o1.2.2.2 == (0 : Int), ())))
                                    else
                                    (some (α := ODen (T_spec_OpOk_sg N).ps × RDen (T_spec_OpOk_sg N).rs) ((), (false, ())))))
                                else
                                (some (α := ODen (T_spec_OpOk_sg N).ps × RDen (T_spec_OpOk_sg N).rs) ((), (false, ())))))
                            else
                            (some (α := ODen (T_spec_OpOk_sg N).ps × RDen (T_spec_OpOk_sg N).rs) ((), (false, ())))))))
                    else
                    (bif o1.1 == (10 : Int) then
                      (bif o1.1 == (10 : Int) then
                        (bif o1.2.1 == (0 : Int) then
                          (bif o1.2.2.1 == (0 : Int) then
                            (some (α := ODen (T_spec_OpOk_sg N).ps × RDen (T_spec_OpOk_sg N).rs) ((), (o1.2.2.2 == (0 : Int), ())))
                            else
                            (some (α := ODen (T_spec_OpOk_sg N).ps × RDen (T_spec_OpOk_sg N).rs) ((), (false, ()))))
                          else
                          (some (α := ODen (T_spec_OpOk_sg N).ps × RDen (T_spec_OpOk_sg N).rs) ((), (false, ()))))
                        else
                        (bif o1.1 == (12 : Int) then
                          ((T_spec_l1In N o1.2.1 (0 : Int) (7 : Int)).bind fun o21 =>
                            (bif o21.2.1 then
                              ((T_spec_l4Reg N o1.2.2.1).bind fun o22 =>
                                (bif o22.2.1 then
                                  ((T_spec_l4Reg N o1.2.2.2).bind fun o23 =>
                                    (some (α := ODen (T_spec_OpOk_sg N).ps × RDen (T_spec_OpOk_sg N).rs) ((), (o23.2.1, ()))))
                                  else
                                  (some (α := ODen (T_spec_OpOk_sg N).ps × RDen (T_spec_OpOk_sg N).rs) ((), (false, ())))))
                              else
                              (some (α := ODen (T_spec_OpOk_sg N).ps × RDen (T_spec_OpOk_sg N).rs) ((), (false, ())))))
                          else
                          (bif o1.1 == (13 : Int) then
                            ((T_spec_l4Reg N o1.2.1).bind fun o24 =>
                              (bif o24.2.1 then
                                ((T_spec_l1In N o1.2.2.1 (0 : Int) (7 : Int)).bind fun o25 =>
                                  (bif o25.2.1 then
                                    (some (α := ODen (T_spec_OpOk_sg N).ps × RDen (T_spec_OpOk_sg N).rs) ((), (o1.2.2.2 == (0 : Int), ())))
                                    else
                                    (some (α := ODen (T_spec_OpOk_sg N).ps × RDen (T_spec_OpOk_sg N).rs) ((), (false, ())))))
                                else
                                (some (α := ODen (T_spec_OpOk_sg N).ps × RDen (T_spec_OpOk_sg N).rs) ((), (false, ())))))
                            else
                            (bif o1.1 == (14 : Int) then
                              ((T_spec_l1In N o1.2.1 (0 : Int) (7 : Int)).bind fun o26 =>
                                (bif o26.2.1 then
                                  ((T_spec_l4Reg N o1.2.2.1).bind fun o27 =>
                                    (bif o27.2.1 then
                                      (some (α := ODen (T_spec_OpOk_sg N).ps × RDen (T_spec_OpOk_sg N).rs) ((), (o1.2.2.2 == (0 : Int), ())))
                                      else
                                      (some (α := ODen (T_spec_OpOk_sg N).ps × RDen (T_spec_OpOk_sg N).rs) ((), (false, ())))))
                                  else
                                  (some (α := ODen (T_spec_OpOk_sg N).ps × RDen (T_spec_OpOk_sg N).rs) ((), (false, ())))))
                              else
                              (some (α := ODen (T_spec_OpOk_sg N).ps × RDen (T_spec_OpOk_sg N).rs) ((), (false, ())))))))
                      else
                      (bif o1.1 == (11 : Int) then
                        (bif o1.2.1 == (0 : Int) then
                          (bif o1.2.2.1 == (0 : Int) then
                            (some (α := ODen (T_spec_OpOk_sg N).ps × RDen (T_spec_OpOk_sg N).rs) ((), (o1.2.2.2 == (0 : Int), ())))
                            else
                            (some (α := ODen (T_spec_OpOk_sg N).ps × RDen (T_spec_OpOk_sg N).rs) ((), (false, ()))))
                          else
                          (some (α := ODen (T_spec_OpOk_sg N).ps × RDen (T_spec_OpOk_sg N).rs) ((), (false, ()))))
                        else
                        (bif o1.1 == (12 : Int) then
                          ((T_spec_l1In N o1.2.1 (0 : Int) (7 : Int)).bind fun o28 =>
                            (bif o28.2.1 then
                              ((T_spec_l4Reg N o1.2.2.1).bind fun o29 =>
                                (bif o29.2.1 then
                                  ((T_spec_l4Reg N o1.2.2.2).bind fun o30 =>
                                    (some (α := ODen (T_spec_OpOk_sg N).ps × RDen (T_spec_OpOk_sg N).rs) ((), (o30.2.1, ()))))
                                  else
                                  (some (α := ODen (T_spec_OpOk_sg N).ps × RDen (T_spec_OpOk_sg N).rs) ((), (false, ())))))
                              else
                              (some (α := ODen (T_spec_OpOk_sg N).ps × RDen (T_spec_OpOk_sg N).rs) ((), (false, ())))))
                          else
                          (bif o1.1 == (13 : Int) then
                            ((T_spec_l4Reg N o1.2.1).bind fun o31 =>
                              (bif o31.2.1 then
                                ((T_spec_l1In N o1.2.2.1 (0 : Int) (7 : Int)).bind fun o32 =>
                                  (bif o32.2.1 then
                                    (some (α := ODen (T_spec_OpOk_sg N).ps × RDen (T_spec_OpOk_sg N).rs) ((), (o1.2.2.2 == (0 : Int), ())))
                                    else
                                    (some (α := ODen (T_spec_OpOk_sg N).ps × RDen (T_spec_OpOk_sg N).rs) ((), (false, ())))))
                                else
                                (some (α := ODen (T_spec_OpOk_sg N).ps × RDen (T_spec_OpOk_sg N).rs) ((), (false, ())))))
                            else
                            (bif o1.1 == (14 : Int) then
                              ((T_spec_l1In N o1.2.1 (0 : Int) (7 : Int)).bind fun o33 =>
                                (bif o33.2.1 then
                                  ((T_spec_l4Reg N o1.2.2.1).bind fun o34 =>
                                    (bif o34.2.1 then
                                      (some (α := ODen (T_spec_OpOk_sg N).ps × RDen (T_spec_OpOk_sg N).rs) ((), (o1.2.2.2 == (0 : Int), ())))
                                      else
                                      (some (α := ODen (T_spec_OpOk_sg N).ps × RDen (T_spec_OpOk_sg N).rs) ((), (false, ())))))
                                  else
                                  (some (α := ODen (T_spec_OpOk_sg N).ps × RDen (T_spec_OpOk_sg N).rs) ((), (false, ())))))
                              else
                              (some (α := ODen (T_spec_OpOk_sg N).ps × RDen (T_spec_OpOk_sg N).rs) ((), (false, ()))))))))))
                else
                (bif o1.1 == (15 : Int) then
                  (bif o1.1 == (15 : Int) then
                    ((T_spec_l4Reg N o1.2.1).bind fun o35 =>
                      (bif o35.2.1 then
                        (bif o1.2.2.1 == (0 : Int) then
                          (some (α := ODen (T_spec_OpOk_sg N).ps × RDen (T_spec_OpOk_sg N).rs) ((), (o1.2.2.2 == (0 : Int), ())))
                          else
                          (some (α := ODen (T_spec_OpOk_sg N).ps × RDen (T_spec_OpOk_sg N).rs) ((), (false, ()))))
                        else
                        (some (α := ODen (T_spec_OpOk_sg N).ps × RDen (T_spec_OpOk_sg N).rs) ((), (false, ())))))
                    else
                    (bif o1.1 == (9 : Int) then
                      (bif o1.1 == (9 : Int) then
                        (bif o1.2.1 == (0 : Int) then
                          (bif o1.2.2.1 == (0 : Int) then
                            (some (α := ODen (T_spec_OpOk_sg N).ps × RDen (T_spec_OpOk_sg N).rs) ((), (o1.2.2.2 == (0 : Int), ())))
                            else
                            (some (α := ODen (T_spec_OpOk_sg N).ps × RDen (T_spec_OpOk_sg N).rs) ((), (false, ()))))
                          else
                          (some (α := ODen (T_spec_OpOk_sg N).ps × RDen (T_spec_OpOk_sg N).rs) ((), (false, ()))))
                        else
                        (bif o1.1 == (12 : Int) then
                          ((T_spec_l1In N o1.2.1 (0 : Int) (7 : Int)).bind fun o36 =>
                            (bif o36.2.1 then
                              ((T_spec_l4Reg N o1.2.2.1).bind fun o37 =>
                                (bif o37.2.1 then
                                  ((T_spec_l4Reg N o1.2.2.2).bind fun o38 =>
                                    (some (α := ODen (T_spec_OpOk_sg N).ps × RDen (T_spec_OpOk_sg N).rs) ((), (o38.2.1, ()))))
                                  else
                                  (some (α := ODen (T_spec_OpOk_sg N).ps × RDen (T_spec_OpOk_sg N).rs) ((), (false, ())))))
                              else
                              (some (α := ODen (T_spec_OpOk_sg N).ps × RDen (T_spec_OpOk_sg N).rs) ((), (false, ())))))
                          else
                          (bif o1.1 == (13 : Int) then
                            ((T_spec_l4Reg N o1.2.1).bind fun o39 =>
                              (bif o39.2.1 then
                                ((T_spec_l1In N o1.2.2.1 (0 : Int) (7 : Int)).bind fun o40 =>
                                  (bif o40.2.1 then
                                    (some (α := ODen (T_spec_OpOk_sg N).ps × RDen (T_spec_OpOk_sg N).rs) ((), (o1.2.2.2 == (0 : Int), ())))
                                    else
                                    (some (α := ODen (T_spec_OpOk_sg N).ps × RDen (T_spec_OpOk_sg N).rs) ((), (false, ())))))
                                else
                                (some (α := ODen (T_spec_OpOk_sg N).ps × RDen (T_spec_OpOk_sg N).rs) ((), (false, ())))))
                            else
                            (bif o1.1 == (14 : Int) then
                              ((T_spec_l1In N o1.2.1 (0 : Int) (7 : Int)).bind fun o41 =>
                                (bif o41.2.1 then
                                  ((T_spec_l4Reg N o1.2.2.1).bind fun o42 =>
                                    (bif o42.2.1 then
                                      (some (α := ODen (T_spec_OpOk_sg N).ps × RDen (T_spec_OpOk_sg N).rs) ((), (o1.2.2.2 == (0 : Int), ())))
                                      else
                                      (some (α := ODen (T_spec_OpOk_sg N).ps × RDen (T_spec_OpOk_sg N).rs) ((), (false, ())))))
                                  else
                                  (some (α := ODen (T_spec_OpOk_sg N).ps × RDen (T_spec_OpOk_sg N).rs) ((), (false, ())))))
                              else
                              (some (α := ODen (T_spec_OpOk_sg N).ps × RDen (T_spec_OpOk_sg N).rs) ((), (false, ())))))))
                      else
                      (bif o1.1 == (10 : Int) then
                        (bif o1.1 == (10 : Int) then
                          (bif o1.2.1 == (0 : Int) then
                            (bif o1.2.2.1 == (0 : Int) then
                              (some (α := ODen (T_spec_OpOk_sg N).ps × RDen (T_spec_OpOk_sg N).rs) ((), (o1.2.2.2 == (0 : Int), ())))
                              else
                              (some (α := ODen (T_spec_OpOk_sg N).ps × RDen (T_spec_OpOk_sg N).rs) ((), (false, ()))))
                            else
                            (some (α := ODen (T_spec_OpOk_sg N).ps × RDen (T_spec_OpOk_sg N).rs) ((), (false, ()))))
                          else
                          (bif o1.1 == (12 : Int) then
                            ((T_spec_l1In N o1.2.1 (0 : Int) (7 : Int)).bind fun o43 =>
                              (bif o43.2.1 then
                                ((T_spec_l4Reg N o1.2.2.1).bind fun o44 =>
                                  (bif o44.2.1 then
                                    ((T_spec_l4Reg N o1.2.2.2).bind fun o45 =>
                                      (some (α := ODen (T_spec_OpOk_sg N).ps × RDen (T_spec_OpOk_sg N).rs) ((), (o45.2.1, ()))))
                                    else
                                    (some (α := ODen (T_spec_OpOk_sg N).ps × RDen (T_spec_OpOk_sg N).rs) ((), (false, ())))))
                                else
                                (some (α := ODen (T_spec_OpOk_sg N).ps × RDen (T_spec_OpOk_sg N).rs) ((), (false, ())))))
                            else
                            (bif o1.1 == (13 : Int) then
                              ((T_spec_l4Reg N o1.2.1).bind fun o46 =>
                                (bif o46.2.1 then
                                  ((T_spec_l1In N o1.2.2.1 (0 : Int) (7 : Int)).bind fun o47 =>
                                    (bif o47.2.1 then
                                      (some (α := ODen (T_spec_OpOk_sg N).ps × RDen (T_spec_OpOk_sg N).rs) ((), (o1.2.2.2 == (0 : Int), ())))
                                      else
                                      (some (α := ODen (T_spec_OpOk_sg N).ps × RDen (T_spec_OpOk_sg N).rs) ((), (false, ())))))
                                  else
                                  (some (α := ODen (T_spec_OpOk_sg N).ps × RDen (T_spec_OpOk_sg N).rs) ((), (false, ())))))
                              else
                              (bif o1.1 == (14 : Int) then
                                ((T_spec_l1In N o1.2.1 (0 : Int) (7 : Int)).bind fun o48 =>
                                  (bif o48.2.1 then
                                    ((T_spec_l4Reg N o1.2.2.1).bind fun o49 =>
                                      (bif o49.2.1 then
                                        (some (α := ODen (T_spec_OpOk_sg N).ps × RDen (T_spec_OpOk_sg N).rs) ((), (o1.2.2.2 == (0 : Int), ())))
                                        else
                                        (some (α := ODen (T_spec_OpOk_sg N).ps × RDen (T_spec_OpOk_sg N).rs) ((), (false, ())))))
                                    else
                                    (some (α := ODen (T_spec_OpOk_sg N).ps × RDen (T_spec_OpOk_sg N).rs) ((), (false, ())))))
                                else
                                (some (α := ODen (T_spec_OpOk_sg N).ps × RDen (T_spec_OpOk_sg N).rs) ((), (false, ())))))))
                        else
                        (bif o1.1 == (11 : Int) then
                          (bif o1.2.1 == (0 : Int) then
                            (bif o1.2.2.1 == (0 : Int) then
                              (some (α := ODen (T_spec_OpOk_sg N).ps × RDen (T_spec_OpOk_sg N).rs) ((), (o1.2.2.2 == (0 : Int), ())))
                              else
                              (some (α := ODen (T_spec_OpOk_sg N).ps × RDen (T_spec_OpOk_sg N).rs) ((), (false, ()))))
                            else
                            (some (α := ODen (T_spec_OpOk_sg N).ps × RDen (T_spec_OpOk_sg N).rs) ((), (false, ()))))
                          else
                          (bif o1.1 == (12 : Int) then
                            ((T_spec_l1In N o1.2.1 (0 : Int) (7 : Int)).bind fun o50 =>
                              (bif o50.2.1 then
                                ((T_spec_l4Reg N o1.2.2.1).bind fun o51 =>
                                  (bif o51.2.1 then
                                    ((T_spec_l4Reg N o1.2.2.2).bind fun o52 =>
                                      (some (α := ODen (T_spec_OpOk_sg N).ps × RDen (T_spec_OpOk_sg N).rs) ((), (o52.2.1, ()))))
                                    else
                                    (some (α := ODen (T_spec_OpOk_sg N).ps × RDen (T_spec_OpOk_sg N).rs) ((), (false, ())))))
                                else
                                (some (α := ODen (T_spec_OpOk_sg N).ps × RDen (T_spec_OpOk_sg N).rs) ((), (false, ())))))
                            else
                            (bif o1.1 == (13 : Int) then
                              ((T_spec_l4Reg N o1.2.1).bind fun o53 =>
                                (bif o53.2.1 then
                                  ((T_spec_l1In N o1.2.2.1 (0 : Int) (7 : Int)).bind fun o54 =>
                                    (bif o54.2.1 then
                                      (some (α := ODen (T_spec_OpOk_sg N).ps × RDen (T_spec_OpOk_sg N).rs) ((), (o1.2.2.2 == (0 : Int), ())))
                                      else
                                      (some (α := ODen (T_spec_OpOk_sg N).ps × RDen (T_spec_OpOk_sg N).rs) ((), (false, ())))))
                                  else
                                  (some (α := ODen (T_spec_OpOk_sg N).ps × RDen (T_spec_OpOk_sg N).rs) ((), (false, ())))))
                              else
                              (bif o1.1 == (14 : Int) then
                                ((T_spec_l1In N o1.2.1 (0 : Int) (7 : Int)).bind fun o55 =>
                                  (bif o55.2.1 then
                                    ((T_spec_l4Reg N o1.2.2.1).bind fun o56 =>
                                      (bif o56.2.1 then
                                        (some (α := ODen (T_spec_OpOk_sg N).ps × RDen (T_spec_OpOk_sg N).rs) ((), (o1.2.2.2 == (0 : Int), ())))
                                        else
                                        (some (α := ODen (T_spec_OpOk_sg N).ps × RDen (T_spec_OpOk_sg N).rs) ((), (false, ())))))
                                    else
                                    (some (α := ODen (T_spec_OpOk_sg N).ps × RDen (T_spec_OpOk_sg N).rs) ((), (false, ())))))
                                else
                                (some (α := ODen (T_spec_OpOk_sg N).ps × RDen (T_spec_OpOk_sg N).rs) ((), (false, ()))))))))))
                  else
                  (bif o1.1 == (16 : Int) then
                    ((T_spec_l4Reg N o1.2.1).bind fun o57 =>
                      (bif o57.2.1 then
                        (bif o1.2.2.1 == (0 : Int) then
                          (some (α := ODen (T_spec_OpOk_sg N).ps × RDen (T_spec_OpOk_sg N).rs) ((), (o1.2.2.2 == (0 : Int), ())))
                          else
                          (some (α := ODen (T_spec_OpOk_sg N).ps × RDen (T_spec_OpOk_sg N).rs) ((), (false, ()))))
                        else
                        (some (α := ODen (T_spec_OpOk_sg N).ps × RDen (T_spec_OpOk_sg N).rs) ((), (false, ())))))
                    else
                    (bif o1.1 == (9 : Int) then
                      (bif o1.1 == (9 : Int) then
                        (bif o1.2.1 == (0 : Int) then
                          (bif o1.2.2.1 == (0 : Int) then
                            (some (α := ODen (T_spec_OpOk_sg N).ps × RDen (T_spec_OpOk_sg N).rs) ((), (o1.2.2.2 == (0 : Int), ())))
                            else
                            (some (α := ODen (T_spec_OpOk_sg N).ps × RDen (T_spec_OpOk_sg N).rs) ((), (false, ()))))
                          else
                          (some (α := ODen (T_spec_OpOk_sg N).ps × RDen (T_spec_OpOk_sg N).rs) ((), (false, ()))))
                        else
                        (bif o1.1 == (12 : Int) then
                          ((T_spec_l1In N o1.2.1 (0 : Int) (7 : Int)).bind fun o58 =>
                            (bif o58.2.1 then
                              ((T_spec_l4Reg N o1.2.2.1).bind fun o59 =>
                                (bif o59.2.1 then
                                  ((T_spec_l4Reg N o1.2.2.2).bind fun o60 =>
                                    (some (α := ODen (T_spec_OpOk_sg N).ps × RDen (T_spec_OpOk_sg N).rs) ((), (o60.2.1, ()))))
                                  else
                                  (some (α := ODen (T_spec_OpOk_sg N).ps × RDen (T_spec_OpOk_sg N).rs) ((), (false, ())))))
                              else
                              (some (α := ODen (T_spec_OpOk_sg N).ps × RDen (T_spec_OpOk_sg N).rs) ((), (false, ())))))
                          else
                          (bif o1.1 == (13 : Int) then
                            ((T_spec_l4Reg N o1.2.1).bind fun o61 =>
                              (bif o61.2.1 then
                                ((T_spec_l1In N o1.2.2.1 (0 : Int) (7 : Int)).bind fun o62 =>
                                  (bif o62.2.1 then
                                    (some (α := ODen (T_spec_OpOk_sg N).ps × RDen (T_spec_OpOk_sg N).rs) ((), (o1.2.2.2 == (0 : Int), ())))
                                    else
                                    (some (α := ODen (T_spec_OpOk_sg N).ps × RDen (T_spec_OpOk_sg N).rs) ((), (false, ())))))
                                else
                                (some (α := ODen (T_spec_OpOk_sg N).ps × RDen (T_spec_OpOk_sg N).rs) ((), (false, ())))))
                            else
                            (bif o1.1 == (14 : Int) then
                              ((T_spec_l1In N o1.2.1 (0 : Int) (7 : Int)).bind fun o63 =>
                                (bif o63.2.1 then
                                  ((T_spec_l4Reg N o1.2.2.1).bind fun o64 =>
                                    (bif o64.2.1 then
                                      (some (α := ODen (T_spec_OpOk_sg N).ps × RDen (T_spec_OpOk_sg N).rs) ((), (o1.2.2.2 == (0 : Int), ())))
                                      else
                                      (some (α := ODen (T_spec_OpOk_sg N).ps × RDen (T_spec_OpOk_sg N).rs) ((), (false, ())))))
                                  else
                                  (some (α := ODen (T_spec_OpOk_sg N).ps × RDen (T_spec_OpOk_sg N).rs) ((), (false, ())))))
                              else
                              (some (α := ODen (T_spec_OpOk_sg N).ps × RDen (T_spec_OpOk_sg N).rs) ((), (false, ())))))))
                      else
                      (bif o1.1 == (10 : Int) then
                        (bif o1.1 == (10 : Int) then
                          (bif o1.2.1 == (0 : Int) then
                            (bif o1.2.2.1 == (0 : Int) then
                              (some (α := ODen (T_spec_OpOk_sg N).ps × RDen (T_spec_OpOk_sg N).rs) ((), (o1.2.2.2 == (0 : Int), ())))
                              else
                              (some (α := ODen (T_spec_OpOk_sg N).ps × RDen (T_spec_OpOk_sg N).rs) ((), (false, ()))))
                            else
                            (some (α := ODen (T_spec_OpOk_sg N).ps × RDen (T_spec_OpOk_sg N).rs) ((), (false, ()))))
                          else
                          (bif o1.1 == (12 : Int) then
                            ((T_spec_l1In N o1.2.1 (0 : Int) (7 : Int)).bind fun o65 =>
                              (bif o65.2.1 then
                                ((T_spec_l4Reg N o1.2.2.1).bind fun o66 =>
                                  (bif o66.2.1 then
                                    ((T_spec_l4Reg N o1.2.2.2).bind fun o67 =>
                                      (some (α := ODen (T_spec_OpOk_sg N).ps × RDen (T_spec_OpOk_sg N).rs) ((), (o67.2.1, ()))))
                                    else
                                    (some (α := ODen (T_spec_OpOk_sg N).ps × RDen (T_spec_OpOk_sg N).rs) ((), (false, ())))))
                                else
                                (some (α := ODen (T_spec_OpOk_sg N).ps × RDen (T_spec_OpOk_sg N).rs) ((), (false, ())))))
                            else
                            (bif o1.1 == (13 : Int) then
                              ((T_spec_l4Reg N o1.2.1).bind fun o68 =>
                                (bif o68.2.1 then
                                  ((T_spec_l1In N o1.2.2.1 (0 : Int) (7 : Int)).bind fun o69 =>
                                    (bif o69.2.1 then
                                      (some (α := ODen (T_spec_OpOk_sg N).ps × RDen (T_spec_OpOk_sg N).rs) ((), (o1.2.2.2 == (0 : Int), ())))
                                      else
                                      (some (α := ODen (T_spec_OpOk_sg N).ps × RDen (T_spec_OpOk_sg N).rs) ((), (false, ())))))
                                  else
                                  (some (α := ODen (T_spec_OpOk_sg N).ps × RDen (T_spec_OpOk_sg N).rs) ((), (false, ())))))
                              else
                              (bif o1.1 == (14 : Int) then
                                ((T_spec_l1In N o1.2.1 (0 : Int) (7 : Int)).bind fun o70 =>
                                  (bif o70.2.1 then
                                    ((T_spec_l4Reg N o1.2.2.1).bind fun o71 =>
                                      (bif o71.2.1 then
                                        (some (α := ODen (T_spec_OpOk_sg N).ps × RDen (T_spec_OpOk_sg N).rs) ((), (o1.2.2.2 == (0 : Int), ())))
                                        else
                                        (some (α := ODen (T_spec_OpOk_sg N).ps × RDen (T_spec_OpOk_sg N).rs) ((), (false, ())))))
                                    else
                                    (some (α := ODen (T_spec_OpOk_sg N).ps × RDen (T_spec_OpOk_sg N).rs) ((), (false, ())))))
                                else
                                (some (α := ODen (T_spec_OpOk_sg N).ps × RDen (T_spec_OpOk_sg N).rs) ((), (false, ())))))))
                        else
                        (bif o1.1 == (11 : Int) then
                          (bif o1.2.1 == (0 : Int) then
                            (bif o1.2.2.1 == (0 : Int) then
                              (some (α := ODen (T_spec_OpOk_sg N).ps × RDen (T_spec_OpOk_sg N).rs) ((), (o1.2.2.2 == (0 : Int), ())))
                              else
                              (some (α := ODen (T_spec_OpOk_sg N).ps × RDen (T_spec_OpOk_sg N).rs) ((), (false, ()))))
                            else
                            (some (α := ODen (T_spec_OpOk_sg N).ps × RDen (T_spec_OpOk_sg N).rs) ((), (false, ()))))
                          else
                          (bif o1.1 == (12 : Int) then
                            ((T_spec_l1In N o1.2.1 (0 : Int) (7 : Int)).bind fun o72 =>
                              (bif o72.2.1 then
                                ((T_spec_l4Reg N o1.2.2.1).bind fun o73 =>
                                  (bif o73.2.1 then
                                    ((T_spec_l4Reg N o1.2.2.2).bind fun o74 =>
                                      (some (α := ODen (T_spec_OpOk_sg N).ps × RDen (T_spec_OpOk_sg N).rs) ((), (o74.2.1, ()))))
                                    else
                                    (some (α := ODen (T_spec_OpOk_sg N).ps × RDen (T_spec_OpOk_sg N).rs) ((), (false, ())))))
                                else
                                (some (α := ODen (T_spec_OpOk_sg N).ps × RDen (T_spec_OpOk_sg N).rs) ((), (false, ())))))
                            else
                            (bif o1.1 == (13 : Int) then
                              ((T_spec_l4Reg N o1.2.1).bind fun o75 =>
                                (bif o75.2.1 then
                                  ((T_spec_l1In N o1.2.2.1 (0 : Int) (7 : Int)).bind fun o76 =>
                                    (bif o76.2.1 then
                                      (some (α := ODen (T_spec_OpOk_sg N).ps × RDen (T_spec_OpOk_sg N).rs) ((), (o1.2.2.2 == (0 : Int), ())))
                                      else
                                      (some (α := ODen (T_spec_OpOk_sg N).ps × RDen (T_spec_OpOk_sg N).rs) ((), (false, ())))))
                                  else
                                  (some (α := ODen (T_spec_OpOk_sg N).ps × RDen (T_spec_OpOk_sg N).rs) ((), (false, ())))))
                              else
                              (bif o1.1 == (14 : Int) then
                                ((T_spec_l1In N o1.2.1 (0 : Int) (7 : Int)).bind fun o77 =>
                                  (bif o77.2.1 then
                                    ((T_spec_l4Reg N o1.2.2.1).bind fun o78 =>
                                      (bif o78.2.1 then
                                        (some (α := ODen (T_spec_OpOk_sg N).ps × RDen (T_spec_OpOk_sg N).rs) ((), (o1.2.2.2 == (0 : Int), ())))
                                        else
                                        (some (α := ODen (T_spec_OpOk_sg N).ps × RDen (T_spec_OpOk_sg N).rs) ((), (false, ())))))
                                    else
                                    (some (α := ODen (T_spec_OpOk_sg N).ps × RDen (T_spec_OpOk_sg N).rs) ((), (false, ())))))
                                else
                                (some (α := ODen (T_spec_OpOk_sg N).ps × RDen (T_spec_OpOk_sg N).rs) ((), (false, ()))))))))))))))))
      else
      (bif o1.1 == (3 : Int) then
        (bif o1.1 == (3 : Int) then
          ((T_spec_l4Reg N o1.2.1).bind fun o79 =>
            (bif o79.2.1 then
              ((T_spec_l4Reg N o1.2.2.1).bind fun o80 =>
                (bif o80.2.1 then
                  ((T_spec_l4Reg N o1.2.2.2).bind fun o81 =>
                    (some (α := ODen (T_spec_OpOk_sg N).ps × RDen (T_spec_OpOk_sg N).rs) ((), (o81.2.1, ()))))
                  else
                  (some (α := ODen (T_spec_OpOk_sg N).ps × RDen (T_spec_OpOk_sg N).rs) ((), (false, ())))))
              else
              (some (α := ODen (T_spec_OpOk_sg N).ps × RDen (T_spec_OpOk_sg N).rs) ((), (false, ())))))
          else
          (bif o1.1 == (5 : Int) then
            ((T_spec_l4Reg N o1.2.1).bind fun o82 =>
              (bif o82.2.1 then
                ((T_spec_l3Cell N o1.2.2.1).bind fun o83 =>
                  (bif o83.2.1 then
                    (some (α := ODen (T_spec_OpOk_sg N).ps × RDen (T_spec_OpOk_sg N).rs) ((), (o1.2.2.2 == (0 : Int), ())))
                    else
                    (some (α := ODen (T_spec_OpOk_sg N).ps × RDen (T_spec_OpOk_sg N).rs) ((), (false, ())))))
                else
                (some (α := ODen (T_spec_OpOk_sg N).ps × RDen (T_spec_OpOk_sg N).rs) ((), (false, ())))))
            else
            (bif o1.1 == (6 : Int) then
              ((T_spec_l3Cell N o1.2.1).bind fun o84 =>
                (bif o84.2.1 then
                  ((T_spec_l4Reg N o1.2.2.1).bind fun o85 =>
                    (bif o85.2.1 then
                      (some (α := ODen (T_spec_OpOk_sg N).ps × RDen (T_spec_OpOk_sg N).rs) ((), (o1.2.2.2 == (0 : Int), ())))
                      else
                      (some (α := ODen (T_spec_OpOk_sg N).ps × RDen (T_spec_OpOk_sg N).rs) ((), (false, ())))))
                  else
                  (some (α := ODen (T_spec_OpOk_sg N).ps × RDen (T_spec_OpOk_sg N).rs) ((), (false, ())))))
              else
              (bif o1.1 == (7 : Int) then
                ((T_spec_l4Reg N o1.2.1).bind fun o86 =>
                  (bif o86.2.1 then
                    ((T_spec_l1In N o1.2.2.1 (1 : Int) (20 : Int)).bind fun o87 =>
                      (bif o87.2.1 then
                        (some (α := ODen (T_spec_OpOk_sg N).ps × RDen (T_spec_OpOk_sg N).rs) ((), (o1.2.2.2 == (0 : Int), ())))
                        else
                        (some (α := ODen (T_spec_OpOk_sg N).ps × RDen (T_spec_OpOk_sg N).rs) ((), (false, ())))))
                    else
                    (some (α := ODen (T_spec_OpOk_sg N).ps × RDen (T_spec_OpOk_sg N).rs) ((), (false, ())))))
                else
                (bif o1.1 == (8 : Int) then
                  (bif o1.1 == (8 : Int) then
                    ((T_spec_l4Reg N o1.2.1).bind fun o88 =>
                      (bif o88.2.1 then
                        (bif o1.2.2.1 == (0 : Int) then
                          (some (α := ODen (T_spec_OpOk_sg N).ps × RDen (T_spec_OpOk_sg N).rs) ((), (o1.2.2.2 == (0 : Int), ())))
                          else
                          (some (α := ODen (T_spec_OpOk_sg N).ps × RDen (T_spec_OpOk_sg N).rs) ((), (false, ()))))
                        else
                        (some (α := ODen (T_spec_OpOk_sg N).ps × RDen (T_spec_OpOk_sg N).rs) ((), (false, ())))))
                    else
                    (bif o1.1 == (9 : Int) then
                      (bif o1.1 == (9 : Int) then
                        (bif o1.2.1 == (0 : Int) then
                          (bif o1.2.2.1 == (0 : Int) then
                            (some (α := ODen (T_spec_OpOk_sg N).ps × RDen (T_spec_OpOk_sg N).rs) ((), (o1.2.2.2 == (0 : Int), ())))
                            else
                            (some (α := ODen (T_spec_OpOk_sg N).ps × RDen (T_spec_OpOk_sg N).rs) ((), (false, ()))))
                          else
                          (some (α := ODen (T_spec_OpOk_sg N).ps × RDen (T_spec_OpOk_sg N).rs) ((), (false, ()))))
                        else
                        (bif o1.1 == (12 : Int) then
                          ((T_spec_l1In N o1.2.1 (0 : Int) (7 : Int)).bind fun o89 =>
                            (bif o89.2.1 then
                              ((T_spec_l4Reg N o1.2.2.1).bind fun o90 =>
                                (bif o90.2.1 then
                                  ((T_spec_l4Reg N o1.2.2.2).bind fun o91 =>
                                    (some (α := ODen (T_spec_OpOk_sg N).ps × RDen (T_spec_OpOk_sg N).rs) ((), (o91.2.1, ()))))
                                  else
                                  (some (α := ODen (T_spec_OpOk_sg N).ps × RDen (T_spec_OpOk_sg N).rs) ((), (false, ())))))
                              else
                              (some (α := ODen (T_spec_OpOk_sg N).ps × RDen (T_spec_OpOk_sg N).rs) ((), (false, ())))))
                          else
                          (bif o1.1 == (13 : Int) then
                            ((T_spec_l4Reg N o1.2.1).bind fun o92 =>
                              (bif o92.2.1 then
                                ((T_spec_l1In N o1.2.2.1 (0 : Int) (7 : Int)).bind fun o93 =>
                                  (bif o93.2.1 then
                                    (some (α := ODen (T_spec_OpOk_sg N).ps × RDen (T_spec_OpOk_sg N).rs) ((), (o1.2.2.2 == (0 : Int), ())))
                                    else
                                    (some (α := ODen (T_spec_OpOk_sg N).ps × RDen (T_spec_OpOk_sg N).rs) ((), (false, ())))))
                                else
                                (some (α := ODen (T_spec_OpOk_sg N).ps × RDen (T_spec_OpOk_sg N).rs) ((), (false, ())))))
                            else
                            (bif o1.1 == (14 : Int) then
                              ((T_spec_l1In N o1.2.1 (0 : Int) (7 : Int)).bind fun o94 =>
                                (bif o94.2.1 then
                                  ((T_spec_l4Reg N o1.2.2.1).bind fun o95 =>
                                    (bif o95.2.1 then
                                      (some (α := ODen (T_spec_OpOk_sg N).ps × RDen (T_spec_OpOk_sg N).rs) ((), (o1.2.2.2 == (0 : Int), ())))
                                      else
                                      (some (α := ODen (T_spec_OpOk_sg N).ps × RDen (T_spec_OpOk_sg N).rs) ((), (false, ())))))
                                  else
                                  (some (α := ODen (T_spec_OpOk_sg N).ps × RDen (T_spec_OpOk_sg N).rs) ((), (false, ())))))
                              else
                              (some (α := ODen (T_spec_OpOk_sg N).ps × RDen (T_spec_OpOk_sg N).rs) ((), (false, ())))))))
                      else
                      (bif o1.1 == (10 : Int) then
                        (bif o1.1 == (10 : Int) then
                          (bif o1.2.1 == (0 : Int) then
                            (bif o1.2.2.1 == (0 : Int) then
                              (some (α := ODen (T_spec_OpOk_sg N).ps × RDen (T_spec_OpOk_sg N).rs) ((), (o1.2.2.2 == (0 : Int), ())))
                              else
                              (some (α := ODen (T_spec_OpOk_sg N).ps × RDen (T_spec_OpOk_sg N).rs) ((), (false, ()))))
                            else
                            (some (α := ODen (T_spec_OpOk_sg N).ps × RDen (T_spec_OpOk_sg N).rs) ((), (false, ()))))
                          else
                          (bif o1.1 == (12 : Int) then
                            ((T_spec_l1In N o1.2.1 (0 : Int) (7 : Int)).bind fun o96 =>
                              (bif o96.2.1 then
                                ((T_spec_l4Reg N o1.2.2.1).bind fun o97 =>
                                  (bif o97.2.1 then
                                    ((T_spec_l4Reg N o1.2.2.2).bind fun o98 =>
                                      (some (α := ODen (T_spec_OpOk_sg N).ps × RDen (T_spec_OpOk_sg N).rs) ((), (o98.2.1, ()))))
                                    else
                                    (some (α := ODen (T_spec_OpOk_sg N).ps × RDen (T_spec_OpOk_sg N).rs) ((), (false, ())))))
                                else
                                (some (α := ODen (T_spec_OpOk_sg N).ps × RDen (T_spec_OpOk_sg N).rs) ((), (false, ())))))
                            else
                            (bif o1.1 == (13 : Int) then
                              ((T_spec_l4Reg N o1.2.1).bind fun o99 =>
                                (bif o99.2.1 then
                                  ((T_spec_l1In N o1.2.2.1 (0 : Int) (7 : Int)).bind fun o100 =>
                                    (bif o100.2.1 then
                                      (some (α := ODen (T_spec_OpOk_sg N).ps × RDen (T_spec_OpOk_sg N).rs) ((), (o1.2.2.2 == (0 : Int), ())))
                                      else
                                      (some (α := ODen (T_spec_OpOk_sg N).ps × RDen (T_spec_OpOk_sg N).rs) ((), (false, ())))))
                                  else
                                  (some (α := ODen (T_spec_OpOk_sg N).ps × RDen (T_spec_OpOk_sg N).rs) ((), (false, ())))))
                              else
                              (bif o1.1 == (14 : Int) then
                                ((T_spec_l1In N o1.2.1 (0 : Int) (7 : Int)).bind fun o101 =>
                                  (bif o101.2.1 then
                                    ((T_spec_l4Reg N o1.2.2.1).bind fun o102 =>
                                      (bif o102.2.1 then
                                        (some (α := ODen (T_spec_OpOk_sg N).ps × RDen (T_spec_OpOk_sg N).rs) ((), (o1.2.2.2 == (0 : Int), ())))
                                        else
                                        (some (α := ODen (T_spec_OpOk_sg N).ps × RDen (T_spec_OpOk_sg N).rs) ((), (false, ())))))
                                    else
                                    (some (α := ODen (T_spec_OpOk_sg N).ps × RDen (T_spec_OpOk_sg N).rs) ((), (false, ())))))
                                else
                                (some (α := ODen (T_spec_OpOk_sg N).ps × RDen (T_spec_OpOk_sg N).rs) ((), (false, ())))))))
                        else
                        (bif o1.1 == (11 : Int) then
                          (bif o1.2.1 == (0 : Int) then
                            (bif o1.2.2.1 == (0 : Int) then
                              (some (α := ODen (T_spec_OpOk_sg N).ps × RDen (T_spec_OpOk_sg N).rs) ((), (o1.2.2.2 == (0 : Int), ())))
                              else
                              (some (α := ODen (T_spec_OpOk_sg N).ps × RDen (T_spec_OpOk_sg N).rs) ((), (false, ()))))
                            else
                            (some (α := ODen (T_spec_OpOk_sg N).ps × RDen (T_spec_OpOk_sg N).rs) ((), (false, ()))))
                          else
                          (bif o1.1 == (12 : Int) then
                            ((T_spec_l1In N o1.2.1 (0 : Int) (7 : Int)).bind fun o103 =>
                              (bif o103.2.1 then
                                ((T_spec_l4Reg N o1.2.2.1).bind fun o104 =>
                                  (bif o104.2.1 then
                                    ((T_spec_l4Reg N o1.2.2.2).bind fun o105 =>
                                      (some (α := ODen (T_spec_OpOk_sg N).ps × RDen (T_spec_OpOk_sg N).rs) ((), (o105.2.1, ()))))
                                    else
                                    (some (α := ODen (T_spec_OpOk_sg N).ps × RDen (T_spec_OpOk_sg N).rs) ((), (false, ())))))
                                else
                                (some (α := ODen (T_spec_OpOk_sg N).ps × RDen (T_spec_OpOk_sg N).rs) ((), (false, ())))))
                            else
                            (bif o1.1 == (13 : Int) then
                              ((T_spec_l4Reg N o1.2.1).bind fun o106 =>
                                (bif o106.2.1 then
                                  ((T_spec_l1In N o1.2.2.1 (0 : Int) (7 : Int)).bind fun o107 =>
                                    (bif o107.2.1 then
                                      (some (α := ODen (T_spec_OpOk_sg N).ps × RDen (T_spec_OpOk_sg N).rs) ((), (o1.2.2.2 == (0 : Int), ())))
                                      else
                                      (some (α := ODen (T_spec_OpOk_sg N).ps × RDen (T_spec_OpOk_sg N).rs) ((), (false, ())))))
                                  else
                                  (some (α := ODen (T_spec_OpOk_sg N).ps × RDen (T_spec_OpOk_sg N).rs) ((), (false, ())))))
                              else
                              (bif o1.1 == (14 : Int) then
                                ((T_spec_l1In N o1.2.1 (0 : Int) (7 : Int)).bind fun o108 =>
                                  (bif o108.2.1 then
                                    ((T_spec_l4Reg N o1.2.2.1).bind fun o109 =>
                                      (bif o109.2.1 then
                                        (some (α := ODen (T_spec_OpOk_sg N).ps × RDen (T_spec_OpOk_sg N).rs) ((), (o1.2.2.2 == (0 : Int), ())))
                                        else
                                        (some (α := ODen (T_spec_OpOk_sg N).ps × RDen (T_spec_OpOk_sg N).rs) ((), (false, ())))))
                                    else
                                    (some (α := ODen (T_spec_OpOk_sg N).ps × RDen (T_spec_OpOk_sg N).rs) ((), (false, ())))))
                                else
                                (some (α := ODen (T_spec_OpOk_sg N).ps × RDen (T_spec_OpOk_sg N).rs) ((), (false, ()))))))))))
                  else
                  (bif o1.1 == (15 : Int) then
                    (bif o1.1 == (15 : Int) then
                      ((T_spec_l4Reg N o1.2.1).bind fun o110 =>
                        (bif o110.2.1 then
                          (bif o1.2.2.1 == (0 : Int) then
                            (some (α := ODen (T_spec_OpOk_sg N).ps × RDen (T_spec_OpOk_sg N).rs) ((), (o1.2.2.2 == (0 : Int), ())))
                            else
                            (some (α := ODen (T_spec_OpOk_sg N).ps × RDen (T_spec_OpOk_sg N).rs) ((), (false, ()))))
                          else
                          (some (α := ODen (T_spec_OpOk_sg N).ps × RDen (T_spec_OpOk_sg N).rs) ((), (false, ())))))
                      else
                      (bif o1.1 == (9 : Int) then
                        (bif o1.1 == (9 : Int) then
                          (bif o1.2.1 == (0 : Int) then
                            (bif o1.2.2.1 == (0 : Int) then
                              (some (α := ODen (T_spec_OpOk_sg N).ps × RDen (T_spec_OpOk_sg N).rs) ((), (o1.2.2.2 == (0 : Int), ())))
                              else
                              (some (α := ODen (T_spec_OpOk_sg N).ps × RDen (T_spec_OpOk_sg N).rs) ((), (false, ()))))
                            else
                            (some (α := ODen (T_spec_OpOk_sg N).ps × RDen (T_spec_OpOk_sg N).rs) ((), (false, ()))))
                          else
                          (bif o1.1 == (12 : Int) then
                            ((T_spec_l1In N o1.2.1 (0 : Int) (7 : Int)).bind fun o111 =>
                              (bif o111.2.1 then
                                ((T_spec_l4Reg N o1.2.2.1).bind fun o112 =>
                                  (bif o112.2.1 then
                                    ((T_spec_l4Reg N o1.2.2.2).bind fun o113 =>
                                      (some (α := ODen (T_spec_OpOk_sg N).ps × RDen (T_spec_OpOk_sg N).rs) ((), (o113.2.1, ()))))
                                    else
                                    (some (α := ODen (T_spec_OpOk_sg N).ps × RDen (T_spec_OpOk_sg N).rs) ((), (false, ())))))
                                else
                                (some (α := ODen (T_spec_OpOk_sg N).ps × RDen (T_spec_OpOk_sg N).rs) ((), (false, ())))))
                            else
                            (bif o1.1 == (13 : Int) then
                              ((T_spec_l4Reg N o1.2.1).bind fun o114 =>
                                (bif o114.2.1 then
                                  ((T_spec_l1In N o1.2.2.1 (0 : Int) (7 : Int)).bind fun o115 =>
                                    (bif o115.2.1 then
                                      (some (α := ODen (T_spec_OpOk_sg N).ps × RDen (T_spec_OpOk_sg N).rs) ((), (o1.2.2.2 == (0 : Int), ())))
                                      else
                                      (some (α := ODen (T_spec_OpOk_sg N).ps × RDen (T_spec_OpOk_sg N).rs) ((), (false, ())))))
                                  else
                                  (some (α := ODen (T_spec_OpOk_sg N).ps × RDen (T_spec_OpOk_sg N).rs) ((), (false, ())))))
                              else
                              (bif o1.1 == (14 : Int) then
                                ((T_spec_l1In N o1.2.1 (0 : Int) (7 : Int)).bind fun o116 =>
                                  (bif o116.2.1 then
                                    ((T_spec_l4Reg N o1.2.2.1).bind fun o117 =>
                                      (bif o117.2.1 then
                                        (some (α := ODen (T_spec_OpOk_sg N).ps × RDen (T_spec_OpOk_sg N).rs) ((), (o1.2.2.2 == (0 : Int), ())))
                                        else
                                        (some (α := ODen (T_spec_OpOk_sg N).ps × RDen (T_spec_OpOk_sg N).rs) ((), (false, ())))))
                                    else
                                    (some (α := ODen (T_spec_OpOk_sg N).ps × RDen (T_spec_OpOk_sg N).rs) ((), (false, ())))))
                                else
                                (some (α := ODen (T_spec_OpOk_sg N).ps × RDen (T_spec_OpOk_sg N).rs) ((), (false, ())))))))
                        else
                        (bif o1.1 == (10 : Int) then
                          (bif o1.1 == (10 : Int) then
                            (bif o1.2.1 == (0 : Int) then
                              (bif o1.2.2.1 == (0 : Int) then
                                (some (α := ODen (T_spec_OpOk_sg N).ps × RDen (T_spec_OpOk_sg N).rs) ((), (o1.2.2.2 == (0 : Int), ())))
                                else
                                (some (α := ODen (T_spec_OpOk_sg N).ps × RDen (T_spec_OpOk_sg N).rs) ((), (false, ()))))
                              else
                              (some (α := ODen (T_spec_OpOk_sg N).ps × RDen (T_spec_OpOk_sg N).rs) ((), (false, ()))))
                            else
                            (bif o1.1 == (12 : Int) then
                              ((T_spec_l1In N o1.2.1 (0 : Int) (7 : Int)).bind fun o118 =>
                                (bif o118.2.1 then
                                  ((T_spec_l4Reg N o1.2.2.1).bind fun o119 =>
                                    (bif o119.2.1 then
                                      ((T_spec_l4Reg N o1.2.2.2).bind fun o120 =>
                                        (some (α := ODen (T_spec_OpOk_sg N).ps × RDen (T_spec_OpOk_sg N).rs) ((), (o120.2.1, ()))))
                                      else
                                      (some (α := ODen (T_spec_OpOk_sg N).ps × RDen (T_spec_OpOk_sg N).rs) ((), (false, ())))))
                                  else
                                  (some (α := ODen (T_spec_OpOk_sg N).ps × RDen (T_spec_OpOk_sg N).rs) ((), (false, ())))))
                              else
                              (bif o1.1 == (13 : Int) then
                                ((T_spec_l4Reg N o1.2.1).bind fun o121 =>
                                  (bif o121.2.1 then
                                    ((T_spec_l1In N o1.2.2.1 (0 : Int) (7 : Int)).bind fun o122 =>
                                      (bif o122.2.1 then
                                        (some (α := ODen (T_spec_OpOk_sg N).ps × RDen (T_spec_OpOk_sg N).rs) ((), (o1.2.2.2 == (0 : Int), ())))
                                        else
                                        (some (α := ODen (T_spec_OpOk_sg N).ps × RDen (T_spec_OpOk_sg N).rs) ((), (false, ())))))
                                    else
                                    (some (α := ODen (T_spec_OpOk_sg N).ps × RDen (T_spec_OpOk_sg N).rs) ((), (false, ())))))
                                else
                                (bif o1.1 == (14 : Int) then
                                  ((T_spec_l1In N o1.2.1 (0 : Int) (7 : Int)).bind fun o123 =>
                                    (bif o123.2.1 then
                                      ((T_spec_l4Reg N o1.2.2.1).bind fun o124 =>
                                        (bif o124.2.1 then
                                          (some (α := ODen (T_spec_OpOk_sg N).ps × RDen (T_spec_OpOk_sg N).rs) ((), (o1.2.2.2 == (0 : Int), ())))
                                          else
                                          (some (α := ODen (T_spec_OpOk_sg N).ps × RDen (T_spec_OpOk_sg N).rs) ((), (false, ())))))
                                      else
                                      (some (α := ODen (T_spec_OpOk_sg N).ps × RDen (T_spec_OpOk_sg N).rs) ((), (false, ())))))
                                  else
                                  (some (α := ODen (T_spec_OpOk_sg N).ps × RDen (T_spec_OpOk_sg N).rs) ((), (false, ())))))))
                          else
                          (bif o1.1 == (11 : Int) then
                            (bif o1.2.1 == (0 : Int) then
                              (bif o1.2.2.1 == (0 : Int) then
                                (some (α := ODen (T_spec_OpOk_sg N).ps × RDen (T_spec_OpOk_sg N).rs) ((), (o1.2.2.2 == (0 : Int), ())))
                                else
                                (some (α := ODen (T_spec_OpOk_sg N).ps × RDen (T_spec_OpOk_sg N).rs) ((), (false, ()))))
                              else
                              (some (α := ODen (T_spec_OpOk_sg N).ps × RDen (T_spec_OpOk_sg N).rs) ((), (false, ()))))
                            else
                            (bif o1.1 == (12 : Int) then
                              ((T_spec_l1In N o1.2.1 (0 : Int) (7 : Int)).bind fun o125 =>
                                (bif o125.2.1 then
                                  ((T_spec_l4Reg N o1.2.2.1).bind fun o126 =>
                                    (bif o126.2.1 then
                                      ((T_spec_l4Reg N o1.2.2.2).bind fun o127 =>
                                        (some (α := ODen (T_spec_OpOk_sg N).ps × RDen (T_spec_OpOk_sg N).rs) ((), (o127.2.1, ()))))
                                      else
                                      (some (α := ODen (T_spec_OpOk_sg N).ps × RDen (T_spec_OpOk_sg N).rs) ((), (false, ())))))
                                  else
                                  (some (α := ODen (T_spec_OpOk_sg N).ps × RDen (T_spec_OpOk_sg N).rs) ((), (false, ())))))
                              else
                              (bif o1.1 == (13 : Int) then
                                ((T_spec_l4Reg N o1.2.1).bind fun o128 =>
                                  (bif o128.2.1 then
                                    ((T_spec_l1In N o1.2.2.1 (0 : Int) (7 : Int)).bind fun o129 =>
                                      (bif o129.2.1 then
                                        (some (α := ODen (T_spec_OpOk_sg N).ps × RDen (T_spec_OpOk_sg N).rs) ((), (o1.2.2.2 == (0 : Int), ())))
                                        else
                                        (some (α := ODen (T_spec_OpOk_sg N).ps × RDen (T_spec_OpOk_sg N).rs) ((), (false, ())))))
                                    else
                                    (some (α := ODen (T_spec_OpOk_sg N).ps × RDen (T_spec_OpOk_sg N).rs) ((), (false, ())))))
                                else
                                (bif o1.1 == (14 : Int) then
                                  ((T_spec_l1In N o1.2.1 (0 : Int) (7 : Int)).bind fun o130 =>
                                    (bif o130.2.1 then
                                      ((T_spec_l4Reg N o1.2.2.1).bind fun o131 =>
                                        (bif o131.2.1 then
                                          (some (α := ODen (T_spec_OpOk_sg N).ps × RDen (T_spec_OpOk_sg N).rs) ((), (o1.2.2.2 == (0 : Int), ())))
                                          else
                                          (some (α := ODen (T_spec_OpOk_sg N).ps × RDen (T_spec_OpOk_sg N).rs) ((), (false, ())))))
                                      else
                                      (some (α := ODen (T_spec_OpOk_sg N).ps × RDen (T_spec_OpOk_sg N).rs) ((), (false, ())))))
                                  else
                                  (some (α := ODen (T_spec_OpOk_sg N).ps × RDen (T_spec_OpOk_sg N).rs) ((), (false, ()))))))))))
                    else
                    (bif o1.1 == (16 : Int) then
                      ((T_spec_l4Reg N o1.2.1).bind fun o132 =>
                        (bif o132.2.1 then
                          (bif o1.2.2.1 == (0 : Int) then
                            (some (α := ODen (T_spec_OpOk_sg N).ps × RDen (T_spec_OpOk_sg N).rs) ((), (o1.2.2.2 == (0 : Int), ())))
                            else
                            (some (α := ODen (T_spec_OpOk_sg N).ps × RDen (T_spec_OpOk_sg N).rs) ((), (false, ()))))
                          else
                          (some (α := ODen (T_spec_OpOk_sg N).ps × RDen (T_spec_OpOk_sg N).rs) ((), (false, ())))))
                      else
                      (bif o1.1 == (9 : Int) then
                        (bif o1.1 == (9 : Int) then
                          (bif o1.2.1 == (0 : Int) then
                            (bif o1.2.2.1 == (0 : Int) then
                              (some (α := ODen (T_spec_OpOk_sg N).ps × RDen (T_spec_OpOk_sg N).rs) ((), (o1.2.2.2 == (0 : Int), ())))
                              else
                              (some (α := ODen (T_spec_OpOk_sg N).ps × RDen (T_spec_OpOk_sg N).rs) ((), (false, ()))))
                            else
                            (some (α := ODen (T_spec_OpOk_sg N).ps × RDen (T_spec_OpOk_sg N).rs) ((), (false, ()))))
                          else
                          (bif o1.1 == (12 : Int) then
                            ((T_spec_l1In N o1.2.1 (0 : Int) (7 : Int)).bind fun o133 =>
                              (bif o133.2.1 then
                                ((T_spec_l4Reg N o1.2.2.1).bind fun o134 =>
                                  (bif o134.2.1 then
                                    ((T_spec_l4Reg N o1.2.2.2).bind fun o135 =>
                                      (some (α := ODen (T_spec_OpOk_sg N).ps × RDen (T_spec_OpOk_sg N).rs) ((), (o135.2.1, ()))))
                                    else
                                    (some (α := ODen (T_spec_OpOk_sg N).ps × RDen (T_spec_OpOk_sg N).rs) ((), (false, ())))))
                                else
                                (some (α := ODen (T_spec_OpOk_sg N).ps × RDen (T_spec_OpOk_sg N).rs) ((), (false, ())))))
                            else
                            (bif o1.1 == (13 : Int) then
                              ((T_spec_l4Reg N o1.2.1).bind fun o136 =>
                                (bif o136.2.1 then
                                  ((T_spec_l1In N o1.2.2.1 (0 : Int) (7 : Int)).bind fun o137 =>
                                    (bif o137.2.1 then
                                      (some (α := ODen (T_spec_OpOk_sg N).ps × RDen (T_spec_OpOk_sg N).rs) ((), (o1.2.2.2 == (0 : Int), ())))
                                      else
                                      (some (α := ODen (T_spec_OpOk_sg N).ps × RDen (T_spec_OpOk_sg N).rs) ((), (false, ())))))
                                  else
                                  (some (α := ODen (T_spec_OpOk_sg N).ps × RDen (T_spec_OpOk_sg N).rs) ((), (false, ())))))
                              else
                              (bif o1.1 == (14 : Int) then
                                ((T_spec_l1In N o1.2.1 (0 : Int) (7 : Int)).bind fun o138 =>
                                  (bif o138.2.1 then
                                    ((T_spec_l4Reg N o1.2.2.1).bind fun o139 =>
                                      (bif o139.2.1 then
                                        (some (α := ODen (T_spec_OpOk_sg N).ps × RDen (T_spec_OpOk_sg N).rs) ((), (o1.2.2.2 == (0 : Int), ())))
                                        else
                                        (some (α := ODen (T_spec_OpOk_sg N).ps × RDen (T_spec_OpOk_sg N).rs) ((), (false, ())))))
                                    else
                                    (some (α := ODen (T_spec_OpOk_sg N).ps × RDen (T_spec_OpOk_sg N).rs) ((), (false, ())))))
                                else
                                (some (α := ODen (T_spec_OpOk_sg N).ps × RDen (T_spec_OpOk_sg N).rs) ((), (false, ())))))))
                        else
                        (bif o1.1 == (10 : Int) then
                          (bif o1.1 == (10 : Int) then
                            (bif o1.2.1 == (0 : Int) then
                              (bif o1.2.2.1 == (0 : Int) then
                                (some (α := ODen (T_spec_OpOk_sg N).ps × RDen (T_spec_OpOk_sg N).rs) ((), (o1.2.2.2 == (0 : Int), ())))
                                else
                                (some (α := ODen (T_spec_OpOk_sg N).ps × RDen (T_spec_OpOk_sg N).rs) ((), (false, ()))))
                              else
                              (some (α := ODen (T_spec_OpOk_sg N).ps × RDen (T_spec_OpOk_sg N).rs) ((), (false, ()))))
                            else
                            (bif o1.1 == (12 : Int) then
                              ((T_spec_l1In N o1.2.1 (0 : Int) (7 : Int)).bind fun o140 =>
                                (bif o140.2.1 then
                                  ((T_spec_l4Reg N o1.2.2.1).bind fun o141 =>
                                    (bif o141.2.1 then
                                      ((T_spec_l4Reg N o1.2.2.2).bind fun o142 =>
                                        (some (α := ODen (T_spec_OpOk_sg N).ps × RDen (T_spec_OpOk_sg N).rs) ((), (o142.2.1, ()))))
                                      else
                                      (some (α := ODen (T_spec_OpOk_sg N).ps × RDen (T_spec_OpOk_sg N).rs) ((), (false, ())))))
                                  else
                                  (some (α := ODen (T_spec_OpOk_sg N).ps × RDen (T_spec_OpOk_sg N).rs) ((), (false, ())))))
                              else
                              (bif o1.1 == (13 : Int) then
                                ((T_spec_l4Reg N o1.2.1).bind fun o143 =>
                                  (bif o143.2.1 then
                                    ((T_spec_l1In N o1.2.2.1 (0 : Int) (7 : Int)).bind fun o144 =>
                                      (bif o144.2.1 then
                                        (some (α := ODen (T_spec_OpOk_sg N).ps × RDen (T_spec_OpOk_sg N).rs) ((), (o1.2.2.2 == (0 : Int), ())))
                                        else
                                        (some (α := ODen (T_spec_OpOk_sg N).ps × RDen (T_spec_OpOk_sg N).rs) ((), (false, ())))))
                                    else
                                    (some (α := ODen (T_spec_OpOk_sg N).ps × RDen (T_spec_OpOk_sg N).rs) ((), (false, ())))))
                                else
                                (bif o1.1 == (14 : Int) then
                                  ((T_spec_l1In N o1.2.1 (0 : Int) (7 : Int)).bind fun o145 =>
                                    (bif o145.2.1 then
                                      ((T_spec_l4Reg N o1.2.2.1).bind fun o146 =>
                                        (bif o146.2.1 then
                                          (some (α := ODen (T_spec_OpOk_sg N).ps × RDen (T_spec_OpOk_sg N).rs) ((), (o1.2.2.2 == (0 : Int), ())))
                                          else
                                          (some (α := ODen (T_spec_OpOk_sg N).ps × RDen (T_spec_OpOk_sg N).rs) ((), (false, ())))))
                                      else
                                      (some (α := ODen (T_spec_OpOk_sg N).ps × RDen (T_spec_OpOk_sg N).rs) ((), (false, ())))))
                                  else
                                  (some (α := ODen (T_spec_OpOk_sg N).ps × RDen (T_spec_OpOk_sg N).rs) ((), (false, ())))))))
                          else
                          (bif o1.1 == (11 : Int) then
                            (bif o1.2.1 == (0 : Int) then
                              (bif o1.2.2.1 == (0 : Int) then
                                (some (α := ODen (T_spec_OpOk_sg N).ps × RDen (T_spec_OpOk_sg N).rs) ((), (o1.2.2.2 == (0 : Int), ())))
                                else
                                (some (α := ODen (T_spec_OpOk_sg N).ps × RDen (T_spec_OpOk_sg N).rs) ((), (false, ()))))
                              else
                              (some (α := ODen (T_spec_OpOk_sg N).ps × RDen (T_spec_OpOk_sg N).rs) ((), (false, ()))))
                            else
                            (bif o1.1 == (12 : Int) then
                              ((T_spec_l1In N o1.2.1 (0 : Int) (7 : Int)).bind fun o147 =>
                                (bif o147.2.1 then
                                  ((T_spec_l4Reg N o1.2.2.1).bind fun o148 =>
                                    (bif o148.2.1 then
                                      ((T_spec_l4Reg N o1.2.2.2).bind fun o149 =>
                                        (some (α := ODen (T_spec_OpOk_sg N).ps × RDen (T_spec_OpOk_sg N).rs) ((), (o149.2.1, ()))))
                                      else
                                      (some (α := ODen (T_spec_OpOk_sg N).ps × RDen (T_spec_OpOk_sg N).rs) ((), (false, ())))))
                                  else
                                  (some (α := ODen (T_spec_OpOk_sg N).ps × RDen (T_spec_OpOk_sg N).rs) ((), (false, ())))))
                              else
                              (bif o1.1 == (13 : Int) then
                                ((T_spec_l4Reg N o1.2.1).bind fun o150 =>
                                  (bif o150.2.1 then
                                    ((T_spec_l1In N o1.2.2.1 (0 : Int) (7 : Int)).bind fun o151 =>
                                      (bif o151.2.1 then
                                        (some (α := ODen (T_spec_OpOk_sg N).ps × RDen (T_spec_OpOk_sg N).rs) ((), (o1.2.2.2 == (0 : Int), ())))
                                        else
                                        (some (α := ODen (T_spec_OpOk_sg N).ps × RDen (T_spec_OpOk_sg N).rs) ((), (false, ())))))
                                    else
                                    (some (α := ODen (T_spec_OpOk_sg N).ps × RDen (T_spec_OpOk_sg N).rs) ((), (false, ())))))
                                else
                                (bif o1.1 == (14 : Int) then
                                  ((T_spec_l1In N o1.2.1 (0 : Int) (7 : Int)).bind fun o152 =>
                                    (bif o152.2.1 then
                                      ((T_spec_l4Reg N o1.2.2.1).bind fun o153 =>
                                        (bif o153.2.1 then
                                          (some (α := ODen (T_spec_OpOk_sg N).ps × RDen (T_spec_OpOk_sg N).rs) ((), (o1.2.2.2 == (0 : Int), ())))
                                          else
                                          (some (α := ODen (T_spec_OpOk_sg N).ps × RDen (T_spec_OpOk_sg N).rs) ((), (false, ())))))
                                      else
                                      (some (α := ODen (T_spec_OpOk_sg N).ps × RDen (T_spec_OpOk_sg N).rs) ((), (false, ())))))
                                  else
                                  (some (α := ODen (T_spec_OpOk_sg N).ps × RDen (T_spec_OpOk_sg N).rs) ((), (false, ()))))))))))))))))
        else
        (bif o1.1 == (4 : Int) then
          ((T_spec_l4Reg N o1.2.1).bind fun o154 =>
            (bif o154.2.1 then
              ((T_spec_l4Reg N o1.2.2.1).bind fun o155 =>
                (bif o155.2.1 then
                  ((T_spec_l4Reg N o1.2.2.2).bind fun o156 =>
                    (some (α := ODen (T_spec_OpOk_sg N).ps × RDen (T_spec_OpOk_sg N).rs) ((), (o156.2.1, ()))))
                  else
                  (some (α := ODen (T_spec_OpOk_sg N).ps × RDen (T_spec_OpOk_sg N).rs) ((), (false, ())))))
              else
              (some (α := ODen (T_spec_OpOk_sg N).ps × RDen (T_spec_OpOk_sg N).rs) ((), (false, ())))))
          else
          (bif o1.1 == (5 : Int) then
            ((T_spec_l4Reg N o1.2.1).bind fun o157 =>
              (bif o157.2.1 then
                ((T_spec_l3Cell N o1.2.2.1).bind fun o158 =>
                  (bif o158.2.1 then
                    (some (α := ODen (T_spec_OpOk_sg N).ps × RDen (T_spec_OpOk_sg N).rs) ((), (o1.2.2.2 == (0 : Int), ())))
                    else
                    (some (α := ODen (T_spec_OpOk_sg N).ps × RDen (T_spec_OpOk_sg N).rs) ((), (false, ())))))
                else
                (some (α := ODen (T_spec_OpOk_sg N).ps × RDen (T_spec_OpOk_sg N).rs) ((), (false, ())))))
            else
            (bif o1.1 == (6 : Int) then
              ((T_spec_l3Cell N o1.2.1).bind fun o159 =>
                (bif o159.2.1 then
                  ((T_spec_l4Reg N o1.2.2.1).bind fun o160 =>
                    (bif o160.2.1 then
                      (some (α := ODen (T_spec_OpOk_sg N).ps × RDen (T_spec_OpOk_sg N).rs) ((), (o1.2.2.2 == (0 : Int), ())))
                      else
                      (some (α := ODen (T_spec_OpOk_sg N).ps × RDen (T_spec_OpOk_sg N).rs) ((), (false, ())))))
                  else
                  (some (α := ODen (T_spec_OpOk_sg N).ps × RDen (T_spec_OpOk_sg N).rs) ((), (false, ())))))
              else
              (bif o1.1 == (7 : Int) then
                ((T_spec_l4Reg N o1.2.1).bind fun o161 =>
                  (bif o161.2.1 then
                    ((T_spec_l1In N o1.2.2.1 (1 : Int) (20 : Int)).bind fun o162 =>
                      (bif o162.2.1 then
                        (some (α := ODen (T_spec_OpOk_sg N).ps × RDen (T_spec_OpOk_sg N).rs) ((), (o1.2.2.2 == (0 : Int), ())))
                        else
                        (some (α := ODen (T_spec_OpOk_sg N).ps × RDen (T_spec_OpOk_sg N).rs) ((), (false, ())))))
                    else
                    (some (α := ODen (T_spec_OpOk_sg N).ps × RDen (T_spec_OpOk_sg N).rs) ((), (false, ())))))
                else
                (bif o1.1 == (8 : Int) then
                  (bif o1.1 == (8 : Int) then
                    ((T_spec_l4Reg N o1.2.1).bind fun o163 =>
                      (bif o163.2.1 then
                        (bif o1.2.2.1 == (0 : Int) then
                          (some (α := ODen (T_spec_OpOk_sg N).ps × RDen (T_spec_OpOk_sg N).rs) ((), (o1.2.2.2 == (0 : Int), ())))
                          else
                          (some (α := ODen (T_spec_OpOk_sg N).ps × RDen (T_spec_OpOk_sg N).rs) ((), (false, ()))))
                        else
                        (some (α := ODen (T_spec_OpOk_sg N).ps × RDen (T_spec_OpOk_sg N).rs) ((), (false, ())))))
                    else
                    (bif o1.1 == (9 : Int) then
                      (bif o1.1 == (9 : Int) then
                        (bif o1.2.1 == (0 : Int) then
                          (bif o1.2.2.1 == (0 : Int) then
                            (some (α := ODen (T_spec_OpOk_sg N).ps × RDen (T_spec_OpOk_sg N).rs) ((), (o1.2.2.2 == (0 : Int), ())))
                            else
                            (some (α := ODen (T_spec_OpOk_sg N).ps × RDen (T_spec_OpOk_sg N).rs) ((), (false, ()))))
                          else
                          (some (α := ODen (T_spec_OpOk_sg N).ps × RDen (T_spec_OpOk_sg N).rs) ((), (false, ()))))
                        else
                        (bif o1.1 == (12 : Int) then
                          ((T_spec_l1In N o1.2.1 (0 : Int) (7 : Int)).bind fun o164 =>
                            (bif o164.2.1 then
                              ((T_spec_l4Reg N o1.2.2.1).bind fun o165 =>
                                (bif o165.2.1 then
                                  ((T_spec_l4Reg N o1.2.2.2).bind fun o166 =>
                                    (some (α := ODen (T_spec_OpOk_sg N).ps × RDen (T_spec_OpOk_sg N).rs) ((), (o166.2.1, ()))))
                                  else
                                  (some (α := ODen (T_spec_OpOk_sg N).ps × RDen (T_spec_OpOk_sg N).rs) ((), (false, ())))))
                              else
                              (some (α := ODen (T_spec_OpOk_sg N).ps × RDen (T_spec_OpOk_sg N).rs) ((), (false, ())))))
                          else
                          (bif o1.1 == (13 : Int) then
                            ((T_spec_l4Reg N o1.2.1).bind fun o167 =>
                              (bif o167.2.1 then
                                ((T_spec_l1In N o1.2.2.1 (0 : Int) (7 : Int)).bind fun o168 =>
                                  (bif o168.2.1 then
                                    (some (α := ODen (T_spec_OpOk_sg N).ps × RDen (T_spec_OpOk_sg N).rs) ((), (o1.2.2.2 == (0 : Int), ())))
                                    else
                                    (some (α := ODen (T_spec_OpOk_sg N).ps × RDen (T_spec_OpOk_sg N).rs) ((), (false, ())))))
                                else
                                (some (α := ODen (T_spec_OpOk_sg N).ps × RDen (T_spec_OpOk_sg N).rs) ((), (false, ())))))
                            else
                            (bif o1.1 == (14 : Int) then
                              ((T_spec_l1In N o1.2.1 (0 : Int) (7 : Int)).bind fun o169 =>
                                (bif o169.2.1 then
                                  ((T_spec_l4Reg N o1.2.2.1).bind fun o170 =>
                                    (bif o170.2.1 then
                                      (some (α := ODen (T_spec_OpOk_sg N).ps × RDen (T_spec_OpOk_sg N).rs) ((), (o1.2.2.2 == (0 : Int), ())))
                                      else
                                      (some (α := ODen (T_spec_OpOk_sg N).ps × RDen (T_spec_OpOk_sg N).rs) ((), (false, ())))))
                                  else
                                  (some (α := ODen (T_spec_OpOk_sg N).ps × RDen (T_spec_OpOk_sg N).rs) ((), (false, ())))))
                              else
                              (some (α := ODen (T_spec_OpOk_sg N).ps × RDen (T_spec_OpOk_sg N).rs) ((), (false, ())))))))
                      else
                      (bif o1.1 == (10 : Int) then
                        (bif o1.1 == (10 : Int) then
                          (bif o1.2.1 == (0 : Int) then
                            (bif o1.2.2.1 == (0 : Int) then
                              (some (α := ODen (T_spec_OpOk_sg N).ps × RDen (T_spec_OpOk_sg N).rs) ((), (o1.2.2.2 == (0 : Int), ())))
                              else
                              (some (α := ODen (T_spec_OpOk_sg N).ps × RDen (T_spec_OpOk_sg N).rs) ((), (false, ()))))
                            else
                            (some (α := ODen (T_spec_OpOk_sg N).ps × RDen (T_spec_OpOk_sg N).rs) ((), (false, ()))))
                          else
                          (bif o1.1 == (12 : Int) then
                            ((T_spec_l1In N o1.2.1 (0 : Int) (7 : Int)).bind fun o171 =>
                              (bif o171.2.1 then
                                ((T_spec_l4Reg N o1.2.2.1).bind fun o172 =>
                                  (bif o172.2.1 then
                                    ((T_spec_l4Reg N o1.2.2.2).bind fun o173 =>
                                      (some (α := ODen (T_spec_OpOk_sg N).ps × RDen (T_spec_OpOk_sg N).rs) ((), (o173.2.1, ()))))
                                    else
                                    (some (α := ODen (T_spec_OpOk_sg N).ps × RDen (T_spec_OpOk_sg N).rs) ((), (false, ())))))
                                else
                                (some (α := ODen (T_spec_OpOk_sg N).ps × RDen (T_spec_OpOk_sg N).rs) ((), (false, ())))))
                            else
                            (bif o1.1 == (13 : Int) then
                              ((T_spec_l4Reg N o1.2.1).bind fun o174 =>
                                (bif o174.2.1 then
                                  ((T_spec_l1In N o1.2.2.1 (0 : Int) (7 : Int)).bind fun o175 =>
                                    (bif o175.2.1 then
                                      (some (α := ODen (T_spec_OpOk_sg N).ps × RDen (T_spec_OpOk_sg N).rs) ((), (o1.2.2.2 == (0 : Int), ())))
                                      else
                                      (some (α := ODen (T_spec_OpOk_sg N).ps × RDen (T_spec_OpOk_sg N).rs) ((), (false, ())))))
                                  else
                                  (some (α := ODen (T_spec_OpOk_sg N).ps × RDen (T_spec_OpOk_sg N).rs) ((), (false, ())))))
                              else
                              (bif o1.1 == (14 : Int) then
                                ((T_spec_l1In N o1.2.1 (0 : Int) (7 : Int)).bind fun o176 =>
                                  (bif o176.2.1 then
                                    ((T_spec_l4Reg N o1.2.2.1).bind fun o177 =>
                                      (bif o177.2.1 then
                                        (some (α := ODen (T_spec_OpOk_sg N).ps × RDen (T_spec_OpOk_sg N).rs) ((), (o1.2.2.2 == (0 : Int), ())))
                                        else
                                        (some (α := ODen (T_spec_OpOk_sg N).ps × RDen (T_spec_OpOk_sg N).rs) ((), (false, ())))))
                                    else
                                    (some (α := ODen (T_spec_OpOk_sg N).ps × RDen (T_spec_OpOk_sg N).rs) ((), (false, ())))))
                                else
                                (some (α := ODen (T_spec_OpOk_sg N).ps × RDen (T_spec_OpOk_sg N).rs) ((), (false, ())))))))
                        else
                        (bif o1.1 == (11 : Int) then
                          (bif o1.2.1 == (0 : Int) then
                            (bif o1.2.2.1 == (0 : Int) then
                              (some (α := ODen (T_spec_OpOk_sg N).ps × RDen (T_spec_OpOk_sg N).rs) ((), (o1.2.2.2 == (0 : Int), ())))
                              else
                              (some (α := ODen (T_spec_OpOk_sg N).ps × RDen (T_spec_OpOk_sg N).rs) ((), (false, ()))))
                            else
                            (some (α := ODen (T_spec_OpOk_sg N).ps × RDen (T_spec_OpOk_sg N).rs) ((), (false, ()))))
                          else
                          (bif o1.1 == (12 : Int) then
                            ((T_spec_l1In N o1.2.1 (0 : Int) (7 : Int)).bind fun o178 =>
                              (bif o178.2.1 then
                                ((T_spec_l4Reg N o1.2.2.1).bind fun o179 =>
                                  (bif o179.2.1 then
                                    ((T_spec_l4Reg N o1.2.2.2).bind fun o180 =>
                                      (some (α := ODen (T_spec_OpOk_sg N).ps × RDen (T_spec_OpOk_sg N).rs) ((), (o180.2.1, ()))))
                                    else
                                    (some (α := ODen (T_spec_OpOk_sg N).ps × RDen (T_spec_OpOk_sg N).rs) ((), (false, ())))))
                                else
                                (some (α := ODen (T_spec_OpOk_sg N).ps × RDen (T_spec_OpOk_sg N).rs) ((), (false, ())))))
                            else
                            (bif o1.1 == (13 : Int) then
                              ((T_spec_l4Reg N o1.2.1).bind fun o181 =>
                                (bif o181.2.1 then
                                  ((T_spec_l1In N o1.2.2.1 (0 : Int) (7 : Int)).bind fun o182 =>
                                    (bif o182.2.1 then
                                      (some (α := ODen (T_spec_OpOk_sg N).ps × RDen (T_spec_OpOk_sg N).rs) ((), (o1.2.2.2 == (0 : Int), ())))
                                      else
                                      (some (α := ODen (T_spec_OpOk_sg N).ps × RDen (T_spec_OpOk_sg N).rs) ((), (false, ())))))
                                  else
                                  (some (α := ODen (T_spec_OpOk_sg N).ps × RDen (T_spec_OpOk_sg N).rs) ((), (false, ())))))
                              else
                              (bif o1.1 == (14 : Int) then
                                ((T_spec_l1In N o1.2.1 (0 : Int) (7 : Int)).bind fun o183 =>
                                  (bif o183.2.1 then
                                    ((T_spec_l4Reg N o1.2.2.1).bind fun o184 =>
                                      (bif o184.2.1 then
                                        (some (α := ODen (T_spec_OpOk_sg N).ps × RDen (T_spec_OpOk_sg N).rs) ((), (o1.2.2.2 == (0 : Int), ())))
                                        else
                                        (some (α := ODen (T_spec_OpOk_sg N).ps × RDen (T_spec_OpOk_sg N).rs) ((), (false, ())))))
                                    else
                                    (some (α := ODen (T_spec_OpOk_sg N).ps × RDen (T_spec_OpOk_sg N).rs) ((), (false, ())))))
                                else
                                (some (α := ODen (T_spec_OpOk_sg N).ps × RDen (T_spec_OpOk_sg N).rs) ((), (false, ()))))))))))
                  else
                  (bif o1.1 == (15 : Int) then
                    (bif o1.1 == (15 : Int) then
                      ((T_spec_l4Reg N o1.2.1).bind fun o185 =>
                        (bif o185.2.1 then
                          (bif o1.2.2.1 == (0 : Int) then
                            (some (α := ODen (T_spec_OpOk_sg N).ps × RDen (T_spec_OpOk_sg N).rs) ((), (o1.2.2.2 == (0 : Int), ())))
                            else
                            (some (α := ODen (T_spec_OpOk_sg N).ps × RDen (T_spec_OpOk_sg N).rs) ((), (false, ()))))
                          else
                          (some (α := ODen (T_spec_OpOk_sg N).ps × RDen (T_spec_OpOk_sg N).rs) ((), (false, ())))))
                      else
                      (bif o1.1 == (9 : Int) then
                        (bif o1.1 == (9 : Int) then
                          (bif o1.2.1 == (0 : Int) then
                            (bif o1.2.2.1 == (0 : Int) then
                              (some (α := ODen (T_spec_OpOk_sg N).ps × RDen (T_spec_OpOk_sg N).rs) ((), (o1.2.2.2 == (0 : Int), ())))
                              else
                              (some (α := ODen (T_spec_OpOk_sg N).ps × RDen (T_spec_OpOk_sg N).rs) ((), (false, ()))))
                            else
                            (some (α := ODen (T_spec_OpOk_sg N).ps × RDen (T_spec_OpOk_sg N).rs) ((), (false, ()))))
                          else
                          (bif o1.1 == (12 : Int) then
                            ((T_spec_l1In N o1.2.1 (0 : Int) (7 : Int)).bind fun o186 =>
                              (bif o186.2.1 then
                                ((T_spec_l4Reg N o1.2.2.1).bind fun o187 =>
                                  (bif o187.2.1 then
                                    ((T_spec_l4Reg N o1.2.2.2).bind fun o188 =>
                                      (some (α := ODen (T_spec_OpOk_sg N).ps × RDen (T_spec_OpOk_sg N).rs) ((), (o188.2.1, ()))))
                                    else
                                    (some (α := ODen (T_spec_OpOk_sg N).ps × RDen (T_spec_OpOk_sg N).rs) ((), (false, ())))))
                                else
                                (some (α := ODen (T_spec_OpOk_sg N).ps × RDen (T_spec_OpOk_sg N).rs) ((), (false, ())))))
                            else
                            (bif o1.1 == (13 : Int) then
                              ((T_spec_l4Reg N o1.2.1).bind fun o189 =>
                                (bif o189.2.1 then
                                  ((T_spec_l1In N o1.2.2.1 (0 : Int) (7 : Int)).bind fun o190 =>
                                    (bif o190.2.1 then
                                      (some (α := ODen (T_spec_OpOk_sg N).ps × RDen (T_spec_OpOk_sg N).rs) ((), (o1.2.2.2 == (0 : Int), ())))
                                      else
                                      (some (α := ODen (T_spec_OpOk_sg N).ps × RDen (T_spec_OpOk_sg N).rs) ((), (false, ())))))
                                  else
                                  (some (α := ODen (T_spec_OpOk_sg N).ps × RDen (T_spec_OpOk_sg N).rs) ((), (false, ())))))
                              else
                              (bif o1.1 == (14 : Int) then
                                ((T_spec_l1In N o1.2.1 (0 : Int) (7 : Int)).bind fun o191 =>
                                  (bif o191.2.1 then
                                    ((T_spec_l4Reg N o1.2.2.1).bind fun o192 =>
                                      (bif o192.2.1 then
                                        (some (α := ODen (T_spec_OpOk_sg N).ps × RDen (T_spec_OpOk_sg N).rs) ((), (o1.2.2.2 == (0 : Int), ())))
                                        else
                                        (some (α := ODen (T_spec_OpOk_sg N).ps × RDen (T_spec_OpOk_sg N).rs) ((), (false, ())))))
                                    else
                                    (some (α := ODen (T_spec_OpOk_sg N).ps × RDen (T_spec_OpOk_sg N).rs) ((), (false, ())))))
                                else
                                (some (α := ODen (T_spec_OpOk_sg N).ps × RDen (T_spec_OpOk_sg N).rs) ((), (false, ())))))))
                        else
                        (bif o1.1 == (10 : Int) then
                          (bif o1.1 == (10 : Int) then
                            (bif o1.2.1 == (0 : Int) then
                              (bif o1.2.2.1 == (0 : Int) then
                                (some (α := ODen (T_spec_OpOk_sg N).ps × RDen (T_spec_OpOk_sg N).rs) ((), (o1.2.2.2 == (0 : Int), ())))
                                else
                                (some (α := ODen (T_spec_OpOk_sg N).ps × RDen (T_spec_OpOk_sg N).rs) ((), (false, ()))))
                              else
                              (some (α := ODen (T_spec_OpOk_sg N).ps × RDen (T_spec_OpOk_sg N).rs) ((), (false, ()))))
                            else
                            (bif o1.1 == (12 : Int) then
                              ((T_spec_l1In N o1.2.1 (0 : Int) (7 : Int)).bind fun o193 =>
                                (bif o193.2.1 then
                                  ((T_spec_l4Reg N o1.2.2.1).bind fun o194 =>
                                    (bif o194.2.1 then
                                      ((T_spec_l4Reg N o1.2.2.2).bind fun o195 =>
                                        (some (α := ODen (T_spec_OpOk_sg N).ps × RDen (T_spec_OpOk_sg N).rs) ((), (o195.2.1, ()))))
                                      else
                                      (some (α := ODen (T_spec_OpOk_sg N).ps × RDen (T_spec_OpOk_sg N).rs) ((), (false, ())))))
                                  else
                                  (some (α := ODen (T_spec_OpOk_sg N).ps × RDen (T_spec_OpOk_sg N).rs) ((), (false, ())))))
                              else
                              (bif o1.1 == (13 : Int) then
                                ((T_spec_l4Reg N o1.2.1).bind fun o196 =>
                                  (bif o196.2.1 then
                                    ((T_spec_l1In N o1.2.2.1 (0 : Int) (7 : Int)).bind fun o197 =>
                                      (bif o197.2.1 then
                                        (some (α := ODen (T_spec_OpOk_sg N).ps × RDen (T_spec_OpOk_sg N).rs) ((), (o1.2.2.2 == (0 : Int), ())))
                                        else
                                        (some (α := ODen (T_spec_OpOk_sg N).ps × RDen (T_spec_OpOk_sg N).rs) ((), (false, ())))))
                                    else
                                    (some (α := ODen (T_spec_OpOk_sg N).ps × RDen (T_spec_OpOk_sg N).rs) ((), (false, ())))))
                                else
                                (bif o1.1 == (14 : Int) then
                                  ((T_spec_l1In N o1.2.1 (0 : Int) (7 : Int)).bind fun o198 =>
                                    (bif o198.2.1 then
                                      ((T_spec_l4Reg N o1.2.2.1).bind fun o199 =>
                                        (bif o199.2.1 then
                                          (some (α := ODen (T_spec_OpOk_sg N).ps × RDen (T_spec_OpOk_sg N).rs) ((), (o1.2.2.2 == (0 : Int), ())))
                                          else
                                          (some (α := ODen (T_spec_OpOk_sg N).ps × RDen (T_spec_OpOk_sg N).rs) ((), (false, ())))))
                                      else
                                      (some (α := ODen (T_spec_OpOk_sg N).ps × RDen (T_spec_OpOk_sg N).rs) ((), (false, ())))))
                                  else
                                  (some (α := ODen (T_spec_OpOk_sg N).ps × RDen (T_spec_OpOk_sg N).rs) ((), (false, ())))))))
                          else
                          (bif o1.1 == (11 : Int) then
                            (bif o1.2.1 == (0 : Int) then
                              (bif o1.2.2.1 == (0 : Int) then
                                (some (α := ODen (T_spec_OpOk_sg N).ps × RDen (T_spec_OpOk_sg N).rs) ((), (o1.2.2.2 == (0 : Int), ())))
                                else
                                (some (α := ODen (T_spec_OpOk_sg N).ps × RDen (T_spec_OpOk_sg N).rs) ((), (false, ()))))
                              else
                              (some (α := ODen (T_spec_OpOk_sg N).ps × RDen (T_spec_OpOk_sg N).rs) ((), (false, ()))))
                            else
                            (bif o1.1 == (12 : Int) then
                              ((T_spec_l1In N o1.2.1 (0 : Int) (7 : Int)).bind fun o200 =>
                                (bif o200.2.1 then
                                  ((T_spec_l4Reg N o1.2.2.1).bind fun o201 =>
                                    (bif o201.2.1 then
                                      ((T_spec_l4Reg N o1.2.2.2).bind fun o202 =>
                                        (some (α := ODen (T_spec_OpOk_sg N).ps × RDen (T_spec_OpOk_sg N).rs) ((), (o202.2.1, ()))))
                                      else
                                      (some (α := ODen (T_spec_OpOk_sg N).ps × RDen (T_spec_OpOk_sg N).rs) ((), (false, ())))))
                                  else
                                  (some (α := ODen (T_spec_OpOk_sg N).ps × RDen (T_spec_OpOk_sg N).rs) ((), (false, ())))))
                              else
                              (bif o1.1 == (13 : Int) then
                                ((T_spec_l4Reg N o1.2.1).bind fun o203 =>
                                  (bif o203.2.1 then
                                    ((T_spec_l1In N o1.2.2.1 (0 : Int) (7 : Int)).bind fun o204 =>
                                      (bif o204.2.1 then
                                        (some (α := ODen (T_spec_OpOk_sg N).ps × RDen (T_spec_OpOk_sg N).rs) ((), (o1.2.2.2 == (0 : Int), ())))
                                        else
                                        (some (α := ODen (T_spec_OpOk_sg N).ps × RDen (T_spec_OpOk_sg N).rs) ((), (false, ())))))
                                    else
                                    (some (α := ODen (T_spec_OpOk_sg N).ps × RDen (T_spec_OpOk_sg N).rs) ((), (false, ())))))
                                else
                                (bif o1.1 == (14 : Int) then
                                  ((T_spec_l1In N o1.2.1 (0 : Int) (7 : Int)).bind fun o205 =>
                                    (bif o205.2.1 then
                                      ((T_spec_l4Reg N o1.2.2.1).bind fun o206 =>
                                        (bif o206.2.1 then
                                          (some (α := ODen (T_spec_OpOk_sg N).ps × RDen (T_spec_OpOk_sg N).rs) ((), (o1.2.2.2 == (0 : Int), ())))
                                          else
                                          (some (α := ODen (T_spec_OpOk_sg N).ps × RDen (T_spec_OpOk_sg N).rs) ((), (false, ())))))
                                      else
                                      (some (α := ODen (T_spec_OpOk_sg N).ps × RDen (T_spec_OpOk_sg N).rs) ((), (false, ())))))
                                  else
                                  (some (α := ODen (T_spec_OpOk_sg N).ps × RDen (T_spec_OpOk_sg N).rs) ((), (false, ()))))))))))
                    else
                    (bif o1.1 == (16 : Int) then
                      ((T_spec_l4Reg N o1.2.1).bind fun o207 =>
                        (bif o207.2.1 then
                          (bif o1.2.2.1 == (0 : Int) then
                            (some (α := ODen (T_spec_OpOk_sg N).ps × RDen (T_spec_OpOk_sg N).rs) ((), (o1.2.2.2 == (0 : Int), ())))
                            else
                            (some (α := ODen (T_spec_OpOk_sg N).ps × RDen (T_spec_OpOk_sg N).rs) ((), (false, ()))))
                          else
                          (some (α := ODen (T_spec_OpOk_sg N).ps × RDen (T_spec_OpOk_sg N).rs) ((), (false, ())))))
                      else
                      (bif o1.1 == (9 : Int) then
                        (bif o1.1 == (9 : Int) then
                          (bif o1.2.1 == (0 : Int) then
                            (bif o1.2.2.1 == (0 : Int) then
                              (some (α := ODen (T_spec_OpOk_sg N).ps × RDen (T_spec_OpOk_sg N).rs) ((), (o1.2.2.2 == (0 : Int), ())))
                              else
                              (some (α := ODen (T_spec_OpOk_sg N).ps × RDen (T_spec_OpOk_sg N).rs) ((), (false, ()))))
                            else
                            (some (α := ODen (T_spec_OpOk_sg N).ps × RDen (T_spec_OpOk_sg N).rs) ((), (false, ()))))
                          else
                          (bif o1.1 == (12 : Int) then
                            ((T_spec_l1In N o1.2.1 (0 : Int) (7 : Int)).bind fun o208 =>
                              (bif o208.2.1 then
                                ((T_spec_l4Reg N o1.2.2.1).bind fun o209 =>
                                  (bif o209.2.1 then
                                    ((T_spec_l4Reg N o1.2.2.2).bind fun o210 =>
                                      (some (α := ODen (T_spec_OpOk_sg N).ps × RDen (T_spec_OpOk_sg N).rs) ((), (o210.2.1, ()))))
                                    else
                                    (some (α := ODen (T_spec_OpOk_sg N).ps × RDen (T_spec_OpOk_sg N).rs) ((), (false, ())))))
                                else
                                (some (α := ODen (T_spec_OpOk_sg N).ps × RDen (T_spec_OpOk_sg N).rs) ((), (false, ())))))
                            else
                            (bif o1.1 == (13 : Int) then
                              ((T_spec_l4Reg N o1.2.1).bind fun o211 =>
                                (bif o211.2.1 then
                                  ((T_spec_l1In N o1.2.2.1 (0 : Int) (7 : Int)).bind fun o212 =>
                                    (bif o212.2.1 then
                                      (some (α := ODen (T_spec_OpOk_sg N).ps × RDen (T_spec_OpOk_sg N).rs) ((), (o1.2.2.2 == (0 : Int), ())))
                                      else
                                      (some (α := ODen (T_spec_OpOk_sg N).ps × RDen (T_spec_OpOk_sg N).rs) ((), (false, ())))))
                                  else
                                  (some (α := ODen (T_spec_OpOk_sg N).ps × RDen (T_spec_OpOk_sg N).rs) ((), (false, ())))))
                              else
                              (bif o1.1 == (14 : Int) then
                                ((T_spec_l1In N o1.2.1 (0 : Int) (7 : Int)).bind fun o213 =>
                                  (bif o213.2.1 then
                                    ((T_spec_l4Reg N o1.2.2.1).bind fun o214 =>
                                      (bif o214.2.1 then
                                        (some (α := ODen (T_spec_OpOk_sg N).ps × RDen (T_spec_OpOk_sg N).rs) ((), (o1.2.2.2 == (0 : Int), ())))
                                        else
                                        (some (α := ODen (T_spec_OpOk_sg N).ps × RDen (T_spec_OpOk_sg N).rs) ((), (false, ())))))
                                    else
                                    (some (α := ODen (T_spec_OpOk_sg N).ps × RDen (T_spec_OpOk_sg N).rs) ((), (false, ())))))
                                else
                                (some (α := ODen (T_spec_OpOk_sg N).ps × RDen (T_spec_OpOk_sg N).rs) ((), (false, ())))))))
                        else
                        (bif o1.1 == (10 : Int) then
                          (bif o1.1 == (10 : Int) then
                            (bif o1.2.1 == (0 : Int) then
                              (bif o1.2.2.1 == (0 : Int) then
                                (some (α := ODen (T_spec_OpOk_sg N).ps × RDen (T_spec_OpOk_sg N).rs) ((), (o1.2.2.2 == (0 : Int), ())))
                                else
                                (some (α := ODen (T_spec_OpOk_sg N).ps × RDen (T_spec_OpOk_sg N).rs) ((), (false, ()))))
                              else
                              (some (α := ODen (T_spec_OpOk_sg N).ps × RDen (T_spec_OpOk_sg N).rs) ((), (false, ()))))
                            else
                            (bif o1.1 == (12 : Int) then
                              ((T_spec_l1In N o1.2.1 (0 : Int) (7 : Int)).bind fun o215 =>
                                (bif o215.2.1 then
                                  ((T_spec_l4Reg N o1.2.2.1).bind fun o216 =>
                                    (bif o216.2.1 then
                                      ((T_spec_l4Reg N o1.2.2.2).bind fun o217 =>
                                        (some (α := ODen (T_spec_OpOk_sg N).ps × RDen (T_spec_OpOk_sg N).rs) ((), (o217.2.1, ()))))
                                      else
                                      (some (α := ODen (T_spec_OpOk_sg N).ps × RDen (T_spec_OpOk_sg N).rs) ((), (false, ())))))
                                  else
                                  (some (α := ODen (T_spec_OpOk_sg N).ps × RDen (T_spec_OpOk_sg N).rs) ((), (false, ())))))
                              else
                              (bif o1.1 == (13 : Int) then
                                ((T_spec_l4Reg N o1.2.1).bind fun o218 =>
                                  (bif o218.2.1 then
                                    ((T_spec_l1In N o1.2.2.1 (0 : Int) (7 : Int)).bind fun o219 =>
                                      (bif o219.2.1 then
                                        (some (α := ODen (T_spec_OpOk_sg N).ps × RDen (T_spec_OpOk_sg N).rs) ((), (o1.2.2.2 == (0 : Int), ())))
                                        else
                                        (some (α := ODen (T_spec_OpOk_sg N).ps × RDen (T_spec_OpOk_sg N).rs) ((), (false, ())))))
                                    else
                                    (some (α := ODen (T_spec_OpOk_sg N).ps × RDen (T_spec_OpOk_sg N).rs) ((), (false, ())))))
                                else
                                (bif o1.1 == (14 : Int) then
                                  ((T_spec_l1In N o1.2.1 (0 : Int) (7 : Int)).bind fun o220 =>
                                    (bif o220.2.1 then
                                      ((T_spec_l4Reg N o1.2.2.1).bind fun o221 =>
                                        (bif o221.2.1 then
                                          (some (α := ODen (T_spec_OpOk_sg N).ps × RDen (T_spec_OpOk_sg N).rs) ((), (o1.2.2.2 == (0 : Int), ())))
                                          else
                                          (some (α := ODen (T_spec_OpOk_sg N).ps × RDen (T_spec_OpOk_sg N).rs) ((), (false, ())))))
                                      else
                                      (some (α := ODen (T_spec_OpOk_sg N).ps × RDen (T_spec_OpOk_sg N).rs) ((), (false, ())))))
                                  else
                                  (some (α := ODen (T_spec_OpOk_sg N).ps × RDen (T_spec_OpOk_sg N).rs) ((), (false, ())))))))
                          else
                          (bif o1.1 == (11 : Int) then
                            (bif o1.2.1 == (0 : Int) then
                              (bif o1.2.2.1 == (0 : Int) then
                                (some (α := ODen (T_spec_OpOk_sg N).ps × RDen (T_spec_OpOk_sg N).rs) ((), (o1.2.2.2 == (0 : Int), ())))
                                else
                                (some (α := ODen (T_spec_OpOk_sg N).ps × RDen (T_spec_OpOk_sg N).rs) ((), (false, ()))))
                              else
                              (some (α := ODen (T_spec_OpOk_sg N).ps × RDen (T_spec_OpOk_sg N).rs) ((), (false, ()))))
                            else
                            (bif o1.1 == (12 : Int) then
                              ((T_spec_l1In N o1.2.1 (0 : Int) (7 : Int)).bind fun o222 =>
                                (bif o222.2.1 then
                                  ((T_spec_l4Reg N o1.2.2.1).bind fun o223 =>
                                    (bif o223.2.1 then
                                      ((T_spec_l4Reg N o1.2.2.2).bind fun o224 =>
                                        (some (α := ODen (T_spec_OpOk_sg N).ps × RDen (T_spec_OpOk_sg N).rs) ((), (o224.2.1, ()))))
                                      else
                                      (some (α := ODen (T_spec_OpOk_sg N).ps × RDen (T_spec_OpOk_sg N).rs) ((), (false, ())))))
                                  else
                                  (some (α := ODen (T_spec_OpOk_sg N).ps × RDen (T_spec_OpOk_sg N).rs) ((), (false, ())))))
                              else
                              (bif o1.1 == (13 : Int) then
                                ((T_spec_l4Reg N o1.2.1).bind fun o225 =>
                                  (bif o225.2.1 then
                                    ((T_spec_l1In N o1.2.2.1 (0 : Int) (7 : Int)).bind fun o226 =>
                                      (bif o226.2.1 then
                                        (some (α := ODen (T_spec_OpOk_sg N).ps × RDen (T_spec_OpOk_sg N).rs) ((), (o1.2.2.2 == (0 : Int), ())))
                                        else
                                        (some (α := ODen (T_spec_OpOk_sg N).ps × RDen (T_spec_OpOk_sg N).rs) ((), (false, ())))))
                                    else
                                    (some (α := ODen (T_spec_OpOk_sg N).ps × RDen (T_spec_OpOk_sg N).rs) ((), (false, ())))))
                                else
                                (bif o1.1 == (14 : Int) then
                                  ((T_spec_l1In N o1.2.1 (0 : Int) (7 : Int)).bind fun o227 =>
                                    (bif o227.2.1 then
                                      ((T_spec_l4Reg N o1.2.2.1).bind fun o228 =>
                                        (bif o228.2.1 then
                                          (some (α := ODen (T_spec_OpOk_sg N).ps × RDen (T_spec_OpOk_sg N).rs) ((), (o1.2.2.2 == (0 : Int), ())))
                                          else
                                          (some (α := ODen (T_spec_OpOk_sg N).ps × RDen (T_spec_OpOk_sg N).rs) ((), (false, ())))))
                                      else
                                      (some (α := ODen (T_spec_OpOk_sg N).ps × RDen (T_spec_OpOk_sg N).rs) ((), (false, ())))))
                                  else
                                  (some (α := ODen (T_spec_OpOk_sg N).ps × RDen (T_spec_OpOk_sg N).rs) ((), (false, ()))))))))))))))))))) := by kernel_rfl

theorem T_spec_OpOk_ok (N : Nat) : chkBody Try.f163 (T_spec_OpOk_sg N).ps = true := by kernel_rfl

theorem T_spec_OpOk_callable : Callable Try.prog 163 := callable_of Try.func163 (show chkFn Try.f163 = true by kernel_rfl)

theorem T_spec_OpOk_good (N : Nat) : Good Try.prog 163 (T_spec_OpOk_sg N) :=
  good_body mixedOk tabOk (ctx_cons (T_spec_l4Reg_good N) T_spec_l4Reg_callable (ctx_cons (T_spec_l3Val_good N) T_spec_l3Val_callable (ctx_cons (T_spec_l3Cell_good N) T_spec_l3Cell_callable (ctx_cons (T_spec_l1In_good N) T_spec_l1In_callable ctx_nil)))) Try.func163 (T_spec_OpOk_ok N) (fun d _ h => ⟨N, (T_spec_OpOk_den N d.1).trans h⟩)

noncomputable def T_spec_l5Skip_sg (N : Nat) : Sig := Sig.of [.v (.slice (.prod (.int .i64) (.prod (.int .i64) (.prod (.int .i64) (.int .i64))))) false, .v (.int .i64) false] [.v (.bool) false] (fun d => T_spec_l5Skip N d.1 d.2.1)

def T_spec_l5Skip_ann : Nat → List Ghost
  | 6 => [.canon [0, 5, 6, 7, 24]]
  | 7 => [.canon [0, 5, 6, 7]]
  | 8 => [.canon [0, 5, 6, 7, 32]]
  | 9 => [.canon [0, 5, 6, 7]]
  | 10 => [.canon [0, 5, 6, 7, 40]]
  | 11 => [.canon [0, 5, 6, 7]]
  | 12 => [.canon [0, 5, 6, 7, 44]]
  | 13 => [.canon [4]]
  | 100006 => [.canon [0, 5, 6, 7]]
  | _ => []

noncomputable def T_spec_l5Skip_ctx (N : Nat) : Ctx := []

def T_spec_l5Skip_lp0_sh (code3 : List (Int × Int × Int × Int)) (to4 : Int) (d5 : Int) (k6 : Int) : St := { env := [(0, .s (.one (.val (.slice (.prod (.int .i64) (.prod (.int .i64) (.prod (.int .i64) (.int .i64))))) (code3 : List (Int × Int × Int × Int))))), (5, .s (.one (.val (.int .i64) (to4 : Int)))), (6, .s (.one (.val (.int .i64) (d5 : Int)))), (7, .s (.one (.val (.int .i64) (k6 : Int))))], objs := [], nx := 0 }

def T_spec_l5Skip_lp0_e0 (code3 : List (Int × Int × Int × Int)) (to4 : Int) : St := { env := [(4, .s (.one (.val (.bool) (false : Bool))))], objs := [], nx := 0 }

def T_spec_l5Skip_lp0_e1 (code3 : List (Int × Int × Int × Int)) (to4 : Int) (d7 : Int) (k8 : Int) (t9 : Bool) : St := { env := [(0, .s (.one (.val (.slice (.prod (.int .i64) (.prod (.int .i64) (.prod (.int .i64) (.int .i64))))) (code3 : List (Int × Int × Int × Int))))), (5, .s (.one (.val (.int .i64) (to4 : Int)))), (6, .s (.one (.val (.int .i64) (d7 : Int)))), (7, .s (.one (.val (.int .i64) (k8 : Int)))), (24, .s (.one (.val (.bool) (t9 : Bool))))], objs := [], nx := 0 }

noncomputable def T_spec_l5Skip_lp0_m (N : Nat) {R : Type} (n : Nat) (st : St) (K : Ex → St → Option R) : Option R := loopN (roundG (T_spec_l5Skip_ann 100006) fun st k => sx tab (T_spec_l5Skip_ctx N) T_spec_l5Skip_ann N (nthLoop Try.f164 0) st k) n st K

theorem T_spec_l5Skip_lp0_step (N : Nat) {R : Type} (n : Nat) (K : Ex → St → Option R) (code3 : List (Int × Int × Int × Int)) (to4 : Int) (d5 : Int) (k6 : Int) :
    T_spec_l5Skip_lp0_m N (n + 1) (T_spec_l5Skip_lp0_sh code3 to4 d5 k6) K =
    (bif decide (k6 < to4) then
    (bif inb k6 (List.length code3) then
      (bif (List.getD code3 (Int.toNat k6) ((0 : Int), ((0 : Int), ((0 : Int), (0 : Int))))).1 == (8 : Int) then
        (bif inb k6 (List.length code3) then
          (bif (List.getD code3 (Int.toNat k6) ((0 : Int), ((0 : Int), ((0 : Int), (0 : Int))))).1 == (9 : Int) then
            (bif decide ((isub .i64 (iadd .i64 d5 (1 : Int)) (1 : Int)) < (0 : Int)) then
              (K .ret (T_spec_l5Skip_lp0_e0 code3 to4))
              else
              (T_spec_l5Skip_lp0_m N n (T_spec_l5Skip_lp0_sh code3 to4 (isub .i64 (iadd .i64 d5 (1 : Int)) (1 : Int)) (iadd .i64 k6 (1 : Int))) K))
            else
            (bif decide ((iadd .i64 d5 (1 : Int)) < (0 : Int)) then
              (K .ret (T_spec_l5Skip_lp0_e0 code3 to4))
              else
              (T_spec_l5Skip_lp0_m N n (T_spec_l5Skip_lp0_sh code3 to4 (iadd .i64 d5 (1 : Int)) (iadd .i64 k6 (1 : Int))) K))) else none)
        else
        (bif inb k6 (List.length code3) then
          (bif (List.getD code3 (Int.toNat k6) ((0 : Int), ((0 : Int), ((0 : Int), (0 : Int))))).1 == (9 : Int) then
            (bif decide ((isub .i64 d5 (1 : Int)) < (0 : Int)) then
              (K .ret (T_spec_l5Skip_lp0_e0 code3 to4))
              else
              (T_spec_l5Skip_lp0_m N n (T_spec_l5Skip_lp0_sh code3 to4 (isub .i64 d5 (1 : Int)) (iadd .i64 k6 (1 : Int))) K))
            else
            (bif decide (d5 < (0 : Int)) then
              (K .ret (T_spec_l5Skip_lp0_e0 code3 to4))
              else
              (T_spec_l5Skip_lp0_m N n (T_spec_l5Skip_lp0_sh code3 to4 d5 (iadd .i64 k6 (1 : Int))) K))) else none)) else none)
    else
    (K (.exit 0) (T_spec_l5Skip_lp0_e1 code3 to4 d5 k6 (decide (k6 < to4))))) := by kernel_rfl

theorem T_spec_l5Skip_lp0_eq (N : Nat) {R : Type} (code3 : List (Int × Int × Int × Int)) (to4 : Int) (K : Ex → St → Option R) : ∀ (n : Nat) (d5 : Int) (k6 : Int), T_spec_l5Skip_lp0_m N n (T_spec_l5Skip_lp0_sh code3 to4 d5 k6) K = T_spec_l5Skip_lp0 N code3 to4 (K .ret (T_spec_l5Skip_lp0_e0 code3 to4)) (fun d7 k8 t9 => (K (.exit 0) (T_spec_l5Skip_lp0_e1 code3 to4 d7 k8 t9))) n d5 k6
  | 0, _, _ => rfl
  | n + 1, d5, k6 => by rw [T_spec_l5Skip_lp0_step, T_spec_l5Skip_lp0]; (try simp only [T_spec_l5Skip_lp0_eq N code3 to4 K n])

theorem T_spec_l5Skip_c1 (N : Nat) (code1 : List (Int × Int × Int × Int)) (i2 : Int) :
    ((ctxK (R := ODen (T_spec_l5Skip_sg N).ps × RDen (T_spec_l5Skip_sg N).rs) tab (T_spec_l5Skip_ctx N) T_spec_l5Skip_ann N (theCode Try.f164) [1, 1, 1, 1, 0, 1, 0] (retK tab (T_spec_l5Skip_sg N) Try.f164.results.toList some)) .ret (T_spec_l5Skip_lp0_e0 code1 (iadd .i64 (iadd .i64 i2 (1 : Int)) (List.getD code1 (Int.toNat i2) ((0 : Int), ((0 : Int), ((0 : Int), (0 : Int))))).2.2.1))) =
    (some (α := ODen (T_spec_l5Skip_sg N).ps × RDen (T_spec_l5Skip_sg N).rs) ((), (false, ()))) := by kernel_rfl

theorem T_spec_l5Skip_c2 (N : Nat) (code1 : List (Int × Int × Int × Int)) (i2 : Int) (d10 : Int) (k11 : Int) (t12 : Bool) :
    ((ctxK (R := ODen (T_spec_l5Skip_sg N).ps × RDen (T_spec_l5Skip_sg N).rs) tab (T_spec_l5Skip_ctx N) T_spec_l5Skip_ann N (theCode Try.f164) [1, 1, 1, 1, 0, 1, 0] (retK tab (T_spec_l5Skip_sg N) Try.f164.results.toList some)) (.exit 0) (T_spec_l5Skip_lp0_e1 code1 (iadd .i64 (iadd .i64 i2 (1 : Int)) (List.getD code1 (Int.toNat i2) ((0 : Int), ((0 : Int), ((0 : Int), (0 : Int))))).2.2.1) d10 k11 t12)) =
    (some (α := ODen (T_spec_l5Skip_sg N).ps × RDen (T_spec_l5Skip_sg N).rs) ((), (d10 == (0 : Int), ()))) := by kernel_rfl

theorem T_spec_l5Skip_den (N : Nat) (code1 : List (Int × Int × Int × Int)) (i2 : Int) :
    den (R := ODen (T_spec_l5Skip_sg N).ps × RDen (T_spec_l5Skip_sg N).rs) tab (T_spec_l5Skip_ctx N) T_spec_l5Skip_ann N (T_spec_l5Skip_sg N) Try.f164 (code1, i2, ()) some =
    (bif inb i2 (List.length code1) then
    (bif decide ((iadd .i64 (iadd .i64 i2 (1 : Int)) (List.getD code1 (Int.toNat i2) ((0 : Int), ((0 : Int), ((0 : Int), (0 : Int))))).2.2.1) > (ilen code1)) then
      (some (α := ODen (T_spec_l5Skip_sg N).ps × RDen (T_spec_l5Skip_sg N).rs) ((), (false, ())))
      else
      (T_spec_l5Skip_lp0 N code1 (iadd .i64 (iadd .i64 i2 (1 : Int)) (List.getD code1 (Int.toNat i2) ((0 : Int), ((0 : Int), ((0 : Int), (0 : Int))))).2.2.1)
        (some (α := ODen (T_spec_l5Skip_sg N).ps × RDen (T_spec_l5Skip_sg N).rs) ((), (false, ())))
        (fun d10 k11 t12 =>
          (some (α := ODen (T_spec_l5Skip_sg N).ps × RDen (T_spec_l5Skip_sg N).rs) ((), (d10 == (0 : Int), ()))))
         N (0 : Int) (iadd .i64 i2 (1 : Int)))) else none) := by
  have h : den (R := ODen (T_spec_l5Skip_sg N).ps × RDen (T_spec_l5Skip_sg N).rs) tab (T_spec_l5Skip_ctx N) T_spec_l5Skip_ann N (T_spec_l5Skip_sg N) Try.f164 (code1, i2, ()) some =
    (bif inb i2 (List.length code1) then
    (bif decide ((iadd .i64 (iadd .i64 i2 (1 : Int)) (List.getD code1 (Int.toNat i2) ((0 : Int), ((0 : Int), ((0 : Int), (0 : Int))))).2.2.1) > (ilen code1)) then
      (some (α := ODen (T_spec_l5Skip_sg N).ps × RDen (T_spec_l5Skip_sg N).rs) ((), (false, ())))
      else
      (T_spec_l5Skip_lp0_m N N (T_spec_l5Skip_lp0_sh code1 (iadd .i64 (iadd .i64 i2 (1 : Int)) (List.getD code1 (Int.toNat i2) ((0 : Int), ((0 : Int), ((0 : Int), (0 : Int))))).2.2.1) (0 : Int) (iadd .i64 i2 (1 : Int))) (ctxK (R := ODen (T_spec_l5Skip_sg N).ps × RDen (T_spec_l5Skip_sg N).rs) tab (T_spec_l5Skip_ctx N) T_spec_l5Skip_ann N (theCode Try.f164) [1, 1, 1, 1, 0, 1, 0] (retK tab (T_spec_l5Skip_sg N) Try.f164.results.toList some)))) else none) := by kernel_rfl
  rw [h]
  (try simp only [T_spec_l5Skip_lp0_eq, T_spec_l5Skip_c1, T_spec_l5Skip_c2]) <;> rfl

theorem T_spec_l5Skip_ok (N : Nat) : chkBody Try.f164 (T_spec_l5Skip_sg N).ps = true := by kernel_rfl

theorem T_spec_l5Skip_callable : Callable Try.prog 164 := callable_of Try.func164 (show chkFn Try.f164 = true by kernel_rfl)

theorem T_spec_l5Skip_good (N : Nat) : Good Try.prog 164 (T_spec_l5Skip_sg N) :=
  good_body mixedOk tabOk ctx_nil Try.func164 (T_spec_l5Skip_ok N) (fun d _ h => ⟨N, (T_spec_l5Skip_den N d.1 d.2.1).trans h⟩)

noncomputable def T_spec_CodeOk_sg (N : Nat) : Sig := Sig.of [.v (.slice (.prod (.int .i64) (.prod (.int .i64) (.prod (.int .i64) (.int .i64))))) false] [.v (.bool) false] (fun d => T_spec_CodeOk N d.1)

def T_spec_CodeOk_ann : Nat → List Ghost
  | 6 => [.canon [0, 3, 4, 5, 12]]
  | 7 => [.canon [0, 3, 4, 5]]
  | 8 => [.canon [0, 3, 4, 5, 20]]
  | 9 => [.canon [2]]
  | 10 => [.canon [0, 3, 4, 5, 25]]
  | 11 => [.canon [0, 3, 4, 5, 25, 26]]
  | 12 => [.canon [0, 3, 4, 5]]
  | 13 => [.canon [0, 3, 4, 5, 25, 30]]
  | 14 => [.canon [0, 3, 4, 5]]
  | 15 => [.canon [0, 3, 4, 5, 25, 34]]
  | 16 => [.canon [0, 3, 4, 5, 39]]
  | 17 => [.canon [2]]
  | 18 => [.canon [0, 3, 4, 5, 40]]
  | 19 => [.canon [0, 3, 4, 5]]
  | 20 => [.canon [0, 3, 4, 5, 49]]
  | 21 => [.canon [2]]
  | 22 => [.canon [0, 3, 4, 5, 51]]
  | 23 => [.canon [2]]
  | 100006 => [.canon [0, 3, 4, 5]]
  | _ => []

noncomputable def T_spec_CodeOk_ctx (N : Nat) : Ctx := [(163, T_spec_OpOk_sg N), (164, T_spec_l5Skip_sg N)]

def T_spec_CodeOk_lp0_sh (code2 : List (Int × Int × Int × Int)) (d3 : Int) (forks4 : Int) (i5 : Int) : St := { env := [(0, .s (.one (.val (.slice (.prod (.int .i64) (.prod (.int .i64) (.prod (.int .i64) (.int .i64))))) (code2 : List (Int × Int × Int × Int))))), (3, .s (.one (.val (.int .i64) (d3 : Int)))), (4, .s (.one (.val (.int .i64) (forks4 : Int)))), (5, .s (.one (.val (.int .i64) (i5 : Int))))], objs := [], nx := 0 }

def T_spec_CodeOk_lp0_e0 (code2 : List (Int × Int × Int × Int)) : St := { env := [(2, .s (.one (.val (.bool) (false : Bool))))], objs := [], nx := 0 }

def T_spec_CodeOk_lp0_e1 (code2 : List (Int × Int × Int × Int)) (d8 : Int) (forks9 : Int) (i10 : Int) (t11 : Bool) : St := { env := [(0, .s (.one (.val (.slice (.prod (.int .i64) (.prod (.int .i64) (.prod (.int .i64) (.int .i64))))) (code2 : List (Int × Int × Int × Int))))), (3, .s (.one (.val (.int .i64) (d8 : Int)))), (4, .s (.one (.val (.int .i64) (forks9 : Int)))), (5, .s (.one (.val (.int .i64) (i10 : Int)))), (12, .s (.one (.val (.bool) (t11 : Bool))))], objs := [], nx := 0 }

noncomputable def T_spec_CodeOk_lp0_m (N : Nat) {R : Type} (n : Nat) (st : St) (K : Ex → St → Option R) : Option R := loopN (roundG (T_spec_CodeOk_ann 100006) fun st k => sx tab (T_spec_CodeOk_ctx N) T_spec_CodeOk_ann N (nthLoop Try.f129 0) st k) n st K

theorem T_spec_CodeOk_lp0_step (N : Nat) {R : Type} (n : Nat) (K : Ex → St → Option R) (code2 : List (Int × Int × Int × Int)) (d3 : Int) (forks4 : Int) (i5 : Int) :
    T_spec_CodeOk_lp0_m N (n + 1) (T_spec_CodeOk_lp0_sh code2 d3 forks4 i5) K =
    (bif decide (i5 < (ilen code2)) then
    (bif inb i5 (List.length code2) then
      ((T_spec_OpOk N (List.getD code2 (Int.toNat i5) ((0 : Int), ((0 : Int), ((0 : Int), (0 : Int)))))).bind fun o12 =>
        (bif !o12.2.1 then
          (K .ret (T_spec_CodeOk_lp0_e0 code2))
          else
          (bif inb i5 (List.length code2) then
            (bif (List.getD code2 (Int.toNat i5) ((0 : Int), ((0 : Int), ((0 : Int), (0 : Int))))).1 == (8 : Int) then
              (bif decide ((iadd .i64 d3 (1 : Int)) < (0 : Int)) then
                (K .ret (T_spec_CodeOk_lp0_e0 code2))
                else
                (T_spec_CodeOk_lp0_m N n (T_spec_CodeOk_lp0_sh code2 (iadd .i64 d3 (1 : Int)) forks4 (iadd .i64 i5 (1 : Int))) K))
              else
              (bif (List.getD code2 (Int.toNat i5) ((0 : Int), ((0 : Int), ((0 : Int), (0 : Int))))).1 == (9 : Int) then
                (bif decide ((isub .i64 d3 (1 : Int)) < (0 : Int)) then
                  (K .ret (T_spec_CodeOk_lp0_e0 code2))
                  else
                  (T_spec_CodeOk_lp0_m N n (T_spec_CodeOk_lp0_sh code2 (isub .i64 d3 (1 : Int)) forks4 (iadd .i64 i5 (1 : Int))) K))
                else
                (bif (List.getD code2 (Int.toNat i5) ((0 : Int), ((0 : Int), ((0 : Int), (0 : Int))))).1 == (7 : Int) then
                  ((T_spec_l5Skip N code2 i5).bind fun o13 =>
                    (bif !o13.2.1 then
                      (K .ret (T_spec_CodeOk_lp0_e0 code2))
                      else
                      (bif decide (d3 < (0 : Int)) then
                        (K .ret (T_spec_CodeOk_lp0_e0 code2))
                        else
                        (T_spec_CodeOk_lp0_m N n (T_spec_CodeOk_lp0_sh code2 d3 forks4 (iadd .i64 i5 (1 : Int))) K))))
                  else
                  (bif (List.getD code2 (Int.toNat i5) ((0 : Int), ((0 : Int), ((0 : Int), (0 : Int))))).1 == (11 : Int) then
                    (bif decide (d3 > (0 : Int)) then
                      (K .ret (T_spec_CodeOk_lp0_e0 code2))
                      else
                      (bif decide ((iadd .i64 forks4 (1 : Int)) > (1 : Int)) then
                        (K .ret (T_spec_CodeOk_lp0_e0 code2))
                        else
                        (bif decide (d3 < (0 : Int)) then
                          (K .ret (T_spec_CodeOk_lp0_e0 code2))
                          else
                          (T_spec_CodeOk_lp0_m N n (T_spec_CodeOk_lp0_sh code2 d3 (iadd .i64 forks4 (1 : Int)) (iadd .i64 i5 (1 : Int))) K))))
                    else
                    (bif decide (d3 < (0 : Int)) then
                      (K .ret (T_spec_CodeOk_lp0_e0 code2))
                      else
                      (T_spec_CodeOk_lp0_m N n (T_spec_CodeOk_lp0_sh code2 d3 forks4 (iadd .i64 i5 (1 : Int))) K)))))) else none))) else none)
    else
    (K (.exit 0) (T_spec_CodeOk_lp0_e1 code2 d3 forks4 i5 (decide (i5 < (ilen code2)))))) := by kernel_rfl

theorem T_spec_CodeOk_lp0_eq (N : Nat) {R : Type} (code2 : List (Int × Int × Int × Int)) (K : Ex → St → Option R) : ∀ (n : Nat) (d3 : Int) (forks4 : Int) (i5 : Int), T_spec_CodeOk_lp0_m N n (T_spec_CodeOk_lp0_sh code2 d3 forks4 i5) K = T_spec_CodeOk_lp0 N code2 (K .ret (T_spec_CodeOk_lp0_e0 code2)) (fun d8 forks9 i10 t11 => (K (.exit 0) (T_spec_CodeOk_lp0_e1 code2 d8 forks9 i10 t11))) n d3 forks4 i5
  | 0, _, _, _ => rfl
  | n + 1, d3, forks4, i5 => by rw [T_spec_CodeOk_lp0_step, T_spec_CodeOk_lp0]; (try simp only [T_spec_CodeOk_lp0_eq N code2 K n])

theorem T_spec_CodeOk_c1 (N : Nat) (code1 : List (Int × Int × Int × Int)) :
    ((ctxK (R := ODen (T_spec_CodeOk_sg N).ps × RDen (T_spec_CodeOk_sg N).rs) tab (T_spec_CodeOk_ctx N) T_spec_CodeOk_ann N (theCode Try.f129) [1, 1, 1, 1, 0, 1, 0] (retK tab (T_spec_CodeOk_sg N) Try.f129.results.toList some)) .ret (T_spec_CodeOk_lp0_e0 code1)) =
    (some (α := ODen (T_spec_CodeOk_sg N).ps × RDen (T_spec_CodeOk_sg N).rs) ((), (false, ()))) := by kernel_rfl

theorem T_spec_CodeOk_c2 (N : Nat) (code1 : List (Int × Int × Int × Int)) (d14 : Int) (forks15 : Int) (i16 : Int) (t17 : Bool) :
    ((ctxK (R := ODen (T_spec_CodeOk_sg N).ps × RDen (T_spec_CodeOk_sg N).rs) tab (T_spec_CodeOk_ctx N) T_spec_CodeOk_ann N (theCode Try.f129) [1, 1, 1, 1, 0, 1, 0] (retK tab (T_spec_CodeOk_sg N) Try.f129.results.toList some)) (.exit 0) (T_spec_CodeOk_lp0_e1 code1 d14 forks15 i16 t17)) =
    (some (α := ODen (T_spec_CodeOk_sg N).ps × RDen (T_spec_CodeOk_sg N).rs) ((), (d14 == (0 : Int), ()))) := by kernel_rfl

theorem T_spec_CodeOk_den (N : Nat) (code1 : List (Int × Int × Int × Int)) :
    den (R := ODen (T_spec_CodeOk_sg N).ps × RDen (T_spec_CodeOk_sg N).rs) tab (T_spec_CodeOk_ctx N) T_spec_CodeOk_ann N (T_spec_CodeOk_sg N) Try.f129 (code1, ()) some =
    (bif decide ((ilen code1) > (24 : Int)) then
    (some (α := ODen (T_spec_CodeOk_sg N).ps × RDen (T_spec_CodeOk_sg N).rs) ((), (false, ())))
    else
    (T_spec_CodeOk_lp0 N code1
      (some (α := ODen (T_spec_CodeOk_sg N).ps × RDen (T_spec_CodeOk_sg N).rs) ((), (false, ())))
      (fun d14 forks15 i16 t17 =>
        (some (α := ODen (T_spec_CodeOk_sg N).ps × RDen (T_spec_CodeOk_sg N).rs) ((), (d14 == (0 : Int), ()))))
       N (0 : Int) (0 : Int) (0 : Int))) := by
  have h : den (R := ODen (T_spec_CodeOk_sg N).ps × RDen (T_spec_CodeOk_sg N).rs) tab (T_spec_CodeOk_ctx N) T_spec_CodeOk_ann N (T_spec_CodeOk_sg N) Try.f129 (code1, ()) some =
    (bif decide ((ilen code1) > (24 : Int)) then
    (some (α := ODen (T_spec_CodeOk_sg N).ps × RDen (T_spec_CodeOk_sg N).rs) ((), (false, ())))
    else
    (T_spec_CodeOk_lp0_m N N (T_spec_CodeOk_lp0_sh code1 (0 : Int) (0 : Int) (0 : Int)) (ctxK (R := ODen (T_spec_CodeOk_sg N).ps × RDen (T_spec_CodeOk_sg N).rs) tab (T_spec_CodeOk_ctx N) T_spec_CodeOk_ann N (theCode Try.f129) [1, 1, 1, 1, 0, 1, 0] (retK tab (T_spec_CodeOk_sg N) Try.f129.results.toList some)))) := by kernel_rfl
  rw [h]
  (try simp only [T_spec_CodeOk_lp0_eq, T_spec_CodeOk_c1, T_spec_CodeOk_c2]) <;> rfl

theorem T_spec_CodeOk_ok (N : Nat) : chkBody Try.f129 (T_spec_CodeOk_sg N).ps = true := by kernel_rfl

theorem T_spec_CodeOk_callable : Callable Try.prog 129 := callable_of Try.func129 (show chkFn Try.f129 = true by kernel_rfl)

theorem T_spec_CodeOk_good (N : Nat) : Good Try.prog 129 (T_spec_CodeOk_sg N) :=
  good_body mixedOk tabOk (ctx_cons (T_spec_OpOk_good N) T_spec_OpOk_callable (ctx_cons (T_spec_l5Skip_good N) T_spec_l5Skip_callable ctx_nil)) Try.func129 (T_spec_CodeOk_ok N) (fun d _ h => ⟨N, (T_spec_CodeOk_den N d.1).trans h⟩)

noncomputable def T_spec_HasFork_sg (N : Nat) : Sig := Sig.of [.v (.slice (.prod (.int .i64) (.prod (.int .i64) (.prod (.int .i64) (.int .i64))))) false] [.v (.bool) false] (fun d => T_spec_HasFork N d.1)

def T_spec_HasFork_ann : Nat → List Ghost
  | 2 => [.canon [0, 3, 7]]
  | 3 => [.canon [0, 3]]
  | 4 => [.canon [0, 3, 15]]
  | 5 => [.canon [2]]
  | 100002 => [.canon [0, 3]]
  | _ => []

noncomputable def T_spec_HasFork_ctx (N : Nat) : Ctx := []

def T_spec_HasFork_lp0_sh (code2 : List (Int × Int × Int × Int)) (i3 : Int) : St := { env := [(0, .s (.one (.val (.slice (.prod (.int .i64) (.prod (.int .i64) (.prod (.int .i64) (.int .i64))))) (code2 : List (Int × Int × Int × Int))))), (3, .s (.one (.val (.int .i64) (i3 : Int))))], objs := [], nx := 0 }

def T_spec_HasFork_lp0_e0 (code2 : List (Int × Int × Int × Int)) : St := { env := [(2, .s (.one (.val (.bool) (true : Bool))))], objs := [], nx := 0 }

def T_spec_HasFork_lp0_e1 (code2 : List (Int × Int × Int × Int)) (i4 : Int) (t5 : Bool) : St := { env := [(0, .s (.one (.val (.slice (.prod (.int .i64) (.prod (.int .i64) (.prod (.int .i64) (.int .i64))))) (code2 : List (Int × Int × Int × Int))))), (3, .s (.one (.val (.int .i64) (i4 : Int)))), (7, .s (.one (.val (.bool) (t5 : Bool))))], objs := [], nx := 0 }

noncomputable def T_spec_HasFork_lp0_m (N : Nat) {R : Type} (n : Nat) (st : St) (K : Ex → St → Option R) : Option R := loopN (roundG (T_spec_HasFork_ann 100002) fun st k => sx tab (T_spec_HasFork_ctx N) T_spec_HasFork_ann N (nthLoop Try.f130 0) st k) n st K

theorem T_spec_HasFork_lp0_step (N : Nat) {R : Type} (n : Nat) (K : Ex → St → Option R) (code2 : List (Int × Int × Int × Int)) (i3 : Int) :
    T_spec_HasFork_lp0_m N (n + 1) (T_spec_HasFork_lp0_sh code2 i3) K =
    (bif decide (i3 < (ilen code2)) then
    (bif inb i3 (List.length code2) then
      (bif (List.getD code2 (Int.toNat i3) ((0 : Int), ((0 : Int), ((0 : Int), (0 : Int))))).1 == (11 : Int) then
        (K .ret (T_spec_HasFork_lp0_e0 code2))
        else
        (T_spec_HasFork_lp0_m N n (T_spec_HasFork_lp0_sh code2 (iadd .i64 i3 (1 : Int))) K)) else none)
    else
    (K (.exit 0) (T_spec_HasFork_lp0_e1 code2 i3 (decide (i3 < (ilen code2)))))) := by kernel_rfl

theorem T_spec_HasFork_lp0_eq (N : Nat) {R : Type} (code2 : List (Int × Int × Int × Int)) (K : Ex → St → Option R) : ∀ (n : Nat) (i3 : Int), T_spec_HasFork_lp0_m N n (T_spec_HasFork_lp0_sh code2 i3) K = T_spec_HasFork_lp0 N code2 (K .ret (T_spec_HasFork_lp0_e0 code2)) (fun i4 t5 => (K (.exit 0) (T_spec_HasFork_lp0_e1 code2 i4 t5))) n i3
  | 0, _ => rfl
  | n + 1, i3 => by rw [T_spec_HasFork_lp0_step, T_spec_HasFork_lp0]; (try simp only [T_spec_HasFork_lp0_eq N code2 K n])

theorem T_spec_HasFork_c1 (N : Nat) (code1 : List (Int × Int × Int × Int)) :
    ((ctxK (R := ODen (T_spec_HasFork_sg N).ps × RDen (T_spec_HasFork_sg N).rs) tab (T_spec_HasFork_ctx N) T_spec_HasFork_ann N (theCode Try.f130) [1, 0, 1, 0] (retK tab (T_spec_HasFork_sg N) Try.f130.results.toList some)) .ret (T_spec_HasFork_lp0_e0 code1)) =
    (some (α := ODen (T_spec_HasFork_sg N).ps × RDen (T_spec_HasFork_sg N).rs) ((), (true, ()))) := by kernel_rfl

theorem T_spec_HasFork_c2 (N : Nat) (code1 : List (Int × Int × Int × Int)) (i6 : Int) (t7 : Bool) :
    ((ctxK (R := ODen (T_spec_HasFork_sg N).ps × RDen (T_spec_HasFork_sg N).rs) tab (T_spec_HasFork_ctx N) T_spec_HasFork_ann N (theCode Try.f130) [1, 0, 1, 0] (retK tab (T_spec_HasFork_sg N) Try.f130.results.toList some)) (.exit 0) (T_spec_HasFork_lp0_e1 code1 i6 t7)) =
    (some (α := ODen (T_spec_HasFork_sg N).ps × RDen (T_spec_HasFork_sg N).rs) ((), (false, ()))) := by kernel_rfl

theorem T_spec_HasFork_den (N : Nat) (code1 : List (Int × Int × Int × Int)) :
    den (R := ODen (T_spec_HasFork_sg N).ps × RDen (T_spec_HasFork_sg N).rs) tab (T_spec_HasFork_ctx N) T_spec_HasFork_ann N (T_spec_HasFork_sg N) Try.f130 (code1, ()) some =
    (T_spec_HasFork_lp0 N code1
    (some (α := ODen (T_spec_HasFork_sg N).ps × RDen (T_spec_HasFork_sg N).rs) ((), (true, ())))
    (fun i6 t7 =>
      (some (α := ODen (T_spec_HasFork_sg N).ps × RDen (T_spec_HasFork_sg N).rs) ((), (false, ()))))
     N (0 : Int)) := by
  have h : den (R := ODen (T_spec_HasFork_sg N).ps × RDen (T_spec_HasFork_sg N).rs) tab (T_spec_HasFork_ctx N) T_spec_HasFork_ann N (T_spec_HasFork_sg N) Try.f130 (code1, ()) some =
    (T_spec_HasFork_lp0_m N N (T_spec_HasFork_lp0_sh code1 (0 : Int)) (ctxK (R := ODen (T_spec_HasFork_sg N).ps × RDen (T_spec_HasFork_sg N).rs) tab (T_spec_HasFork_ctx N) T_spec_HasFork_ann N (theCode Try.f130) [1, 0, 1, 0] (retK tab (T_spec_HasFork_sg N) Try.f130.results.toList some))) := by kernel_rfl
  rw [h]
  (try simp only [T_spec_HasFork_lp0_eq, T_spec_HasFork_c1, T_spec_HasFork_c2]) <;> rfl

theorem T_spec_HasFork_ok (N : Nat) : chkBody Try.f130 (T_spec_HasFork_sg N).ps = true := by kernel_rfl

theorem T_spec_HasFork_callable : Callable Try.prog 130 := callable_of Try.func130 (show chkFn Try.f130 = true by kernel_rfl)

theorem T_spec_HasFork_good (N : Nat) : Good Try.prog 130 (T_spec_HasFork_sg N) :=
  good_body mixedOk tabOk ctx_nil Try.func130 (T_spec_HasFork_ok N) (fun d _ h => ⟨N, (T_spec_HasFork_den N d.1).trans h⟩)

noncomputable def T_spec_Touches_sg (N : Nat) : Sig := Sig.of [.v (.prod (.int .i64) (.prod (.int .i64) (.prod (.int .i64) (.int .i64)))) true] [.v (.int .i64) false] (fun d => T_spec_Touches N d.1)

def T_spec_Touches_ann : Nat → List Ghost
  | _ => []

noncomputable def T_spec_Touches_ctx (N : Nat) : Ctx := [(163, T_spec_OpOk_sg N)]

theorem T_spec_Touches_den (N : Nat) (o1 : Int × Int × Int × Int) :
    den (R := ODen (T_spec_Touches_sg N).ps × RDen (T_spec_Touches_sg N).rs) tab (T_spec_Touches_ctx N) T_spec_Touches_ann N (T_spec_Touches_sg N) Try.f131 (o1, ()) some =
    ((T_spec_OpOk N o1).bind fun o2 =>
    (bif !o2.2.1 then
      (some (α := ODen (T_spec_Touches_sg N).ps × RDen (T_spec_Touches_sg N).rs) ((), ((0 : Int), ())))
      else
      (bif o1.1 == (5 : Int) then
        (bif o1.1 == (5 : Int) then
          (some (α := ODen (T_spec_Touches_sg N).ps × RDen (T_spec_Touches_sg N).rs) ((), ((1 : Int), ())))
          else
          (bif o1.1 == (12 : Int) then
            (bif o1.1 == (12 : Int) then
              (some (α := ODen (T_spec_Touches_sg N).ps × RDen (T_spec_Touches_sg N).rs) ((), ((2 : Int), ())))
              else
              (some (α := ODen (T_spec_Touches_sg N).ps × RDen (T_spec_Touches_sg N).rs) ((), ((0 : Int), ()))))
            else
            (bif o1.1 == (13 : Int) then
              (bif o1.1 == (13 : Int) then
                (some (α := ODen (T_spec_Touches_sg N).ps × RDen (T_spec_Touches_sg N).rs) ((), ((2 : Int), ())))
                else
                (some (α := ODen (T_spec_Touches_sg N).ps × RDen (T_spec_Touches_sg N).rs) ((), ((0 : Int), ()))))
              else
              (bif o1.1 == (14 : Int) then
                (bif o1.1 == (14 : Int) then
                  (some (α := ODen (T_spec_Touches_sg N).ps × RDen (T_spec_Touches_sg N).rs) ((), ((2 : Int), ())))
                  else
                  (some (α := ODen (T_spec_Touches_sg N).ps × RDen (T_spec_Touches_sg N).rs) ((), ((0 : Int), ()))))
                else
                (bif o1.1 == (15 : Int) then
                  (bif o1.1 == (15 : Int) then
                    (some (α := ODen (T_spec_Touches_sg N).ps × RDen (T_spec_Touches_sg N).rs) ((), ((2 : Int), ())))
                    else
                    (some (α := ODen (T_spec_Touches_sg N).ps × RDen (T_spec_Touches_sg N).rs) ((), ((0 : Int), ()))))
                  else
                  (bif o1.1 == (16 : Int) then
                    (some (α := ODen (T_spec_Touches_sg N).ps × RDen (T_spec_Touches_sg N).rs) ((), ((2 : Int), ())))
                    else
                    (some (α := ODen (T_spec_Touches_sg N).ps × RDen (T_spec_Touches_sg N).rs) ((), ((0 : Int), ())))))))))
        else
        (bif o1.1 == (6 : Int) then
          (some (α := ODen (T_spec_Touches_sg N).ps × RDen (T_spec_Touches_sg N).rs) ((), ((1 : Int), ())))
          else
          (bif o1.1 == (12 : Int) then
            (bif o1.1 == (12 : Int) then
              (some (α := ODen (T_spec_Touches_sg N).ps × RDen (T_spec_Touches_sg N).rs) ((), ((2 : Int), ())))
              else
              (some (α := ODen (T_spec_Touches_sg N).ps × RDen (T_spec_Touches_sg N).rs) ((), ((0 : Int), ()))))
            else
            (bif o1.1 == (13 : Int) then
              (bif o1.1 == (13 : Int) then
                (some (α := ODen (T_spec_Touches_sg N).ps × RDen (T_spec_Touches_sg N).rs) ((), ((2 : Int), ())))
                else
                (some (α := ODen (T_spec_Touches_sg N).ps × RDen (T_spec_Touches_sg N).rs) ((), ((0 : Int), ()))))
              else
              (bif o1.1 == (14 : Int) then
                (bif o1.1 == (14 : Int) then
                  (some (α := ODen (T_spec_Touches_sg N).ps × RDen (T_spec_Touches_sg N).rs) ((), ((2 : Int), ())))
                  else
                  (some (α := ODen (T_spec_Touches_sg N).ps × RDen (T_spec_Touches_sg N).rs) ((), ((0 : Int), ()))))
                else
                (bif o1.1 == (15 : Int) then
                  (bif o1.1 == (15 : Int) then
                    (some (α := ODen (T_spec_Touches_sg N).ps × RDen (T_spec_Touches_sg N).rs) ((), ((2 : Int), ())))
                    else
                    (some (α := ODen (T_spec_Touches_sg N).ps × RDen (T_spec_Touches_sg N).rs) ((), ((0 : Int), ()))))
                  else
                  (bif o1.1 == (16 : Int) then
                    (some (α := ODen (T_spec_Touches_sg N).ps × RDen (T_spec_Touches_sg N).rs) ((), ((2 : Int), ())))
                    else
                    (some (α := ODen (T_spec_Touches_sg N).ps × RDen (T_spec_Touches_sg N).rs) ((), ((0 : Int), ())))))))))))) := by kernel_rfl

theorem T_spec_Touches_ok (N : Nat) : chkBody Try.f131 (T_spec_Touches_sg N).ps = true := by kernel_rfl

theorem T_spec_Touches_callable : Callable Try.prog 131 := callable_of Try.func131 (show chkFn Try.f131 = true by kernel_rfl)

theorem T_spec_Touches_good (N : Nat) : Good Try.prog 131 (T_spec_Touches_sg N) :=
  good_body mixedOk tabOk (ctx_cons (T_spec_OpOk_good N) T_spec_OpOk_callable ctx_nil) Try.func131 (T_spec_Touches_ok N) (fun d _ h => ⟨N, (T_spec_Touches_den N d.1).trans h⟩)

noncomputable def T_spec_KidOk_sg (N : Nat) : Sig := Sig.of [.v (.slice (.prod (.int .i64) (.prod (.int .i64) (.prod (.int .i64) (.int .i64))))) false] [.v (.bool) false] (fun d => T_spec_KidOk N d.1)

def T_spec_KidOk_ann : Nat → List Ghost
  | 4 => [.canon [0, 3, 14]]
  | 5 => [.canon [0, 3]]
  | 6 => [.canon [0, 3, 22]]
  | 7 => [.canon [2]]
  | 100004 => [.canon [0, 3]]
  | _ => []

noncomputable def T_spec_KidOk_ctx (N : Nat) : Ctx := [(129, T_spec_CodeOk_sg N), (130, T_spec_HasFork_sg N), (131, T_spec_Touches_sg N)]

def T_spec_KidOk_lp0_sh (code4 : List (Int × Int × Int × Int)) (i5 : Int) : St := { env := [(0, .s (.one (.val (.slice (.prod (.int .i64) (.prod (.int .i64) (.prod (.int .i64) (.int .i64))))) (code4 : List (Int × Int × Int × Int))))), (3, .s (.one (.val (.int .i64) (i5 : Int))))], objs := [], nx := 0 }

def T_spec_KidOk_lp0_e0 (code4 : List (Int × Int × Int × Int)) : St := { env := [(2, .s (.one (.val (.bool) (false : Bool))))], objs := [], nx := 0 }

def T_spec_KidOk_lp0_e1 (code4 : List (Int × Int × Int × Int)) (i7 : Int) (t8 : Bool) : St := { env := [(0, .s (.one (.val (.slice (.prod (.int .i64) (.prod (.int .i64) (.prod (.int .i64) (.int .i64))))) (code4 : List (Int × Int × Int × Int))))), (3, .s (.one (.val (.int .i64) (i7 : Int)))), (14, .s (.one (.val (.bool) (t8 : Bool))))], objs := [], nx := 0 }

noncomputable def T_spec_KidOk_lp0_m (N : Nat) {R : Type} (n : Nat) (st : St) (K : Ex → St → Option R) : Option R := loopN (roundG (T_spec_KidOk_ann 100004) fun st k => sx tab (T_spec_KidOk_ctx N) T_spec_KidOk_ann N (nthLoop Try.f68 0) st k) n st K

theorem T_spec_KidOk_lp0_step (N : Nat) {R : Type} (n : Nat) (K : Ex → St → Option R) (code4 : List (Int × Int × Int × Int)) (i5 : Int) :
    T_spec_KidOk_lp0_m N (n + 1) (T_spec_KidOk_lp0_sh code4 i5) K =
    (bif decide (i5 < (ilen code4)) then
    (bif inb i5 (List.length code4) then
      ((T_spec_Touches N (List.getD code4 (Int.toNat i5) ((0 : Int), ((0 : Int), ((0 : Int), (0 : Int)))))).bind fun o9 =>
        (bif o9.2.1 == (2 : Int) then
          (K .ret (T_spec_KidOk_lp0_e0 code4))
          else
          (T_spec_KidOk_lp0_m N n (T_spec_KidOk_lp0_sh code4 (iadd .i64 i5 (1 : Int))) K))) else none)
    else
    (K (.exit 0) (T_spec_KidOk_lp0_e1 code4 i5 (decide (i5 < (ilen code4)))))) := by kernel_rfl

theorem T_spec_KidOk_lp0_eq (N : Nat) {R : Type} (code4 : List (Int × Int × Int × Int)) (K : Ex → St → Option R) : ∀ (n : Nat) (i5 : Int), T_spec_KidOk_lp0_m N n (T_spec_KidOk_lp0_sh code4 i5) K = T_spec_KidOk_lp0 N code4 (K .ret (T_spec_KidOk_lp0_e0 code4)) (fun i7 t8 => (K (.exit 0) (T_spec_KidOk_lp0_e1 code4 i7 t8))) n i5
  | 0, _ => rfl
  | n + 1, i5 => by rw [T_spec_KidOk_lp0_step, T_spec_KidOk_lp0]; (try simp only [T_spec_KidOk_lp0_eq N code4 K n])

theorem T_spec_KidOk_c1 (N : Nat) (code1 : List (Int × Int × Int × Int)) :
    ((ctxK (R := ODen (T_spec_KidOk_sg N).ps × RDen (T_spec_KidOk_sg N).rs) tab (T_spec_KidOk_ctx N) T_spec_KidOk_ann N (theCode Try.f68) [1, 1, 0, 1, 0] (retK tab (T_spec_KidOk_sg N) Try.f68.results.toList some)) .ret (T_spec_KidOk_lp0_e0 code1)) =
    (some (α := ODen (T_spec_KidOk_sg N).ps × RDen (T_spec_KidOk_sg N).rs) ((), (false, ()))) := by kernel_rfl

theorem T_spec_KidOk_c2 (N : Nat) (code1 : List (Int × Int × Int × Int)) (i10 : Int) (t11 : Bool) :
    ((ctxK (R := ODen (T_spec_KidOk_sg N).ps × RDen (T_spec_KidOk_sg N).rs) tab (T_spec_KidOk_ctx N) T_spec_KidOk_ann N (theCode Try.f68) [1, 1, 0, 1, 0] (retK tab (T_spec_KidOk_sg N) Try.f68.results.toList some)) (.exit 0) (T_spec_KidOk_lp0_e1 code1 i10 t11)) =
    (some (α := ODen (T_spec_KidOk_sg N).ps × RDen (T_spec_KidOk_sg N).rs) ((), (true, ()))) := by kernel_rfl

theorem T_spec_KidOk_den (N : Nat) (code1 : List (Int × Int × Int × Int)) :
    den (R := ODen (T_spec_KidOk_sg N).ps × RDen (T_spec_KidOk_sg N).rs) tab (T_spec_KidOk_ctx N) T_spec_KidOk_ann N (T_spec_KidOk_sg N) Try.f68 (code1, ()) some =
    ((T_spec_CodeOk N code1).bind fun o2 =>
    (bif !o2.2.1 then
      (some (α := ODen (T_spec_KidOk_sg N).ps × RDen (T_spec_KidOk_sg N).rs) ((), (false, ())))
      else
      ((T_spec_HasFork N code1).bind fun o3 =>
        (bif o3.2.1 then
          (some (α := ODen (T_spec_KidOk_sg N).ps × RDen (T_spec_KidOk_sg N).rs) ((), (false, ())))
          else
          (T_spec_KidOk_lp0 N code1
            (some (α := ODen (T_spec_KidOk_sg N).ps × RDen (T_spec_KidOk_sg N).rs) ((), (false, ())))
            (fun i10 t11 =>
              (some (α := ODen (T_spec_KidOk_sg N).ps × RDen (T_spec_KidOk_sg N).rs) ((), (true, ()))))
             N (0 : Int)))))) := by
  have h : den (R := ODen (T_spec_KidOk_sg N).ps × RDen (T_spec_KidOk_sg N).rs) tab (T_spec_KidOk_ctx N) T_spec_KidOk_ann N (T_spec_KidOk_sg N) Try.f68 (code1, ()) some =
    ((T_spec_CodeOk N code1).bind fun o2 =>
    (bif !o2.2.1 then
      (some (α := ODen (T_spec_KidOk_sg N).ps × RDen (T_spec_KidOk_sg N).rs) ((), (false, ())))
      else
      ((T_spec_HasFork N code1).bind fun o3 =>
        (bif o3.2.1 then
          (some (α := ODen (T_spec_KidOk_sg N).ps × RDen (T_spec_KidOk_sg N).rs) ((), (false, ())))
          else
          (T_spec_KidOk_lp0_m N N (T_spec_KidOk_lp0_sh code1 (0 : Int)) (ctxK (R := ODen (T_spec_KidOk_sg N).ps × RDen (T_spec_KidOk_sg N).rs) tab (T_spec_KidOk_ctx N) T_spec_KidOk_ann N (theCode Try.f68) [1, 1, 0, 1, 0] (retK tab (T_spec_KidOk_sg N) Try.f68.results.toList some))))))) := by kernel_rfl
  rw [h]
  (try simp only [T_spec_KidOk_lp0_eq, T_spec_KidOk_c1, T_spec_KidOk_c2]) <;> rfl

theorem T_spec_KidOk_ok (N : Nat) : chkBody Try.f68 (T_spec_KidOk_sg N).ps = true := by kernel_rfl

theorem T_spec_KidOk_callable : Callable Try.prog 68 := callable_of Try.func68 (show chkFn Try.f68 = true by kernel_rfl)

theorem T_spec_KidOk_good (N : Nat) : Good Try.prog 68 (T_spec_KidOk_sg N) :=
  good_body mixedOk tabOk (ctx_cons (T_spec_CodeOk_good N) T_spec_CodeOk_callable (ctx_cons (T_spec_HasFork_good N) T_spec_HasFork_callable (ctx_cons (T_spec_Touches_good N) T_spec_Touches_callable ctx_nil))) Try.func68 (T_spec_KidOk_ok N) (fun d _ h => ⟨N, (T_spec_KidOk_den N d.1).trans h⟩)

noncomputable def T_spec_AltsOk_sg (N : Nat) : Sig := Sig.of [.v (.slice (.slice (.prod (.int .i64) (.prod (.int .i64) (.prod (.int .i64) (.int .i64)))))) false, .v (.slice (.int .i64)) false, .v (.slice (.int .i64)) false] [.v (.bool) false] (fun d => T_spec_AltsOk N d.1 d.2.1 d.2.2.1)

def T_spec_AltsOk_ann : Nat → List Ghost
  | 4 => [.canon [0, 7, 24]]
  | 5 => [.canon [0, 7]]
  | 6 => [.canon [0, 7, 33]]
  | 7 => [.canon [6]]
  | 100004 => [.canon [0, 7]]
  | _ => []

noncomputable def T_spec_AltsOk_ctx (N : Nat) : Ctx := [(66, T_spec_l4Regs_sg N), (67, T_spec_l3Vals_sg N), (68, T_spec_KidOk_sg N)]

def T_spec_AltsOk_lp0_sh (l6 : List (List (Int × Int × Int × Int))) (i7 : Int) : St := { env := [(0, .s (.one (.val (.slice (.slice (.prod (.int .i64) (.prod (.int .i64) (.prod (.int .i64) (.int .i64)))))) (l6 : List (List (Int × Int × Int × Int)))))), (7, .s (.one (.val (.int .i64) (i7 : Int))))], objs := [], nx := 0 }

def T_spec_AltsOk_lp0_e0 (l6 : List (List (Int × Int × Int × Int))) : St := { env := [(6, .s (.one (.val (.bool) (false : Bool))))], objs := [], nx := 0 }

def T_spec_AltsOk_lp0_e1 (l6 : List (List (Int × Int × Int × Int))) (i9 : Int) (t10 : Bool) : St := { env := [(0, .s (.one (.val (.slice (.slice (.prod (.int .i64) (.prod (.int .i64) (.prod (.int .i64) (.int .i64)))))) (l6 : List (List (Int × Int × Int × Int)))))), (7, .s (.one (.val (.int .i64) (i9 : Int)))), (24, .s (.one (.val (.bool) (t10 : Bool))))], objs := [], nx := 0 }

noncomputable def T_spec_AltsOk_lp0_m (N : Nat) {R : Type} (n : Nat) (st : St) (K : Ex → St → Option R) : Option R := loopN (roundG (T_spec_AltsOk_ann 100004) fun st k => sx tab (T_spec_AltsOk_ctx N) T_spec_AltsOk_ann N (nthLoop Try.f18 0) st k) n st K

theorem T_spec_AltsOk_lp0_step (N : Nat) {R : Type} (n : Nat) (K : Ex → St → Option R) (l6 : List (List (Int × Int × Int × Int))) (i7 : Int) :
    T_spec_AltsOk_lp0_m N (n + 1) (T_spec_AltsOk_lp0_sh l6 i7) K =
    (bif decide (i7 < (ilen l6)) then
    (bif inb i7 (List.length l6) then
      ((T_spec_KidOk N (List.getD l6 (Int.toNat i7) ([] : List (Int × Int × Int × Int)))).bind fun o11 =>
        (bif !o11.2.1 then
          (K .ret (T_spec_AltsOk_lp0_e0 l6))
          else
          (T_spec_AltsOk_lp0_m N n (T_spec_AltsOk_lp0_sh l6 (iadd .i64 i7 (1 : Int))) K))) else none)
    else
    (K (.exit 0) (T_spec_AltsOk_lp0_e1 l6 i7 (decide (i7 < (ilen l6)))))) := by kernel_rfl

theorem T_spec_AltsOk_lp0_eq (N : Nat) {R : Type} (l6 : List (List (Int × Int × Int × Int))) (K : Ex → St → Option R) : ∀ (n : Nat) (i7 : Int), T_spec_AltsOk_lp0_m N n (T_spec_AltsOk_lp0_sh l6 i7) K = T_spec_AltsOk_lp0 N l6 (K .ret (T_spec_AltsOk_lp0_e0 l6)) (fun i9 t10 => (K (.exit 0) (T_spec_AltsOk_lp0_e1 l6 i9 t10))) n i7
  | 0, _ => rfl
  | n + 1, i7 => by rw [T_spec_AltsOk_lp0_step, T_spec_AltsOk_lp0]; (try simp only [T_spec_AltsOk_lp0_eq N l6 K n])

theorem T_spec_AltsOk_c1 (N : Nat) (l1 : List (List (Int × Int × Int × Int))) :
    ((ctxK (R := ODen (T_spec_AltsOk_sg N).ps × RDen (T_spec_AltsOk_sg N).rs) tab (T_spec_AltsOk_ctx N) T_spec_AltsOk_ann N (theCode Try.f18) [1, 1, 0, 1, 0] (retK tab (T_spec_AltsOk_sg N) Try.f18.results.toList some)) .ret (T_spec_AltsOk_lp0_e0 l1)) =
    (some (α := ODen (T_spec_AltsOk_sg N).ps × RDen (T_spec_AltsOk_sg N).rs) ((), (false, ()))) := by kernel_rfl

theorem T_spec_AltsOk_c2 (N : Nat) (l1 : List (List (Int × Int × Int × Int))) (i12 : Int) (t13 : Bool) :
    ((ctxK (R := ODen (T_spec_AltsOk_sg N).ps × RDen (T_spec_AltsOk_sg N).rs) tab (T_spec_AltsOk_ctx N) T_spec_AltsOk_ann N (theCode Try.f18) [1, 1, 0, 1, 0] (retK tab (T_spec_AltsOk_sg N) Try.f18.results.toList some)) (.exit 0) (T_spec_AltsOk_lp0_e1 l1 i12 t13)) =
    (some (α := ODen (T_spec_AltsOk_sg N).ps × RDen (T_spec_AltsOk_sg N).rs) ((), (true, ()))) := by kernel_rfl

theorem T_spec_AltsOk_den (N : Nat) (l1 : List (List (Int × Int × Int × Int))) (regs2 : List Int) (cells3 : List Int) :
    den (R := ODen (T_spec_AltsOk_sg N).ps × RDen (T_spec_AltsOk_sg N).rs) tab (T_spec_AltsOk_ctx N) T_spec_AltsOk_ann N (T_spec_AltsOk_sg N) Try.f18 (l1, regs2, cells3, ()) some =
    (bif decide ((ilen l1) > (4 : Int)) then
    (some (α := ODen (T_spec_AltsOk_sg N).ps × RDen (T_spec_AltsOk_sg N).rs) ((), (false, ())))
    else
    ((T_spec_l4Regs N regs2).bind fun o4 =>
      (bif !o4.2.1 then
        (some (α := ODen (T_spec_AltsOk_sg N).ps × RDen (T_spec_AltsOk_sg N).rs) ((), (false, ())))
        else
        ((T_spec_l3Vals N cells3).bind fun o5 =>
          (bif !o5.2.1 then
            (some (α := ODen (T_spec_AltsOk_sg N).ps × RDen (T_spec_AltsOk_sg N).rs) ((), (false, ())))
            else
            (T_spec_AltsOk_lp0 N l1
              (some (α := ODen (T_spec_AltsOk_sg N).ps × RDen (T_spec_AltsOk_sg N).rs) ((), (false, ())))
              (fun i12 t13 =>
                (some (α := ODen (T_spec_AltsOk_sg N).ps × RDen (T_spec_AltsOk_sg N).rs) ((), (true, ()))))
               N (0 : Int))))))) := by
  have h : den (R := ODen (T_spec_AltsOk_sg N).ps × RDen (T_spec_AltsOk_sg N).rs) tab (T_spec_AltsOk_ctx N) T_spec_AltsOk_ann N (T_spec_AltsOk_sg N) Try.f18 (l1, regs2, cells3, ()) some =
    (bif decide ((ilen l1) > (4 : Int)) then
    (some (α := ODen (T_spec_AltsOk_sg N).ps × RDen (T_spec_AltsOk_sg N).rs) ((), (false, ())))
    else
    ((T_spec_l4Regs N regs2).bind fun o4 =>
      (bif !o4.2.1 then
        (some (α := ODen (T_spec_AltsOk_sg N).ps × RDen (T_spec_AltsOk_sg N).rs) ((), (false, ())))
        else
        ((T_spec_l3Vals N cells3).bind fun o5 =>
          (bif !o5.2.1 then
            (some (α := ODen (T_spec_AltsOk_sg N).ps × RDen (T_spec_AltsOk_sg N).rs) ((), (false, ())))
            else
            (T_spec_AltsOk_lp0_m N N (T_spec_AltsOk_lp0_sh l1 (0 : Int)) (ctxK (R := ODen (T_spec_AltsOk_sg N).ps × RDen (T_spec_AltsOk_sg N).rs) tab (T_spec_AltsOk_ctx N) T_spec_AltsOk_ann N (theCode Try.f18) [1, 1, 0, 1, 0] (retK tab (T_spec_AltsOk_sg N) Try.f18.results.toList some)))))))) := by kernel_rfl
  rw [h]
  (try simp only [T_spec_AltsOk_lp0_eq, T_spec_AltsOk_c1, T_spec_AltsOk_c2]) <;> rfl

theorem T_spec_AltsOk_ok (N : Nat) : chkBody Try.f18 (T_spec_AltsOk_sg N).ps = true := by kernel_rfl

theorem T_spec_AltsOk_callable : Callable Try.prog 18 := callable_of Try.func18 (show chkFn Try.f18 = true by kernel_rfl)

theorem T_spec_AltsOk_good (N : Nat) : Good Try.prog 18 (T_spec_AltsOk_sg N) :=
  good_body mixedOk tabOk (ctx_cons (T_spec_l4Regs_good N) T_spec_l4Regs_callable (ctx_cons (T_spec_l3Vals_good N) T_spec_l3Vals_callable (ctx_cons (T_spec_KidOk_good N) T_spec_KidOk_callable ctx_nil))) Try.func18 (T_spec_AltsOk_ok N) (fun d _ h => ⟨N, (T_spec_AltsOk_den N d.1 d.2.1 d.2.2.1).trans h⟩)

noncomputable def T_impl_within_sg (N : Nat) : Sig := Sig.of [.v (.int .i64) false, .v (.int .i64) false, .v (.int .i64) false] [.v (.bool) false] (fun d => T_impl_within N d.1 d.2.1 d.2.2.1)

def T_impl_within_ann : Nat → List Ghost
  | _ => []

noncomputable def T_impl_within_ctx (N : Nat) : Ctx := []

theorem T_impl_within_den (N : Nat) (x1 : Int) (lo2 : Int) (hi3 : Int) :
    den (R := ODen (T_impl_within_sg N).ps × RDen (T_impl_within_sg N).rs) tab (T_impl_within_ctx N) T_impl_within_ann N (T_impl_within_sg N) Try.f63 (x1, lo2, hi3, ()) some =
    (bif decide (x1 ≥ lo2) then
    (some (α := ODen (T_impl_within_sg N).ps × RDen (T_impl_within_sg N).rs) ((), (decide (x1 ≤ hi3), ())))
    else
    (some (α := ODen (T_impl_within_sg N).ps × RDen (T_impl_within_sg N).rs) ((), (false, ())))) := by kernel_rfl

theorem T_impl_within_ok (N : Nat) : chkBody Try.f63 (T_impl_within_sg N).ps = true := by kernel_rfl

theorem T_impl_within_callable : Callable Try.prog 63 := callable_of Try.func63 (show chkFn Try.f63 = true by kernel_rfl)

theorem T_impl_within_good (N : Nat) : Good Try.prog 63 (T_impl_within_sg N) :=
  good_body mixedOk tabOk ctx_nil Try.func63 (T_impl_within_ok N) (fun d _ h => ⟨N, (T_impl_within_den N d.1 d.2.1 d.2.2.1).trans h⟩)

noncomputable def T_impl_isValue_sg (N : Nat) : Sig := Sig.of [.v (.int .i64) false] [.v (.bool) false] (fun d => T_impl_isValue N d.1)

def T_impl_isValue_ann : Nat → List Ghost
  | _ => []

noncomputable def T_impl_isValue_ctx (N : Nat) : Ctx := [(63, T_impl_within_sg N)]

theorem T_impl_isValue_den (N : Nat) (v1 : Int) :
    den (R := ODen (T_impl_isValue_sg N).ps × RDen (T_impl_isValue_sg N).rs) tab (T_impl_isValue_ctx N) T_impl_isValue_ann N (T_impl_isValue_sg N) Try.f133 (v1, ()) some =
    ((T_impl_within N v1 (0 : Int) (65535 : Int)).bind fun o2 =>
    (some (α := ODen (T_impl_isValue_sg N).ps × RDen (T_impl_isValue_sg N).rs) ((), (o2.2.1, ())))) := by kernel_rfl

theorem T_impl_isValue_ok (N : Nat) : chkBody Try.f133 (T_impl_isValue_sg N).ps = true := by kernel_rfl

theorem T_impl_isValue_callable : Callable Try.prog 133 := callable_of Try.func133 (show chkFn Try.f133 = true by kernel_rfl)

theorem T_impl_isValue_good (N : Nat) : Good Try.prog 133 (T_impl_isValue_sg N) :=
  good_body mixedOk tabOk (ctx_cons (T_impl_within_good N) T_impl_within_callable ctx_nil) Try.func133 (T_impl_isValue_ok N) (fun d _ h => ⟨N, (T_impl_isValue_den N d.1).trans h⟩)

noncomputable def T_impl_areValues_sg (N : Nat) : Sig := Sig.of [.v (.slice (.int .i64)) false, .v (.int .i64) false] [.v (.bool) false] (fun d => T_impl_areValues N d.1 d.2.1)

def T_impl_areValues_ann : Nat → List Ghost
  | 2 => [.canon [0, 1, 7, 8, 9, 10]]
  | 3 => [.canon [0, 1, 6, 7, 8, 9]]
  | 4 => [.canon [0, 1, 7, 8, 9, 15]]
  | 5 => [.canon [4]]
  | 6 => [.canon [0, 1, 7, 8, 9]]
  | 100002 => [.canon [0, 1, 7, 8, 9]]
  | _ => []

noncomputable def T_impl_areValues_ctx (N : Nat) : Ctx := [(133, T_impl_isValue_sg N)]

def T_impl_areValues_lp0_sh (l3 : List Int) (n4 : Int) (t7 : Int) : St := { env := [(0, .s (.one (.val (.slice (.int .i64)) (l3 : List Int)))), (1, .s (.one (.val (.int .i64) (n4 : Int)))), (7, .s (.one (.val (.slice (.int .i64)) (l3 : List Int)))), (8, .s (.one (.val (.int .i64) (ilen l3 : Int)))), (9, .s (.one (.val (.int .i64) (t7 : Int))))], objs := [], nx := 0 }

def T_impl_areValues_lp0_e0 (l3 : List Int) (n4 : Int) : St := { env := [(4, .s (.one (.val (.bool) (false : Bool))))], objs := [], nx := 0 }

def T_impl_areValues_lp0_e1 (l3 : List Int) (n4 : Int) (t10 : Int) (t11 : Bool) : St := { env := [(0, .s (.one (.val (.slice (.int .i64)) (l3 : List Int)))), (1, .s (.one (.val (.int .i64) (n4 : Int)))), (7, .s (.one (.val (.slice (.int .i64)) (l3 : List Int)))), (8, .s (.one (.val (.int .i64) (ilen l3 : Int)))), (9, .s (.one (.val (.int .i64) (t10 : Int)))), (10, .s (.one (.val (.bool) (t11 : Bool))))], objs := [], nx := 0 }

noncomputable def T_impl_areValues_lp0_m (N : Nat) {R : Type} (n : Nat) (st : St) (K : Ex → St → Option R) : Option R := loopN (roundG (T_impl_areValues_ann 100002) fun st k => sx tab (T_impl_areValues_ctx N) T_impl_areValues_ann N (nthLoop Try.f70 0) st k) n st K

theorem T_impl_areValues_lp0_step (N : Nat) {R : Type} (n : Nat) (K : Ex → St → Option R) (l3 : List Int) (n4 : Int) (t7 : Int) :
    T_impl_areValues_lp0_m N (n + 1) (T_impl_areValues_lp0_sh l3 n4 t7) K =
    (bif decide (t7 < (ilen l3)) then
    (bif inb t7 (List.length l3) then
      ((T_impl_isValue N (List.getD l3 (Int.toNat t7) (0 : Int))).bind fun o12 =>
        (bif !o12.2.1 then
          (K .ret (T_impl_areValues_lp0_e0 l3 n4))
          else
          (T_impl_areValues_lp0_m N n (T_impl_areValues_lp0_sh l3 n4 (iadd .i64 t7 (1 : Int))) K))) else none)
    else
    (K (.exit 0) (T_impl_areValues_lp0_e1 l3 n4 t7 (decide (t7 < (ilen l3)))))) := by kernel_rfl

theorem T_impl_areValues_lp0_eq (N : Nat) {R : Type} (l3 : List Int) (n4 : Int) (K : Ex → St → Option R) : ∀ (n : Nat) (t7 : Int), T_impl_areValues_lp0_m N n (T_impl_areValues_lp0_sh l3 n4 t7) K = T_impl_areValues_lp0 N l3 n4 (K .ret (T_impl_areValues_lp0_e0 l3 n4)) (fun t10 t11 => (K (.exit 0) (T_impl_areValues_lp0_e1 l3 n4 t10 t11))) n t7
  | 0, _ => rfl
  | n + 1, t7 => by rw [T_impl_areValues_lp0_step, T_impl_areValues_lp0]; (try simp only [T_impl_areValues_lp0_eq N l3 n4 K n])

theorem T_impl_areValues_c1 (N : Nat) (l1 : List Int) (n2 : Int) :
    ((ctxK (R := ODen (T_impl_areValues_sg N).ps × RDen (T_impl_areValues_sg N).rs) tab (T_impl_areValues_ctx N) T_impl_areValues_ann N (theCode Try.f70) [1, 0, 1, 0] (retK tab (T_impl_areValues_sg N) Try.f70.results.toList some)) .ret (T_impl_areValues_lp0_e0 l1 n2)) =
    (some (α := ODen (T_impl_areValues_sg N).ps × RDen (T_impl_areValues_sg N).rs) ((), (false, ()))) := by kernel_rfl

theorem T_impl_areValues_c2 (N : Nat) (l1 : List Int) (n2 : Int) (t13 : Int) (t14 : Bool) :
    ((ctxK (R := ODen (T_impl_areValues_sg N).ps × RDen (T_impl_areValues_sg N).rs) tab (T_impl_areValues_ctx N) T_impl_areValues_ann N (theCode Try.f70) [1, 0, 1, 0] (retK tab (T_impl_areValues_sg N) Try.f70.results.toList some)) (.exit 0) (T_impl_areValues_lp0_e1 l1 n2 t13 t14)) =
    (some (α := ODen (T_impl_areValues_sg N).ps × RDen (T_impl_areValues_sg N).rs) ((), ((ilen l1) == n2, ()))) := by kernel_rfl

theorem T_impl_areValues_den (N : Nat) (l1 : List Int) (n2 : Int) :
    den (R := ODen (T_impl_areValues_sg N).ps × RDen (T_impl_areValues_sg N).rs) tab (T_impl_areValues_ctx N) T_impl_areValues_ann N (T_impl_areValues_sg N) Try.f70 (l1, n2, ()) some =
    (T_impl_areValues_lp0 N l1 n2
    (some (α := ODen (T_impl_areValues_sg N).ps × RDen (T_impl_areValues_sg N).rs) ((), (false, ())))
    (fun t13 t14 =>
      (some (α := ODen (T_impl_areValues_sg N).ps × RDen (T_impl_areValues_sg N).rs) ((), ((ilen l1) == n2, ()))))
     N (0 : Int)) := by
  have h : den (R := ODen (T_impl_areValues_sg N).ps × RDen (T_impl_areValues_sg N).rs) tab (T_impl_areValues_ctx N) T_impl_areValues_ann N (T_impl_areValues_sg N) Try.f70 (l1, n2, ()) some =
    (T_impl_areValues_lp0_m N N (T_impl_areValues_lp0_sh l1 n2 (0 : Int)) (ctxK (R := ODen (T_impl_areValues_sg N).ps × RDen (T_impl_areValues_sg N).rs) tab (T_impl_areValues_ctx N) T_impl_areValues_ann N (theCode Try.f70) [1, 0, 1, 0] (retK tab (T_impl_areValues_sg N) Try.f70.results.toList some))) := by kernel_rfl
  rw [h]
  (try simp only [T_impl_areValues_lp0_eq, T_impl_areValues_c1, T_impl_areValues_c2]) <;> rfl

theorem T_impl_areValues_ok (N : Nat) : chkBody Try.f70 (T_impl_areValues_sg N).ps = true := by kernel_rfl

theorem T_impl_areValues_callable : Callable Try.prog 70 := callable_of Try.func70 (show chkFn Try.f70 = true by kernel_rfl)

theorem T_impl_areValues_good (N : Nat) : Good Try.prog 70 (T_impl_areValues_sg N) :=
  good_body mixedOk tabOk (ctx_cons (T_impl_isValue_good N) T_impl_isValue_callable ctx_nil) Try.func70 (T_impl_areValues_ok N) (fun d _ h => ⟨N, (T_impl_areValues_den N d.1 d.2.1).trans h⟩)

noncomputable def T_impl_isReg_sg (N : Nat) : Sig := Sig.of [.v (.int .i64) false] [.v (.bool) false] (fun d => T_impl_isReg N d.1)

def T_impl_isReg_ann : Nat → List Ghost
  | _ => []

noncomputable def T_impl_isReg_ctx (N : Nat) : Ctx := [(63, T_impl_within_sg N)]

theorem T_impl_isReg_den (N : Nat) (r1 : Int) :
    den (R := ODen (T_impl_isReg_sg N).ps × RDen (T_impl_isReg_sg N).rs) tab (T_impl_isReg_ctx N) T_impl_isReg_ann N (T_impl_isReg_sg N) Try.f180 (r1, ()) some =
    ((T_impl_within N r1 (0 : Int) (3 : Int)).bind fun o2 =>
    (some (α := ODen (T_impl_isReg_sg N).ps × RDen (T_impl_isReg_sg N).rs) ((), (o2.2.1, ())))) := by kernel_rfl

theorem T_impl_isReg_ok (N : Nat) : chkBody Try.f180 (T_impl_isReg_sg N).ps = true := by kernel_rfl

theorem T_impl_isReg_callable : Callable Try.prog 180 := callable_of Try.func180 (show chkFn Try.f180 = true by kernel_rfl)

theorem T_impl_isReg_good (N : Nat) : Good Try.prog 180 (T_impl_isReg_sg N) :=
  good_body mixedOk tabOk (ctx_cons (T_impl_within_good N) T_impl_within_callable ctx_nil) Try.func180 (T_impl_isReg_ok N) (fun d _ h => ⟨N, (T_impl_isReg_den N d.1).trans h⟩)

noncomputable def T_impl_isCell_sg (N : Nat) : Sig := Sig.of [.v (.int .i64) false] [.v (.bool) false] (fun d => T_impl_isCell N d.1)

def T_impl_isCell_ann : Nat → List Ghost
  | _ => []

noncomputable def T_impl_isCell_ctx (N : Nat) : Ctx := [(63, T_impl_within_sg N)]

theorem T_impl_isCell_den (N : Nat) (i1 : Int) :
    den (R := ODen (T_impl_isCell_sg N).ps × RDen (T_impl_isCell_sg N).rs) tab (T_impl_isCell_ctx N) T_impl_isCell_ann N (T_impl_isCell_sg N) Try.f178 (i1, ()) some =
    ((T_impl_within N i1 (0 : Int) (7 : Int)).bind fun o2 =>
    (some (α := ODen (T_impl_isCell_sg N).ps × RDen (T_impl_isCell_sg N).rs) ((), (o2.2.1, ())))) := by kernel_rfl

theorem T_impl_isCell_ok (N : Nat) : chkBody Try.f178 (T_impl_isCell_sg N).ps = true := by kernel_rfl

theorem T_impl_isCell_callable : Callable Try.prog 178 := callable_of Try.func178 (show chkFn Try.f178 = true by kernel_rfl)

theorem T_impl_isCell_good (N : Nat) : Good Try.prog 178 (T_impl_isCell_sg N) :=
  good_body mixedOk tabOk (ctx_cons (T_impl_within_good N) T_impl_within_callable ctx_nil) Try.func178 (T_impl_isCell_ok N) (fun d _ h => ⟨N, (T_impl_isCell_den N d.1).trans h⟩)

noncomputable def T_impl_isKey_sg (N : Nat) : Sig := Sig.of [.v (.int .i64) false] [.v (.bool) false] (fun d => T_impl_isKey N d.1)

def T_impl_isKey_ann : Nat → List Ghost
  | _ => []

noncomputable def T_impl_isKey_ctx (N : Nat) : Ctx := [(63, T_impl_within_sg N)]

theorem T_impl_isKey_den (N : Nat) (k1 : Int) :
    den (R := ODen (T_impl_isKey_sg N).ps × RDen (T_impl_isKey_sg N).rs) tab (T_impl_isKey_ctx N) T_impl_isKey_ann N (T_impl_isKey_sg N) Try.f181 (k1, ()) some =
    ((T_impl_within N k1 (0 : Int) (7 : Int)).bind fun o2 =>
    (some (α := ODen (T_impl_isKey_sg N).ps × RDen (T_impl_isKey_sg N).rs) ((), (o2.2.1, ())))) := by kernel_rfl

theorem T_impl_isKey_ok (N : Nat) : chkBody Try.f181 (T_impl_isKey_sg N).ps = true := by kernel_rfl

theorem T_impl_isKey_callable : Callable Try.prog 181 := callable_of Try.func181 (show chkFn Try.f181 = true by kernel_rfl)

theorem T_impl_isKey_good (N : Nat) : Good Try.prog 181 (T_impl_isKey_sg N) :=
  good_body mixedOk tabOk (ctx_cons (T_impl_within_good N) T_impl_within_callable ctx_nil) Try.func181 (T_impl_isKey_ok N) (fun d _ h => ⟨N, (T_impl_isKey_den N d.1).trans h⟩)

noncomputable def T_impl_OpOk_sg (N : Nat) : Sig := Sig.of [.v (.prod (.int .i64) (.prod (.int .i64) (.prod (.int .i64) (.int .i64)))) true] [.v (.bool) false] (fun d => T_impl_OpOk N d.1)

def T_impl_OpOk_ann : Nat → List Ghost
  | _ => []

noncomputable def T_impl_OpOk_ctx (N : Nat) : Ctx := [(180, T_impl_isReg_sg N), (133, T_impl_isValue_sg N), (178, T_impl_isCell_sg N), (63, T_impl_within_sg N), (181, T_impl_isKey_sg N)]

end Go.Sx
