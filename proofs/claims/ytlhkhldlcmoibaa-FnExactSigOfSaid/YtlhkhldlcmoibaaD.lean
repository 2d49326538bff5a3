/- Each Go function does what its Lean function says. -/
import Derived.Test.YtlhkhldlcmoibaaT
import Derived.Test.YtlhkhldlcmoibaaProg
namespace Go.Sx
open Go.Proofs
set_option linter.unusedVariables false
set_option linter.unusedSimpArgs false

def tab : Tab := [(3, ⟨.int .i64, false, .basic⟩), (4, ⟨.bool, false, .basic⟩), (22, ⟨.slice (.int .i64), false, .slice 3⟩)]

theorem tabOk : TabOk Try.prog tab := tab_ok (show chkTab Try.prog tab tab = true by kernel_rfl)

def T_spec_l27Bit_sg (N : Nat) : Sig := Sig.of [.v (.int .i64) false] [(.int .i64, false)] (fun d => T_spec_l27Bit N d.1)

def T_spec_l27Bit_ann : Nat → List Ghost
  | 3 => [.canon [0, 3, 4, 7]]
  | 4 => [.canon [0, 3, 4]]
  | 5 => [.canon [0, 3, 4]]
  | 100003 => [.canon [0, 3, 4]]
  | _ => []

def T_spec_l27Bit_ctx (N : Nat) : Ctx := []

def T_spec_l27Bit_lp0_sh (k2 : Int) (n3 : Int) (i4 : Int) : St := { env := [(0, .s (.one (.val (.int .i64) (k2 : Int)))), (3, .s (.one (.val (.int .i64) (n3 : Int)))), (4, .s (.one (.val (.int .i64) (i4 : Int))))], objs := [], nx := 0 }

def T_spec_l27Bit_lp0_e0 (k2 : Int) (n5 : Int) (i6 : Int) (t7 : Bool) : St := { env := [(0, .s (.one (.val (.int .i64) (k2 : Int)))), (3, .s (.one (.val (.int .i64) (n5 : Int)))), (4, .s (.one (.val (.int .i64) (i6 : Int)))), (7, .s (.one (.val (.bool) (t7 : Bool))))], objs := [], nx := 0 }

noncomputable def T_spec_l27Bit_lp0_m (N : Nat) {R : Type} (n : Nat) (st : St) (K : Ex → St → Option R) : Option R := loopN (roundG (T_spec_l27Bit_ann 100003) fun st k => sx tab (T_spec_l27Bit_ctx N) T_spec_l27Bit_ann N (nthLoop Try.f37 0) st k) n st K

theorem T_spec_l27Bit_lp0_step (N : Nat) {R : Type} (n : Nat) (K : Ex → St → Option R) (k2 : Int) (n3 : Int) (i4 : Int) :
    T_spec_l27Bit_lp0_m N (n + 1) (T_spec_l27Bit_lp0_sh k2 n3 i4) K =
    (bif decide (i4 < k2) then
    (T_spec_l27Bit_lp0_m N n (T_spec_l27Bit_lp0_sh k2 (imul .i64 n3 (2 : Int)) (iadd .i64 i4 (1 : Int))) K)
    else
    (K (.exit 0) (T_spec_l27Bit_lp0_e0 k2 n3 i4 (decide (i4 < k2))))) := by kernel_rfl

theorem T_spec_l27Bit_lp0_eq (N : Nat) {R : Type} (k2 : Int) (K : Ex → St → Option R) : ∀ (n : Nat) (n3 : Int) (i4 : Int), T_spec_l27Bit_lp0_m N n (T_spec_l27Bit_lp0_sh k2 n3 i4) K = T_spec_l27Bit_lp0 N k2 (fun n5 i6 t7 => (K (.exit 0) (T_spec_l27Bit_lp0_e0 k2 n5 i6 t7))) n n3 i4
  | 0, _, _ => rfl
  | n + 1, n3, i4 => by rw [T_spec_l27Bit_lp0_step, T_spec_l27Bit_lp0]; (try simp only [T_spec_l27Bit_lp0_eq N k2 K n])

theorem T_spec_l27Bit_c1 (N : Nat) (k1 : Int) (n8 : Int) (i9 : Int) (t10 : Bool) :
    ((ctxK tab (T_spec_l27Bit_ctx N) T_spec_l27Bit_ann N (theCode Try.f37) [1, 1, 0, 1, 0] (retK tab (T_spec_l27Bit_sg N) Try.f37.results.toList some)) (.exit 0) (T_spec_l27Bit_lp0_e0 k1 n8 i9 t10)) =
    (some ((), (n8, ()))) := by kernel_rfl

theorem T_spec_l27Bit_den (N : Nat) (k1 : Int) :
    den (R := ODen (T_spec_l27Bit_sg N).ps × RDen (T_spec_l27Bit_sg N).rs) tab (T_spec_l27Bit_ctx N) T_spec_l27Bit_ann N (T_spec_l27Bit_sg N) Try.f37 (k1, ()) some =
    (T_spec_l27Bit_lp0 N k1
    (fun n8 i9 t10 =>
      (some ((), (n8, ()))))
     N (1 : Int) (0 : Int)) := by
  have h : den (R := ODen (T_spec_l27Bit_sg N).ps × RDen (T_spec_l27Bit_sg N).rs) tab (T_spec_l27Bit_ctx N) T_spec_l27Bit_ann N (T_spec_l27Bit_sg N) Try.f37 (k1, ()) some =
    (T_spec_l27Bit_lp0_m N N (T_spec_l27Bit_lp0_sh k1 (1 : Int) (0 : Int)) (ctxK tab (T_spec_l27Bit_ctx N) T_spec_l27Bit_ann N (theCode Try.f37) [1, 1, 0, 1, 0] (retK tab (T_spec_l27Bit_sg N) Try.f37.results.toList some))) := by kernel_rfl
  rw [h]
  (try simp only [T_spec_l27Bit_lp0_eq, T_spec_l27Bit_c1]) <;> rfl

theorem T_spec_l27Bit_ok (N : Nat) : chkBody Try.f37 (T_spec_l27Bit_sg N).ps = true := by kernel_rfl

theorem T_spec_l27Bit_callable : Callable Try.prog 37 := callable_of Try.func37 (show chkFn Try.f37 = true by kernel_rfl)

theorem T_spec_l27Bit_good (N : Nat) : Good Try.prog 37 (T_spec_l27Bit_sg N) :=
  good_body tabOk ctx_nil Try.func37 (T_spec_l27Bit_ok N) (fun d _ h => ⟨N, (T_spec_l27Bit_den N d.1).trans h⟩)

def T_spec_l27Has_sg (N : Nat) : Sig := Sig.of [.v (.int .i64) false, .v (.int .i64) false] [(.bool, false)] (fun d => T_spec_l27Has N d.1 d.2.1)

def T_spec_l27Has_ann : Nat → List Ghost
  | _ => []

def T_spec_l27Has_ctx (N : Nat) : Ctx := [(37, T_spec_l27Bit_sg N)]

theorem T_spec_l27Has_den (N : Nat) (sig1 : Int) (k2 : Int) :
    den (R := ODen (T_spec_l27Has_sg N).ps × RDen (T_spec_l27Has_sg N).rs) tab (T_spec_l27Has_ctx N) T_spec_l27Has_ann N (T_spec_l27Has_sg N) Try.f35 (sig1, k2, ()) some =
    (bif decide (sig1 ≥ (0 : Int)) then
    ((T_spec_l27Bit N k2).bind fun o3 =>
      (bif inz o3.2.1 then
        (bif inz (2 : Int) then
          (some ((), ((irem (iquo .i64 sig1 o3.2.1) (2 : Int)) == (1 : Int), ()))) else none) else none))
    else
    (some ((), (false, ())))) := by kernel_rfl

theorem T_spec_l27Has_ok (N : Nat) : chkBody Try.f35 (T_spec_l27Has_sg N).ps = true := by kernel_rfl

theorem T_spec_l27Has_callable : Callable Try.prog 35 := callable_of Try.func35 (show chkFn Try.f35 = true by kernel_rfl)

theorem T_spec_l27Has_good (N : Nat) : Good Try.prog 35 (T_spec_l27Has_sg N) :=
  good_body tabOk (ctx_cons (T_spec_l27Bit_good N) T_spec_l27Bit_callable ctx_nil) Try.func35 (T_spec_l27Has_ok N) (fun d _ h => ⟨N, (T_spec_l27Has_den N d.1 d.2.1).trans h⟩)

def T_spec_l27Mod_sg (N : Nat) : Sig := Sig.of [.v (.int .i64) false, .v (.int .i64) false] [(.int .i64, false)] (fun d => T_spec_l27Mod N d.1 d.2.1)

def T_spec_l27Mod_ann : Nat → List Ghost
  | _ => []

def T_spec_l27Mod_ctx (N : Nat) : Ctx := []

theorem T_spec_l27Mod_den (N : Nat) (x1 : Int) (n2 : Int) :
    den (R := ODen (T_spec_l27Mod_sg N).ps × RDen (T_spec_l27Mod_sg N).rs) tab (T_spec_l27Mod_ctx N) T_spec_l27Mod_ann N (T_spec_l27Mod_sg N) Try.f50 (x1, n2, ()) some =
    (bif inz n2 then
    (bif inz n2 then
      (some ((), (irem (iadd .i64 (irem x1 n2) n2) n2, ()))) else none) else none) := by kernel_rfl

theorem T_spec_l27Mod_ok (N : Nat) : chkBody Try.f50 (T_spec_l27Mod_sg N).ps = true := by kernel_rfl

theorem T_spec_l27Mod_callable : Callable Try.prog 50 := callable_of Try.func50 (show chkFn Try.f50 = true by kernel_rfl)

theorem T_spec_l27Mod_good (N : Nat) : Good Try.prog 50 (T_spec_l27Mod_sg N) :=
  good_body tabOk ctx_nil Try.func50 (T_spec_l27Mod_ok N) (fun d _ h => ⟨N, (T_spec_l27Mod_den N d.1 d.2.1).trans h⟩)

def T_spec_SigOne_sg (N : Nat) : Sig := Sig.of [.v (.int .i64) false] [(.int .i64, false)] (fun d => T_spec_SigOne N d.1)

def T_spec_SigOne_ann : Nat → List Ghost
  | _ => []

def T_spec_SigOne_ctx (N : Nat) : Ctx := [(50, T_spec_l27Mod_sg N), (37, T_spec_l27Bit_sg N)]

theorem T_spec_SigOne_den (N : Nat) (x1 : Int) :
    den (R := ODen (T_spec_SigOne_sg N).ps × RDen (T_spec_SigOne_sg N).rs) tab (T_spec_SigOne_ctx N) T_spec_SigOne_ann N (T_spec_SigOne_sg N) Try.f36 (x1, ()) some =
    ((T_spec_l27Mod N x1 (29 : Int)).bind fun o2 =>
    ((T_spec_l27Bit N o2.2.1).bind fun o3 =>
      ((T_spec_l27Mod N x1 (31 : Int)).bind fun o4 =>
        ((T_spec_l27Bit N (iadd .i64 (29 : Int) o4.2.1)).bind fun o5 =>
          (some ((), (iadd .i64 o3.2.1 o5.2.1, ()))))))) := by kernel_rfl

theorem T_spec_SigOne_ok (N : Nat) : chkBody Try.f36 (T_spec_SigOne_sg N).ps = true := by kernel_rfl

theorem T_spec_SigOne_callable : Callable Try.prog 36 := callable_of Try.func36 (show chkFn Try.f36 = true by kernel_rfl)

theorem T_spec_SigOne_good (N : Nat) : Good Try.prog 36 (T_spec_SigOne_sg N) :=
  good_body tabOk (ctx_cons (T_spec_l27Mod_good N) T_spec_l27Mod_callable (ctx_cons (T_spec_l27Bit_good N) T_spec_l27Bit_callable ctx_nil)) Try.func36 (T_spec_SigOne_ok N) (fun d _ h => ⟨N, (T_spec_SigOne_den N d.1).trans h⟩)

def T_spec_SigOf_sg (N : Nat) : Sig := Sig.of [.v (.slice (.int .i64)) false] [(.int .i64, false)] (fun d => T_spec_SigOf N d.1)

def T_spec_SigOf_ann : Nat → List Ghost
  | 3 => [.canon [0, 3, 4, 7]]
  | 4 => [.canon [0, 3, 4]]
  | 5 => [.canon [0, 3, 4, 5]]
  | 6 => [.canon [0, 3, 4, 5, 13]]
  | 7 => [.canon [0, 3, 4, 5]]
  | 8 => [.canon [0, 3, 4, 5, 28]]
  | 9 => [.canon [0, 3, 4, 5]]
  | 100003 => [.canon [0, 3, 4]]
  | 100006 => [.canon [0, 3, 4, 5]]
  | _ => []

def T_spec_SigOf_ctx (N : Nat) : Ctx := [(36, T_spec_SigOne_sg N), (35, T_spec_l27Has_sg N), (37, T_spec_l27Bit_sg N)]

def T_spec_SigOf_lp1_sh (l5 : List Int) (out6 : Int) (k7 : Int) (i8 : Int) : St := { env := [(0, .s (.one (.val (.slice (.int .i64)) (l5 : List Int)))), (3, .s (.one (.val (.int .i64) (out6 : Int)))), (4, .s (.one (.val (.int .i64) (k7 : Int)))), (5, .s (.one (.val (.int .i64) (i8 : Int))))], objs := [], nx := 0 }

def T_spec_SigOf_lp1_e0 (l5 : List Int) (k7 : Int) (out13 : Int) (i14 : Int) (t15 : Bool) : St := { env := [(0, .s (.one (.val (.slice (.int .i64)) (l5 : List Int)))), (3, .s (.one (.val (.int .i64) (out13 : Int)))), (4, .s (.one (.val (.int .i64) (k7 : Int)))), (5, .s (.one (.val (.int .i64) (i14 : Int)))), (13, .s (.one (.val (.bool) (t15 : Bool))))], objs := [], nx := 0 }

noncomputable def T_spec_SigOf_lp1_m (N : Nat) {R : Type} (n : Nat) (st : St) (K : Ex → St → Option R) : Option R := loopN (roundG (T_spec_SigOf_ann 100006) fun st k => sx tab (T_spec_SigOf_ctx N) T_spec_SigOf_ann N (nthLoop Try.f9 1) st k) n st K

theorem T_spec_SigOf_lp1_step (N : Nat) {R : Type} (n : Nat) (K : Ex → St → Option R) (l5 : List Int) (out6 : Int) (k7 : Int) (i8 : Int) :
    T_spec_SigOf_lp1_m N (n + 1) (T_spec_SigOf_lp1_sh l5 out6 k7 i8) K =
    (bif decide (i8 < (ilen l5)) then
    (bif inb i8 (List.length l5) then
      ((T_spec_SigOne N (List.getD l5 (Int.toNat i8) (0 : Int))).bind fun o16 =>
        ((T_spec_l27Has N o16.2.1 k7).bind fun o17 =>
          (bif o17.2.1 then
            ((T_spec_l27Has N out6 k7).bind fun o18 =>
              (bif !o18.2.1 then
                ((T_spec_l27Bit N k7).bind fun o19 =>
                  (T_spec_SigOf_lp1_m N n (T_spec_SigOf_lp1_sh l5 (iadd .i64 out6 o19.2.1) k7 (iadd .i64 i8 (1 : Int))) K))
                else
                (T_spec_SigOf_lp1_m N n (T_spec_SigOf_lp1_sh l5 out6 k7 (iadd .i64 i8 (1 : Int))) K)))
            else
            (T_spec_SigOf_lp1_m N n (T_spec_SigOf_lp1_sh l5 out6 k7 (iadd .i64 i8 (1 : Int))) K)))) else none)
    else
    (K (.exit 2) (T_spec_SigOf_lp1_e0 l5 k7 out6 i8 (decide (i8 < (ilen l5)))))) := by kernel_rfl

theorem T_spec_SigOf_lp1_eq (N : Nat) {R : Type} (l5 : List Int) (k7 : Int) (K : Ex → St → Option R) : ∀ (n : Nat) (out6 : Int) (i8 : Int), T_spec_SigOf_lp1_m N n (T_spec_SigOf_lp1_sh l5 out6 k7 i8) K = T_spec_SigOf_lp1 N l5 k7 (fun out13 i14 t15 => (K (.exit 2) (T_spec_SigOf_lp1_e0 l5 k7 out13 i14 t15))) n out6 i8
  | 0, _, _ => rfl
  | n + 1, out6, i8 => by rw [T_spec_SigOf_lp1_step, T_spec_SigOf_lp1]; (try simp only [T_spec_SigOf_lp1_eq N l5 k7 K n])

def T_spec_SigOf_lp0_sh (l2 : List Int) (out3 : Int) (k4 : Int) : St := { env := [(0, .s (.one (.val (.slice (.int .i64)) (l2 : List Int)))), (3, .s (.one (.val (.int .i64) (out3 : Int)))), (4, .s (.one (.val (.int .i64) (k4 : Int))))], objs := [], nx := 0 }

def T_spec_SigOf_lp0_e0 (l2 : List Int) (out23 : Int) (k24 : Int) (t25 : Bool) : St := { env := [(0, .s (.one (.val (.slice (.int .i64)) (l2 : List Int)))), (3, .s (.one (.val (.int .i64) (out23 : Int)))), (4, .s (.one (.val (.int .i64) (k24 : Int)))), (7, .s (.one (.val (.bool) (t25 : Bool))))], objs := [], nx := 0 }

noncomputable def T_spec_SigOf_lp0_m (N : Nat) {R : Type} (n : Nat) (st : St) (K : Ex → St → Option R) : Option R := loopN (roundG (T_spec_SigOf_ann 100003) fun st k => sx tab (T_spec_SigOf_ctx N) T_spec_SigOf_ann N (nthLoop Try.f9 0) st k) n st K

theorem T_spec_SigOf_c1 (N : Nat) {R : Type} (n : Nat) (K : Ex → St → Option R) (l2 : List Int) (k4 : Int) (out26 : Int) (i27 : Int) (t28 : Bool) :
    ((ctxK tab (T_spec_SigOf_ctx N) T_spec_SigOf_ann N (nthLoop Try.f9 0) [1, 0, 0, 1, 0] (backK (T_spec_SigOf_ann 100003) (T_spec_SigOf_lp0_m N n) K)) (.exit 2) (T_spec_SigOf_lp1_e0 l2 k4 out26 i27 t28)) =
    (T_spec_SigOf_lp0_m N n (T_spec_SigOf_lp0_sh l2 out26 (iadd .i64 k4 (1 : Int))) K) := by kernel_rfl

theorem T_spec_SigOf_lp0_step (N : Nat) {R : Type} (n : Nat) (K : Ex → St → Option R) (l2 : List Int) (out3 : Int) (k4 : Int) :
    T_spec_SigOf_lp0_m N (n + 1) (T_spec_SigOf_lp0_sh l2 out3 k4) K =
    (bif decide (k4 < (60 : Int)) then
    (T_spec_SigOf_lp1 N l2 k4
      (fun out26 i27 t28 =>
        (T_spec_SigOf_lp0_m N n (T_spec_SigOf_lp0_sh l2 out26 (iadd .i64 k4 (1 : Int))) K))
       N out3 (0 : Int))
    else
    (K (.exit 0) (T_spec_SigOf_lp0_e0 l2 out3 k4 (decide (k4 < (60 : Int)))))) := by
  have h : T_spec_SigOf_lp0_m N (n + 1) (T_spec_SigOf_lp0_sh l2 out3 k4) K =
    (bif decide (k4 < (60 : Int)) then
    (T_spec_SigOf_lp1_m N N (T_spec_SigOf_lp1_sh l2 out3 k4 (0 : Int)) (ctxK tab (T_spec_SigOf_ctx N) T_spec_SigOf_ann N (nthLoop Try.f9 0) [1, 0, 0, 1, 0] (backK (T_spec_SigOf_ann 100003) (T_spec_SigOf_lp0_m N n) K)))
    else
    (K (.exit 0) (T_spec_SigOf_lp0_e0 l2 out3 k4 (decide (k4 < (60 : Int)))))) := by kernel_rfl
  rw [h]
  (try simp only [T_spec_SigOf_lp1_eq, T_spec_SigOf_c1]) <;> rfl

theorem T_spec_SigOf_lp0_eq (N : Nat) {R : Type} (l2 : List Int) (K : Ex → St → Option R) : ∀ (n : Nat) (out3 : Int) (k4 : Int), T_spec_SigOf_lp0_m N n (T_spec_SigOf_lp0_sh l2 out3 k4) K = T_spec_SigOf_lp0 N l2 (fun out23 k24 t25 => (K (.exit 0) (T_spec_SigOf_lp0_e0 l2 out23 k24 t25))) n out3 k4
  | 0, _, _ => rfl
  | n + 1, out3, k4 => by rw [T_spec_SigOf_lp0_step, T_spec_SigOf_lp0]; (try simp only [T_spec_SigOf_lp0_eq N l2 K n])

theorem T_spec_SigOf_c2 (N : Nat) (l1 : List Int) (out29 : Int) (k30 : Int) (t31 : Bool) :
    ((ctxK tab (T_spec_SigOf_ctx N) T_spec_SigOf_ann N (theCode Try.f9) [1, 1, 0, 1, 0] (retK tab (T_spec_SigOf_sg N) Try.f9.results.toList some)) (.exit 0) (T_spec_SigOf_lp0_e0 l1 out29 k30 t31)) =
    (some ((), (out29, ()))) := by kernel_rfl

theorem T_spec_SigOf_den (N : Nat) (l1 : List Int) :
    den (R := ODen (T_spec_SigOf_sg N).ps × RDen (T_spec_SigOf_sg N).rs) tab (T_spec_SigOf_ctx N) T_spec_SigOf_ann N (T_spec_SigOf_sg N) Try.f9 (l1, ()) some =
    (T_spec_SigOf_lp0 N l1
    (fun out29 k30 t31 =>
      (some ((), (out29, ()))))
     N (0 : Int) (0 : Int)) := by
  have h : den (R := ODen (T_spec_SigOf_sg N).ps × RDen (T_spec_SigOf_sg N).rs) tab (T_spec_SigOf_ctx N) T_spec_SigOf_ann N (T_spec_SigOf_sg N) Try.f9 (l1, ()) some =
    (T_spec_SigOf_lp0_m N N (T_spec_SigOf_lp0_sh l1 (0 : Int) (0 : Int)) (ctxK tab (T_spec_SigOf_ctx N) T_spec_SigOf_ann N (theCode Try.f9) [1, 1, 0, 1, 0] (retK tab (T_spec_SigOf_sg N) Try.f9.results.toList some))) := by kernel_rfl
  rw [h]
  (try simp only [T_spec_SigOf_lp0_eq, T_spec_SigOf_c2]) <;> rfl

theorem T_spec_SigOf_ok (N : Nat) : chkBody Try.f9 (T_spec_SigOf_sg N).ps = true := by kernel_rfl

theorem T_spec_SigOf_callable : Callable Try.prog 9 := callable_of Try.func9 (show chkFn Try.f9 = true by kernel_rfl)

theorem T_spec_SigOf_good (N : Nat) : Good Try.prog 9 (T_spec_SigOf_sg N) :=
  good_body tabOk (ctx_cons (T_spec_SigOne_good N) T_spec_SigOne_callable (ctx_cons (T_spec_l27Has_good N) T_spec_l27Has_callable (ctx_cons (T_spec_l27Bit_good N) T_spec_l27Bit_callable ctx_nil))) Try.func9 (T_spec_SigOf_ok N) (fun d _ h => ⟨N, (T_spec_SigOf_den N d.1).trans h⟩)

def T_laws_toIntS_sg (N : Nat) : Sig := Sig.of [.v (.slice (.int .i64)) false] [(.own (.int .i64), false)] (fun d => T_laws_toIntS N d.1)

def T_laws_toIntS_ann : Nat → List Ghost
  | 3 => [.canon [0, 3, 4, 11]]
  | 4 => [.canon [0, 3, 4]]
  | 5 => [.canon [0, 3, 4]]
  | 100003 => [.canon [0, 3, 4]]
  | _ => []

def T_laws_toIntS_ctx (N : Nat) : Ctx := []

def T_laws_toIntS_lp0_sh (a2 : List Int) (i3 : Int) (l4 : List Int) : St := { env := [(0, .s (.one (.val (.slice (.int .i64)) (a2 : List Int)))), (3, .s (.one (.own 0))), (4, .s (.one (.val (.int .i64) (i3 : Int))))], objs := [(0, .arr (.int .i64) (l4 : List Int))], nx := 1 }

def T_laws_toIntS_lp0_e0 (a2 : List Int) (i5 : Int) (t6 : Bool) (l7 : List Int) : St := { env := [(0, .s (.one (.val (.slice (.int .i64)) (a2 : List Int)))), (3, .s (.one (.own 0))), (4, .s (.one (.val (.int .i64) (i5 : Int)))), (11, .s (.one (.val (.bool) (t6 : Bool))))], objs := [(0, .arr (.int .i64) (l7 : List Int))], nx := 1 }

noncomputable def T_laws_toIntS_lp0_m (N : Nat) {R : Type} (n : Nat) (st : St) (K : Ex → St → Option R) : Option R := loopN (roundG (T_laws_toIntS_ann 100003) fun st k => sx tab (T_laws_toIntS_ctx N) T_laws_toIntS_ann N (nthLoop Try.f10 0) st k) n st K

theorem T_laws_toIntS_lp0_step (N : Nat) {R : Type} (n : Nat) (K : Ex → St → Option R) (a2 : List Int) (i3 : Int) (l4 : List Int) :
    T_laws_toIntS_lp0_m N (n + 1) (T_laws_toIntS_lp0_sh a2 i3 l4) K =
    (bif decide (i3 < (ilen a2)) then
    (bif inb i3 (List.length a2) then
      (bif inb i3 (List.length l4) then
        (T_laws_toIntS_lp0_m N n (T_laws_toIntS_lp0_sh a2 (iadd .i64 i3 (1 : Int)) (List.set l4 (Int.toNat i3) (List.getD a2 (Int.toNat i3) (0 : Int)))) K) else none) else none)
    else
    (K (.exit 0) (T_laws_toIntS_lp0_e0 a2 i3 (decide (i3 < (ilen a2))) l4))) := by kernel_rfl

theorem T_laws_toIntS_lp0_eq (N : Nat) {R : Type} (a2 : List Int) (K : Ex → St → Option R) : ∀ (n : Nat) (i3 : Int) (l4 : List Int), T_laws_toIntS_lp0_m N n (T_laws_toIntS_lp0_sh a2 i3 l4) K = T_laws_toIntS_lp0 N a2 (fun i5 t6 l7 => (K (.exit 0) (T_laws_toIntS_lp0_e0 a2 i5 t6 l7))) n i3 l4
  | 0, _, _ => rfl
  | n + 1, i3, l4 => by rw [T_laws_toIntS_lp0_step, T_laws_toIntS_lp0]; (try simp only [T_laws_toIntS_lp0_eq N a2 K n])

theorem T_laws_toIntS_c1 (N : Nat) (a1 : List Int) (i8 : Int) (t9 : Bool) (l10 : List Int) :
    ((ctxK tab (T_laws_toIntS_ctx N) T_laws_toIntS_ann N (theCode Try.f10) [1, 1, 0, 1, 0] (retK tab (T_laws_toIntS_sg N) Try.f10.results.toList some)) (.exit 0) (T_laws_toIntS_lp0_e0 a1 i8 t9 l10)) =
    (some ((), (l10, ()))) := by kernel_rfl

theorem T_laws_toIntS_den (N : Nat) (a1 : List Int) :
    den (R := ODen (T_laws_toIntS_sg N).ps × RDen (T_laws_toIntS_sg N).rs) tab (T_laws_toIntS_ctx N) T_laws_toIntS_ann N (T_laws_toIntS_sg N) Try.f10 (a1, ()) some =
    (bif ((decide ((0 : Int) ≤ (ilen a1))) && (decide ((ilen a1) ≤ (ilen a1)))) && (room (Int.toNat (ilen a1))) then
    (T_laws_toIntS_lp0 N a1
      (fun i8 t9 l10 =>
        (some ((), (l10, ()))))
       N (0 : Int) (List.replicate (Int.toNat (ilen a1)) (0 : Int))) else none) := by
  have h : den (R := ODen (T_laws_toIntS_sg N).ps × RDen (T_laws_toIntS_sg N).rs) tab (T_laws_toIntS_ctx N) T_laws_toIntS_ann N (T_laws_toIntS_sg N) Try.f10 (a1, ()) some =
    (bif ((decide ((0 : Int) ≤ (ilen a1))) && (decide ((ilen a1) ≤ (ilen a1)))) && (room (Int.toNat (ilen a1))) then
    (T_laws_toIntS_lp0_m N N (T_laws_toIntS_lp0_sh a1 (0 : Int) (List.replicate (Int.toNat (ilen a1)) (0 : Int))) (ctxK tab (T_laws_toIntS_ctx N) T_laws_toIntS_ann N (theCode Try.f10) [1, 1, 0, 1, 0] (retK tab (T_laws_toIntS_sg N) Try.f10.results.toList some))) else none) := by kernel_rfl
  rw [h]
  (try simp only [T_laws_toIntS_lp0_eq, T_laws_toIntS_c1]) <;> rfl

theorem T_laws_toIntS_ok (N : Nat) : chkBody Try.f10 (T_laws_toIntS_sg N).ps = true := by kernel_rfl

theorem T_laws_toIntS_callable : Callable Try.prog 10 := callable_of Try.func10 (show chkFn Try.f10 = true by kernel_rfl)

theorem T_laws_toIntS_good (N : Nat) : Good Try.prog 10 (T_laws_toIntS_sg N) :=
  good_body tabOk ctx_nil Try.func10 (T_laws_toIntS_ok N) (fun d _ h => ⟨N, (T_laws_toIntS_den N d.1).trans h⟩)

def T_impl_remainder_sg (N : Nat) : Sig := Sig.of [.v (.int .i64) false, .v (.int .i64) false] [(.int .i64, false)] (fun d => T_impl_remainder N d.1 d.2.1)

def T_impl_remainder_ann : Nat → List Ghost
  | _ => []

def T_impl_remainder_ctx (N : Nat) : Ctx := []

theorem T_impl_remainder_den (N : Nat) (x1 : Int) (n2 : Int) :
    den (R := ODen (T_impl_remainder_sg N).ps × RDen (T_impl_remainder_sg N).rs) tab (T_impl_remainder_ctx N) T_impl_remainder_ann N (T_impl_remainder_sg N) Try.f51 (x1, n2, ()) some =
    (bif inz n2 then
    (bif inz n2 then
      (some ((), (irem (iadd .i64 (irem x1 n2) n2) n2, ()))) else none) else none) := by kernel_rfl

theorem T_impl_remainder_ok (N : Nat) : chkBody Try.f51 (T_impl_remainder_sg N).ps = true := by kernel_rfl

theorem T_impl_remainder_callable : Callable Try.prog 51 := callable_of Try.func51 (show chkFn Try.f51 = true by kernel_rfl)

theorem T_impl_remainder_good (N : Nat) : Good Try.prog 51 (T_impl_remainder_sg N) :=
  good_body tabOk ctx_nil Try.func51 (T_impl_remainder_ok N) (fun d _ h => ⟨N, (T_impl_remainder_den N d.1 d.2.1).trans h⟩)

def T_impl_SigOne_sg (N : Nat) : Sig := Sig.of [.v (.int .i64) false] [(.int .i64, false)] (fun d => T_impl_SigOne N d.1)

def T_impl_SigOne_ann : Nat → List Ghost
  | _ => []

def T_impl_SigOne_ctx (N : Nat) : Ctx := [(51, T_impl_remainder_sg N)]

theorem T_impl_SigOne_den (N : Nat) (x1 : Int) :
    den (R := ODen (T_impl_SigOne_sg N).ps × RDen (T_impl_SigOne_sg N).rs) tab (T_impl_SigOne_ctx N) T_impl_SigOne_ann N (T_impl_SigOne_sg N) Try.f38 (x1, ()) some =
    ((T_impl_remainder N x1 (29 : Int)).bind fun o2 =>
    (bif inn o2.2.1 then
      ((T_impl_remainder N x1 (31 : Int)).bind fun o3 =>
        (bif inn (iadd .i64 (29 : Int) o3.2.1) then
          (some ((), (ior .i64 (ishl .i64 (1 : Int) o2.2.1) (ishl .i64 (1 : Int) (iadd .i64 (29 : Int) o3.2.1)), ()))) else none)) else none)) := by kernel_rfl

theorem T_impl_SigOne_ok (N : Nat) : chkBody Try.f38 (T_impl_SigOne_sg N).ps = true := by kernel_rfl

theorem T_impl_SigOne_callable : Callable Try.prog 38 := callable_of Try.func38 (show chkFn Try.f38 = true by kernel_rfl)

theorem T_impl_SigOne_good (N : Nat) : Good Try.prog 38 (T_impl_SigOne_sg N) :=
  good_body tabOk (ctx_cons (T_impl_remainder_good N) T_impl_remainder_callable ctx_nil) Try.func38 (T_impl_SigOne_ok N) (fun d _ h => ⟨N, (T_impl_SigOne_den N d.1).trans h⟩)

def T_impl_SigOf_sg (N : Nat) : Sig := Sig.of [.v (.slice (.int .i64)) false] [(.int .i64, false)] (fun d => T_impl_SigOf N d.1)

def T_impl_SigOf_ann : Nat → List Ghost
  | 3 => [.canon [3, 6, 7, 8, 9]]
  | 4 => [.canon [3, 5, 6, 7, 8]]
  | 5 => [.canon [3, 6, 7, 8]]
  | 6 => [.canon [3, 6, 7, 8]]
  | 100003 => [.canon [3, 6, 7, 8]]
  | _ => []

def T_impl_SigOf_ctx (N : Nat) : Ctx := [(38, T_impl_SigOne_sg N)]

def T_impl_SigOf_lp0_sh (out2 : Int) (t3 : List Int) (t5 : Int) : St := { env := [(3, .s (.one (.val (.int .i64) (out2 : Int)))), (6, .s (.one (.val (.slice (.int .i64)) (t3 : List Int)))), (7, .s (.one (.val (.int .i64) (ilen t3 : Int)))), (8, .s (.one (.val (.int .i64) (t5 : Int))))], objs := [], nx := 0 }

def T_impl_SigOf_lp0_e0 (t3 : List Int) (out8 : Int) (t9 : Int) (t10 : Bool) : St := { env := [(3, .s (.one (.val (.int .i64) (out8 : Int)))), (6, .s (.one (.val (.slice (.int .i64)) (t3 : List Int)))), (7, .s (.one (.val (.int .i64) (ilen t3 : Int)))), (8, .s (.one (.val (.int .i64) (t9 : Int)))), (9, .s (.one (.val (.bool) (t10 : Bool))))], objs := [], nx := 0 }

noncomputable def T_impl_SigOf_lp0_m (N : Nat) {R : Type} (n : Nat) (st : St) (K : Ex → St → Option R) : Option R := loopN (roundG (T_impl_SigOf_ann 100003) fun st k => sx tab (T_impl_SigOf_ctx N) T_impl_SigOf_ann N (nthLoop Try.f11 0) st k) n st K

theorem T_impl_SigOf_lp0_step (N : Nat) {R : Type} (n : Nat) (K : Ex → St → Option R) (out2 : Int) (t3 : List Int) (t5 : Int) :
    T_impl_SigOf_lp0_m N (n + 1) (T_impl_SigOf_lp0_sh out2 t3 t5) K =
    (bif decide (t5 < (ilen t3)) then
    (bif inb t5 (List.length t3) then
      ((T_impl_SigOne N (List.getD t3 (Int.toNat t5) (0 : Int))).bind fun o11 =>
        (T_impl_SigOf_lp0_m N n (T_impl_SigOf_lp0_sh (ior .i64 out2 o11.2.1) t3 (iadd .i64 t5 (1 : Int))) K)) else none)
    else
    (K (.exit 0) (T_impl_SigOf_lp0_e0 t3 out2 t5 (decide (t5 < (ilen t3)))))) := by kernel_rfl

theorem T_impl_SigOf_lp0_eq (N : Nat) {R : Type} (t3 : List Int) (K : Ex → St → Option R) : ∀ (n : Nat) (out2 : Int) (t5 : Int), T_impl_SigOf_lp0_m N n (T_impl_SigOf_lp0_sh out2 t3 t5) K = T_impl_SigOf_lp0 N t3 (fun out8 t9 t10 => (K (.exit 0) (T_impl_SigOf_lp0_e0 t3 out8 t9 t10))) n out2 t5
  | 0, _, _ => rfl
  | n + 1, out2, t5 => by rw [T_impl_SigOf_lp0_step, T_impl_SigOf_lp0]; (try simp only [T_impl_SigOf_lp0_eq N t3 K n])

theorem T_impl_SigOf_c1 (N : Nat) (l1 : List Int) (out12 : Int) (t13 : Int) (t14 : Bool) :
    ((ctxK tab (T_impl_SigOf_ctx N) T_impl_SigOf_ann N (theCode Try.f11) [1, 1, 0, 1, 0] (retK tab (T_impl_SigOf_sg N) Try.f11.results.toList some)) (.exit 0) (T_impl_SigOf_lp0_e0 l1 out12 t13 t14)) =
    (some ((), (out12, ()))) := by kernel_rfl

theorem T_impl_SigOf_den (N : Nat) (l1 : List Int) :
    den (R := ODen (T_impl_SigOf_sg N).ps × RDen (T_impl_SigOf_sg N).rs) tab (T_impl_SigOf_ctx N) T_impl_SigOf_ann N (T_impl_SigOf_sg N) Try.f11 (l1, ()) some =
    (T_impl_SigOf_lp0 N l1
    (fun out12 t13 t14 =>
      (some ((), (out12, ()))))
     N (0 : Int) (0 : Int)) := by
  have h : den (R := ODen (T_impl_SigOf_sg N).ps × RDen (T_impl_SigOf_sg N).rs) tab (T_impl_SigOf_ctx N) T_impl_SigOf_ann N (T_impl_SigOf_sg N) Try.f11 (l1, ()) some =
    (T_impl_SigOf_lp0_m N N (T_impl_SigOf_lp0_sh (0 : Int) l1 (0 : Int)) (ctxK tab (T_impl_SigOf_ctx N) T_impl_SigOf_ann N (theCode Try.f11) [1, 1, 0, 1, 0] (retK tab (T_impl_SigOf_sg N) Try.f11.results.toList some))) := by kernel_rfl
  rw [h]
  (try simp only [T_impl_SigOf_lp0_eq, T_impl_SigOf_c1]) <;> rfl

theorem T_impl_SigOf_ok (N : Nat) : chkBody Try.f11 (T_impl_SigOf_sg N).ps = true := by kernel_rfl

theorem T_impl_SigOf_callable : Callable Try.prog 11 := callable_of Try.func11 (show chkFn Try.f11 = true by kernel_rfl)

theorem T_impl_SigOf_good (N : Nat) : Good Try.prog 11 (T_impl_SigOf_sg N) :=
  good_body tabOk (ctx_cons (T_impl_SigOne_good N) T_impl_SigOne_callable ctx_nil) Try.func11 (T_impl_SigOf_ok N) (fun d _ h => ⟨N, (T_impl_SigOf_den N d.1).trans h⟩)

def T_laws_eqIntS_sg (N : Nat) : Sig := Sig.of [.v (.slice (.int .i64)) false, .v (.slice (.int .i64)) false] [(.bool, false)] (fun d => T_laws_eqIntS N d.1 d.2.1)

def T_laws_eqIntS_ann : Nat → List Ghost
  | 4 => [.canon [0, 1, 5, 14]]
  | 5 => [.canon [0, 1, 5]]
  | 6 => [.canon [0, 1, 5, 25]]
  | 7 => [.canon [4]]
  | 100004 => [.canon [0, 1, 5]]
  | _ => []

def T_laws_eqIntS_ctx (N : Nat) : Ctx := []

def T_laws_eqIntS_lp0_sh (a3 : List Int) (b4 : List Int) (i5 : Int) : St := { env := [(0, .s (.one (.val (.slice (.int .i64)) (a3 : List Int)))), (1, .s (.one (.val (.slice (.int .i64)) (b4 : List Int)))), (5, .s (.one (.val (.int .i64) (i5 : Int))))], objs := [], nx := 0 }

def T_laws_eqIntS_lp0_e0 (a3 : List Int) (b4 : List Int) : St := { env := [(4, .s (.one (.val (.bool) (false : Bool))))], objs := [], nx := 0 }

def T_laws_eqIntS_lp0_e1 (a3 : List Int) (b4 : List Int) (i6 : Int) (t7 : Bool) : St := { env := [(0, .s (.one (.val (.slice (.int .i64)) (a3 : List Int)))), (1, .s (.one (.val (.slice (.int .i64)) (b4 : List Int)))), (5, .s (.one (.val (.int .i64) (i6 : Int)))), (14, .s (.one (.val (.bool) (t7 : Bool))))], objs := [], nx := 0 }

noncomputable def T_laws_eqIntS_lp0_m (N : Nat) {R : Type} (n : Nat) (st : St) (K : Ex → St → Option R) : Option R := loopN (roundG (T_laws_eqIntS_ann 100004) fun st k => sx tab (T_laws_eqIntS_ctx N) T_laws_eqIntS_ann N (nthLoop Try.f12 0) st k) n st K

theorem T_laws_eqIntS_lp0_step (N : Nat) {R : Type} (n : Nat) (K : Ex → St → Option R) (a3 : List Int) (b4 : List Int) (i5 : Int) :
    T_laws_eqIntS_lp0_m N (n + 1) (T_laws_eqIntS_lp0_sh a3 b4 i5) K =
    (bif decide (i5 < (ilen a3)) then
    (bif inb i5 (List.length a3) then
      (bif inb i5 (List.length b4) then
        (bif (List.getD a3 (Int.toNat i5) (0 : Int)) != (List.getD b4 (Int.toNat i5) (0 : Int)) then
          (K .ret (T_laws_eqIntS_lp0_e0 a3 b4))
          else
          (T_laws_eqIntS_lp0_m N n (T_laws_eqIntS_lp0_sh a3 b4 (iadd .i64 i5 (1 : Int))) K)) else none) else none)
    else
    (K (.exit 0) (T_laws_eqIntS_lp0_e1 a3 b4 i5 (decide (i5 < (ilen a3)))))) := by kernel_rfl

theorem T_laws_eqIntS_lp0_eq (N : Nat) {R : Type} (a3 : List Int) (b4 : List Int) (K : Ex → St → Option R) : ∀ (n : Nat) (i5 : Int), T_laws_eqIntS_lp0_m N n (T_laws_eqIntS_lp0_sh a3 b4 i5) K = T_laws_eqIntS_lp0 N a3 b4 (K .ret (T_laws_eqIntS_lp0_e0 a3 b4)) (fun i6 t7 => (K (.exit 0) (T_laws_eqIntS_lp0_e1 a3 b4 i6 t7))) n i5
  | 0, _ => rfl
  | n + 1, i5 => by rw [T_laws_eqIntS_lp0_step, T_laws_eqIntS_lp0]; (try simp only [T_laws_eqIntS_lp0_eq N a3 b4 K n])

theorem T_laws_eqIntS_c1 (N : Nat) (a1 : List Int) (b2 : List Int) :
    ((ctxK tab (T_laws_eqIntS_ctx N) T_laws_eqIntS_ann N (theCode Try.f12) [1, 1, 0, 1, 0] (retK tab (T_laws_eqIntS_sg N) Try.f12.results.toList some)) .ret (T_laws_eqIntS_lp0_e0 a1 b2)) =
    (some ((), (false, ()))) := by kernel_rfl

theorem T_laws_eqIntS_c2 (N : Nat) (a1 : List Int) (b2 : List Int) (i8 : Int) (t9 : Bool) :
    ((ctxK tab (T_laws_eqIntS_ctx N) T_laws_eqIntS_ann N (theCode Try.f12) [1, 1, 0, 1, 0] (retK tab (T_laws_eqIntS_sg N) Try.f12.results.toList some)) (.exit 0) (T_laws_eqIntS_lp0_e1 a1 b2 i8 t9)) =
    (some ((), (true, ()))) := by kernel_rfl

theorem T_laws_eqIntS_den (N : Nat) (a1 : List Int) (b2 : List Int) :
    den (R := ODen (T_laws_eqIntS_sg N).ps × RDen (T_laws_eqIntS_sg N).rs) tab (T_laws_eqIntS_ctx N) T_laws_eqIntS_ann N (T_laws_eqIntS_sg N) Try.f12 (a1, b2, ()) some =
    (bif (ilen a1) != (ilen b2) then
    (some ((), (false, ())))
    else
    (T_laws_eqIntS_lp0 N a1 b2
      (some ((), (false, ())))
      (fun i8 t9 =>
        (some ((), (true, ()))))
       N (0 : Int))) := by
  have h : den (R := ODen (T_laws_eqIntS_sg N).ps × RDen (T_laws_eqIntS_sg N).rs) tab (T_laws_eqIntS_ctx N) T_laws_eqIntS_ann N (T_laws_eqIntS_sg N) Try.f12 (a1, b2, ()) some =
    (bif (ilen a1) != (ilen b2) then
    (some ((), (false, ())))
    else
    (T_laws_eqIntS_lp0_m N N (T_laws_eqIntS_lp0_sh a1 b2 (0 : Int)) (ctxK tab (T_laws_eqIntS_ctx N) T_laws_eqIntS_ann N (theCode Try.f12) [1, 1, 0, 1, 0] (retK tab (T_laws_eqIntS_sg N) Try.f12.results.toList some)))) := by kernel_rfl
  rw [h]
  (try simp only [T_laws_eqIntS_lp0_eq, T_laws_eqIntS_c1, T_laws_eqIntS_c2]) <;> rfl

theorem T_laws_eqIntS_ok (N : Nat) : chkBody Try.f12 (T_laws_eqIntS_sg N).ps = true := by kernel_rfl

theorem T_laws_eqIntS_callable : Callable Try.prog 12 := callable_of Try.func12 (show chkFn Try.f12 = true by kernel_rfl)

theorem T_laws_eqIntS_good (N : Nat) : Good Try.prog 12 (T_laws_eqIntS_sg N) :=
  good_body tabOk ctx_nil Try.func12 (T_laws_eqIntS_ok N) (fun d _ h => ⟨N, (T_laws_eqIntS_den N d.1 d.2.1).trans h⟩)

def T_laws_FnExactSigOf_sg (N : Nat) : Sig := Sig.of [.v (.slice (.int .i64)) false] [(.bool, false)] (fun d => T_laws_FnExactSigOf N d.1)

def T_laws_FnExactSigOf_ann : Nat → List Ghost
  | _ => []

def T_laws_FnExactSigOf_ctx (N : Nat) : Ctx := [(10, T_laws_toIntS_sg N), (9, T_spec_SigOf_sg N), (11, T_impl_SigOf_sg N), (12, T_laws_eqIntS_sg N)]

theorem T_laws_FnExactSigOf_den (N : Nat) (aL1 : List Int) :
    den (R := ODen (T_laws_FnExactSigOf_sg N).ps × RDen (T_laws_FnExactSigOf_sg N).rs) tab (T_laws_FnExactSigOf_ctx N) T_laws_FnExactSigOf_ann N (T_laws_FnExactSigOf_sg N) Try.f3 (aL1, ()) some =
    (bif decide ((ilen aL1) > (1048576 : Int)) then
    (some ((), (true, ())))
    else
    ((T_laws_toIntS N aL1).bind fun o2 =>
      ((T_spec_SigOf N o2.2.1).bind fun o3 =>
        ((T_laws_toIntS N aL1).bind fun o4 =>
          ((T_impl_SigOf N o4.2.1).bind fun o5 =>
            (bif o5.2.1 != o3.2.1 then
              (some ((), (false, ())))
              else
              ((T_laws_toIntS N aL1).bind fun o6 =>
                ((T_laws_eqIntS N o4.2.1 o6.2.1).bind fun o7 =>
                  (bif !o7.2.1 then
                    (some ((), (false, ())))
                    else
                    (some ((), (true, ())))))))))))) := by kernel_rfl

theorem T_laws_FnExactSigOf_ok (N : Nat) : chkBody Try.f3 (T_laws_FnExactSigOf_sg N).ps = true := by kernel_rfl

theorem T_laws_FnExactSigOf_callable : Callable Try.prog 3 := callable_of Try.func3 (show chkFn Try.f3 = true by kernel_rfl)

theorem T_laws_FnExactSigOf_good (N : Nat) : Good Try.prog 3 (T_laws_FnExactSigOf_sg N) :=
  good_body tabOk (ctx_cons (T_laws_toIntS_good N) T_laws_toIntS_callable (ctx_cons (T_spec_SigOf_good N) T_spec_SigOf_callable (ctx_cons (T_impl_SigOf_good N) T_impl_SigOf_callable (ctx_cons (T_laws_eqIntS_good N) T_laws_eqIntS_callable ctx_nil)))) Try.func3 (T_laws_FnExactSigOf_ok N) (fun d _ h => ⟨N, (T_laws_FnExactSigOf_den N d.1).trans h⟩)

end Go.Sx
