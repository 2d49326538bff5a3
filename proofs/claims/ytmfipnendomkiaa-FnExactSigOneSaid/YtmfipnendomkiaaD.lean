/- Each Go function does what its Lean function says. -/
import Derived.Test.YtmfipnendomkiaaT
import Derived.Test.YtmfipnendomkiaaProg
namespace Go.Sx
open Go.Proofs
set_option linter.unusedVariables false
set_option linter.unusedSimpArgs false

def tab : Tab := [(3, ⟨.int .i64, false, .basic⟩), (4, ⟨.bool, false, .basic⟩)]

theorem tabOk : TabOk Try.prog tab := tab_ok (show chkTab Try.prog tab tab = true by kernel_rfl)

def T_spec_l27Bit_sg (N : Nat) : Sig := Sig.of [.v (.int .i64) false] [(.int .i64, false)] (fun d => T_spec_l27Bit N d.1)

def T_spec_l27Bit_ann : Nat → List Ghost
  | 3 => [.canon [0, 3, 4, 7]]
  | 4 => [.canon [0, 3, 4]]
  | 5 => [.canon [0, 3, 4]]
  | 100003 => [.canon [0, 3, 4]]
  | _ => []

def T_spec_l27Bit_ctx (N : Nat) : Ctx := []

def T_spec_l27Bit_lp0_sh (k2 : Int) (n3 : Int) (i4 : Int) : St := { env := [(0, .s (.one (.val (.int .i64) (k2 : Int)))), (3, .s (.one (.val (.int .i64) (n3 : Int)))), (4, .s (.one (.val (.int .i64) (i4 : Int))))], objs := [], nx := 0 }

def T_spec_l27Bit_lp0_e0 (k2 : Int) (n5 : Int) (i6 : Int) (t7 : Bool) : St := { env := [(0, .s (.one (.val (.int .i64) (k2 : Int)))), (3, .s (.one (.val (.int .i64) (n5 : Int)))), (4, .s (.one (.val (.int .i64) (i6 : Int)))), (7, .s (.one (.val (.bool) (t7 : Bool))))], objs := [], nx := 0 }

noncomputable def T_spec_l27Bit_lp0_m (N : Nat) {R : Type} (n : Nat) (st : St) (K : Ex → St → Option R) : Option R := loopN (roundG (T_spec_l27Bit_ann 100003) fun st k => sx tab (T_spec_l27Bit_ctx N) T_spec_l27Bit_ann N (nthLoop Try.f23 0) st k) n st K

theorem T_spec_l27Bit_lp0_step (N : Nat) {R : Type} (n : Nat) (K : Ex → St → Option R) (k2 : Int) (n3 : Int) (i4 : Int) :
    T_spec_l27Bit_lp0_m N (n + 1) (T_spec_l27Bit_lp0_sh k2 n3 i4) K =
    (bif decide (i4 < k2) then
    (T_spec_l27Bit_lp0_m N n (T_spec_l27Bit_lp0_sh k2 (imul .i64 n3 (2 : Int)) (iadd .i64 i4 (1 : Int))) K)
    else
    (K (.exit 0) (T_spec_l27Bit_lp0_e0 k2 n3 i4 (decide (i4 < k2))))) := by kernel_rfl

theorem T_spec_l27Bit_lp0_eq (N : Nat) {R : Type} (k2 : Int) (K : Ex → St → Option R) : ∀ (n : Nat) (n3 : Int) (i4 : Int), T_spec_l27Bit_lp0_m N n (T_spec_l27Bit_lp0_sh k2 n3 i4) K = T_spec_l27Bit_lp0 N k2 (fun n5 i6 t7 => (K (.exit 0) (T_spec_l27Bit_lp0_e0 k2 n5 i6 t7))) n n3 i4
  | 0, _, _ => rfl
  | n + 1, n3, i4 => by rw [T_spec_l27Bit_lp0_step, T_spec_l27Bit_lp0]; (try simp only [T_spec_l27Bit_lp0_eq N k2 K n])

theorem T_spec_l27Bit_c1 (N : Nat) (k1 : Int) (n8 : Int) (i9 : Int) (t10 : Bool) :
    ((ctxK tab (T_spec_l27Bit_ctx N) T_spec_l27Bit_ann N (theCode Try.f23) [1, 1, 0, 1, 0] (retK tab (T_spec_l27Bit_sg N) Try.f23.results.toList some)) (.exit 0) (T_spec_l27Bit_lp0_e0 k1 n8 i9 t10)) =
    (some ((), (n8, ()))) := by kernel_rfl

theorem T_spec_l27Bit_den (N : Nat) (k1 : Int) :
    den (R := ODen (T_spec_l27Bit_sg N).ps × RDen (T_spec_l27Bit_sg N).rs) tab (T_spec_l27Bit_ctx N) T_spec_l27Bit_ann N (T_spec_l27Bit_sg N) Try.f23 (k1, ()) some =
    (T_spec_l27Bit_lp0 N k1
    (fun n8 i9 t10 =>
      (some ((), (n8, ()))))
     N (1 : Int) (0 : Int)) := by
  have h : den (R := ODen (T_spec_l27Bit_sg N).ps × RDen (T_spec_l27Bit_sg N).rs) tab (T_spec_l27Bit_ctx N) T_spec_l27Bit_ann N (T_spec_l27Bit_sg N) Try.f23 (k1, ()) some =
    (T_spec_l27Bit_lp0_m N N (T_spec_l27Bit_lp0_sh k1 (1 : Int) (0 : Int)) (ctxK tab (T_spec_l27Bit_ctx N) T_spec_l27Bit_ann N (theCode Try.f23) [1, 1, 0, 1, 0] (retK tab (T_spec_l27Bit_sg N) Try.f23.results.toList some))) := by kernel_rfl
  rw [h]
  (try simp only [T_spec_l27Bit_lp0_eq, T_spec_l27Bit_c1]) <;> rfl

theorem T_spec_l27Bit_ok (N : Nat) : chkBody Try.f23 (T_spec_l27Bit_sg N).ps = true := by kernel_rfl

theorem T_spec_l27Bit_callable : Callable Try.prog 23 := callable_of Try.func23 (show chkFn Try.f23 = true by kernel_rfl)

theorem T_spec_l27Bit_good (N : Nat) : Good Try.prog 23 (T_spec_l27Bit_sg N) :=
  good_body tabOk ctx_nil Try.func23 (T_spec_l27Bit_ok N) (fun d _ h => ⟨N, (T_spec_l27Bit_den N d.1).trans h⟩)

def T_spec_l27Mod_sg (N : Nat) : Sig := Sig.of [.v (.int .i64) false, .v (.int .i64) false] [(.int .i64, false)] (fun d => T_spec_l27Mod N d.1 d.2.1)

def T_spec_l27Mod_ann : Nat → List Ghost
  | _ => []

def T_spec_l27Mod_ctx (N : Nat) : Ctx := []

theorem T_spec_l27Mod_den (N : Nat) (x1 : Int) (n2 : Int) :
    den (R := ODen (T_spec_l27Mod_sg N).ps × RDen (T_spec_l27Mod_sg N).rs) tab (T_spec_l27Mod_ctx N) T_spec_l27Mod_ann N (T_spec_l27Mod_sg N) Try.f24 (x1, n2, ()) some =
    (bif inz n2 then
    (bif inz n2 then
      (some ((), (irem (iadd .i64 (irem x1 n2) n2) n2, ()))) else none) else none) := by kernel_rfl

theorem T_spec_l27Mod_ok (N : Nat) : chkBody Try.f24 (T_spec_l27Mod_sg N).ps = true := by kernel_rfl

theorem T_spec_l27Mod_callable : Callable Try.prog 24 := callable_of Try.func24 (show chkFn Try.f24 = true by kernel_rfl)

theorem T_spec_l27Mod_good (N : Nat) : Good Try.prog 24 (T_spec_l27Mod_sg N) :=
  good_body tabOk ctx_nil Try.func24 (T_spec_l27Mod_ok N) (fun d _ h => ⟨N, (T_spec_l27Mod_den N d.1 d.2.1).trans h⟩)

def T_spec_SigOne_sg (N : Nat) : Sig := Sig.of [.v (.int .i64) false] [(.int .i64, false)] (fun d => T_spec_SigOne N d.1)

def T_spec_SigOne_ann : Nat → List Ghost
  | _ => []

def T_spec_SigOne_ctx (N : Nat) : Ctx := [(24, T_spec_l27Mod_sg N), (23, T_spec_l27Bit_sg N)]

theorem T_spec_SigOne_den (N : Nat) (x1 : Int) :
    den (R := ODen (T_spec_SigOne_sg N).ps × RDen (T_spec_SigOne_sg N).rs) tab (T_spec_SigOne_ctx N) T_spec_SigOne_ann N (T_spec_SigOne_sg N) Try.f9 (x1, ()) some =
    ((T_spec_l27Mod N x1 (29 : Int)).bind fun o2 =>
    ((T_spec_l27Bit N o2.2.1).bind fun o3 =>
      ((T_spec_l27Mod N x1 (31 : Int)).bind fun o4 =>
        ((T_spec_l27Bit N (iadd .i64 (29 : Int) o4.2.1)).bind fun o5 =>
          (some ((), (iadd .i64 o3.2.1 o5.2.1, ()))))))) := by kernel_rfl

theorem T_spec_SigOne_ok (N : Nat) : chkBody Try.f9 (T_spec_SigOne_sg N).ps = true := by kernel_rfl

theorem T_spec_SigOne_callable : Callable Try.prog 9 := callable_of Try.func9 (show chkFn Try.f9 = true by kernel_rfl)

theorem T_spec_SigOne_good (N : Nat) : Good Try.prog 9 (T_spec_SigOne_sg N) :=
  good_body tabOk (ctx_cons (T_spec_l27Mod_good N) T_spec_l27Mod_callable (ctx_cons (T_spec_l27Bit_good N) T_spec_l27Bit_callable ctx_nil)) Try.func9 (T_spec_SigOne_ok N) (fun d _ h => ⟨N, (T_spec_SigOne_den N d.1).trans h⟩)

def T_impl_remainder_sg (N : Nat) : Sig := Sig.of [.v (.int .i64) false, .v (.int .i64) false] [(.int .i64, false)] (fun d => T_impl_remainder N d.1 d.2.1)

def T_impl_remainder_ann : Nat → List Ghost
  | _ => []

def T_impl_remainder_ctx (N : Nat) : Ctx := []

theorem T_impl_remainder_den (N : Nat) (x1 : Int) (n2 : Int) :
    den (R := ODen (T_impl_remainder_sg N).ps × RDen (T_impl_remainder_sg N).rs) tab (T_impl_remainder_ctx N) T_impl_remainder_ann N (T_impl_remainder_sg N) Try.f25 (x1, n2, ()) some =
    (bif inz n2 then
    (bif inz n2 then
      (some ((), (irem (iadd .i64 (irem x1 n2) n2) n2, ()))) else none) else none) := by kernel_rfl

theorem T_impl_remainder_ok (N : Nat) : chkBody Try.f25 (T_impl_remainder_sg N).ps = true := by kernel_rfl

theorem T_impl_remainder_callable : Callable Try.prog 25 := callable_of Try.func25 (show chkFn Try.f25 = true by kernel_rfl)

theorem T_impl_remainder_good (N : Nat) : Good Try.prog 25 (T_impl_remainder_sg N) :=
  good_body tabOk ctx_nil Try.func25 (T_impl_remainder_ok N) (fun d _ h => ⟨N, (T_impl_remainder_den N d.1 d.2.1).trans h⟩)

def T_impl_SigOne_sg (N : Nat) : Sig := Sig.of [.v (.int .i64) false] [(.int .i64, false)] (fun d => T_impl_SigOne N d.1)

def T_impl_SigOne_ann : Nat → List Ghost
  | _ => []

def T_impl_SigOne_ctx (N : Nat) : Ctx := [(25, T_impl_remainder_sg N)]

theorem T_impl_SigOne_den (N : Nat) (x1 : Int) :
    den (R := ODen (T_impl_SigOne_sg N).ps × RDen (T_impl_SigOne_sg N).rs) tab (T_impl_SigOne_ctx N) T_impl_SigOne_ann N (T_impl_SigOne_sg N) Try.f10 (x1, ()) some =
    ((T_impl_remainder N x1 (29 : Int)).bind fun o2 =>
    (bif inn o2.2.1 then
      ((T_impl_remainder N x1 (31 : Int)).bind fun o3 =>
        (bif inn (iadd .i64 (29 : Int) o3.2.1) then
          (some ((), (ior .i64 (ishl .i64 (1 : Int) o2.2.1) (ishl .i64 (1 : Int) (iadd .i64 (29 : Int) o3.2.1)), ()))) else none)) else none)) := by kernel_rfl

theorem T_impl_SigOne_ok (N : Nat) : chkBody Try.f10 (T_impl_SigOne_sg N).ps = true := by kernel_rfl

theorem T_impl_SigOne_callable : Callable Try.prog 10 := callable_of Try.func10 (show chkFn Try.f10 = true by kernel_rfl)

theorem T_impl_SigOne_good (N : Nat) : Good Try.prog 10 (T_impl_SigOne_sg N) :=
  good_body tabOk (ctx_cons (T_impl_remainder_good N) T_impl_remainder_callable ctx_nil) Try.func10 (T_impl_SigOne_ok N) (fun d _ h => ⟨N, (T_impl_SigOne_den N d.1).trans h⟩)

def T_laws_FnExactSigOne_sg (N : Nat) : Sig := Sig.of [.v (.int .i64) false] [(.bool, false)] (fun d => T_laws_FnExactSigOne N d.1)

def T_laws_FnExactSigOne_ann : Nat → List Ghost
  | _ => []

def T_laws_FnExactSigOne_ctx (N : Nat) : Ctx := [(9, T_spec_SigOne_sg N), (10, T_impl_SigOne_sg N)]

theorem T_laws_FnExactSigOne_den (N : Nat) (aX1 : Int) :
    den (R := ODen (T_laws_FnExactSigOne_sg N).ps × RDen (T_laws_FnExactSigOne_sg N).rs) tab (T_laws_FnExactSigOne_ctx N) T_laws_FnExactSigOne_ann N (T_laws_FnExactSigOne_sg N) Try.f3 (aX1, ()) some =
    ((T_spec_SigOne N aX1).bind fun o2 =>
    ((T_impl_SigOne N aX1).bind fun o3 =>
      (bif o3.2.1 != o2.2.1 then
        (some ((), (false, ())))
        else
        (some ((), (true, ())))))) := by kernel_rfl

theorem T_laws_FnExactSigOne_ok (N : Nat) : chkBody Try.f3 (T_laws_FnExactSigOne_sg N).ps = true := by kernel_rfl

theorem T_laws_FnExactSigOne_callable : Callable Try.prog 3 := callable_of Try.func3 (show chkFn Try.f3 = true by kernel_rfl)

theorem T_laws_FnExactSigOne_good (N : Nat) : Good Try.prog 3 (T_laws_FnExactSigOne_sg N) :=
  good_body tabOk (ctx_cons (T_spec_SigOne_good N) T_spec_SigOne_callable (ctx_cons (T_impl_SigOne_good N) T_impl_SigOne_callable ctx_nil)) Try.func3 (T_laws_FnExactSigOne_ok N) (fun d _ h => ⟨N, (T_laws_FnExactSigOne_den N d.1).trans h⟩)

end Go.Sx
