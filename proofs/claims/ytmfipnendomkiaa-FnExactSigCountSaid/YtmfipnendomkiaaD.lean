/- Each Go function does what its Lean function says. -/
import Derived.Test.YtmfipnendomkiaaT
import Derived.Test.YtmfipnendomkiaaProg
namespace Go.Sx
open Go.Proofs
set_option linter.unusedVariables false
set_option linter.unusedSimpArgs false

def tab : Tab := [(3, ⟨.int .i64, false, .basic⟩), (4, ⟨.bool, false, .basic⟩)]

theorem tabOk : TabOk Try.prog tab := tab_ok (show chkTab Try.prog tab tab = true by kernel_rfl)

def T_spec_l27Bit_sg (N : Nat) : Sig := Sig.of [.v (.int .i64) false] [(.int .i64, false)] (fun d => T_spec_l27Bit N d.1)

def T_spec_l27Bit_ann : Nat → List Ghost
  | 3 => [.canon [0, 3, 4, 7]]
  | 4 => [.canon [0, 3, 4]]
  | 5 => [.canon [0, 3, 4]]
  | 100003 => [.canon [0, 3, 4]]
  | _ => []

def T_spec_l27Bit_ctx (N : Nat) : Ctx := []

def T_spec_l27Bit_lp0_sh (k2 : Int) (n3 : Int) (i4 : Int) : St := { env := [(0, .s (.one (.val (.int .i64) (k2 : Int)))), (3, .s (.one (.val (.int .i64) (n3 : Int)))), (4, .s (.one (.val (.int .i64) (i4 : Int))))], objs := [], nx := 0 }

def T_spec_l27Bit_lp0_e0 (k2 : Int) (n5 : Int) (i6 : Int) (t7 : Bool) : St := { env := [(0, .s (.one (.val (.int .i64) (k2 : Int)))), (3, .s (.one (.val (.int .i64) (n5 : Int)))), (4, .s (.one (.val (.int .i64) (i6 : Int)))), (7, .s (.one (.val (.bool) (t7 : Bool))))], objs := [], nx := 0 }

noncomputable def T_spec_l27Bit_lp0_m (N : Nat) {R : Type} (n : Nat) (st : St) (K : Ex → St → Option R) : Option R := loopN (roundG (T_spec_l27Bit_ann 100003) fun st k => sx tab (T_spec_l27Bit_ctx N) T_spec_l27Bit_ann N (nthLoop Try.f23 0) st k) n st K

theorem T_spec_l27Bit_lp0_step (N : Nat) {R : Type} (n : Nat) (K : Ex → St → Option R) (k2 : Int) (n3 : Int) (i4 : Int) :
    T_spec_l27Bit_lp0_m N (n + 1) (T_spec_l27Bit_lp0_sh k2 n3 i4) K =
    (bif decide (i4 < k2) then
    (T_spec_l27Bit_lp0_m N n (T_spec_l27Bit_lp0_sh k2 (imul .i64 n3 (2 : Int)) (iadd .i64 i4 (1 : Int))) K)
    else
    (K (.exit 0) (T_spec_l27Bit_lp0_e0 k2 n3 i4 (decide (i4 < k2))))) := by kernel_rfl

theorem T_spec_l27Bit_lp0_eq (N : Nat) {R : Type} (k2 : Int) (K : Ex → St → Option R) : ∀ (n : Nat) (n3 : Int) (i4 : Int), T_spec_l27Bit_lp0_m N n (T_spec_l27Bit_lp0_sh k2 n3 i4) K = T_spec_l27Bit_lp0 N k2 (fun n5 i6 t7 => (K (.exit 0) (T_spec_l27Bit_lp0_e0 k2 n5 i6 t7))) n n3 i4
  | 0, _, _ => rfl
  | n + 1, n3, i4 => by rw [T_spec_l27Bit_lp0_step, T_spec_l27Bit_lp0]; (try simp only [T_spec_l27Bit_lp0_eq N k2 K n])

theorem T_spec_l27Bit_c1 (N : Nat) (k1 : Int) (n8 : Int) (i9 : Int) (t10 : Bool) :
    ((ctxK tab (T_spec_l27Bit_ctx N) T_spec_l27Bit_ann N (theCode Try.f23) [1, 1, 0, 1, 0] (retK tab (T_spec_l27Bit_sg N) Try.f23.results.toList some)) (.exit 0) (T_spec_l27Bit_lp0_e0 k1 n8 i9 t10)) =
    (some ((), (n8, ()))) := by kernel_rfl

theorem T_spec_l27Bit_den (N : Nat) (k1 : Int) :
    den (R := ODen (T_spec_l27Bit_sg N).ps × RDen (T_spec_l27Bit_sg N).rs) tab (T_spec_l27Bit_ctx N) T_spec_l27Bit_ann N (T_spec_l27Bit_sg N) Try.f23 (k1, ()) some =
    (T_spec_l27Bit_lp0 N k1
    (fun n8 i9 t10 =>
      (some ((), (n8, ()))))
     N (1 : Int) (0 : Int)) := by
  have h : den (R := ODen (T_spec_l27Bit_sg N).ps × RDen (T_spec_l27Bit_sg N).rs) tab (T_spec_l27Bit_ctx N) T_spec_l27Bit_ann N (T_spec_l27Bit_sg N) Try.f23 (k1, ()) some =
    (T_spec_l27Bit_lp0_m N N (T_spec_l27Bit_lp0_sh k1 (1 : Int) (0 : Int)) (ctxK tab (T_spec_l27Bit_ctx N) T_spec_l27Bit_ann N (theCode Try.f23) [1, 1, 0, 1, 0] (retK tab (T_spec_l27Bit_sg N) Try.f23.results.toList some))) := by kernel_rfl
  rw [h]
  (try simp only [T_spec_l27Bit_lp0_eq, T_spec_l27Bit_c1]) <;> rfl

theorem T_spec_l27Bit_ok (N : Nat) : chkBody Try.f23 (T_spec_l27Bit_sg N).ps = true := by kernel_rfl

theorem T_spec_l27Bit_callable : Callable Try.prog 23 := callable_of Try.func23 (show chkFn Try.f23 = true by kernel_rfl)

theorem T_spec_l27Bit_good (N : Nat) : Good Try.prog 23 (T_spec_l27Bit_sg N) :=
  good_body tabOk ctx_nil Try.func23 (T_spec_l27Bit_ok N) (fun d _ h => ⟨N, (T_spec_l27Bit_den N d.1).trans h⟩)

def T_spec_l27Has_sg (N : Nat) : Sig := Sig.of [.v (.int .i64) false, .v (.int .i64) false] [(.bool, false)] (fun d => T_spec_l27Has N d.1 d.2.1)

def T_spec_l27Has_ann : Nat → List Ghost
  | _ => []

def T_spec_l27Has_ctx (N : Nat) : Ctx := [(23, T_spec_l27Bit_sg N)]

theorem T_spec_l27Has_den (N : Nat) (sig1 : Int) (k2 : Int) :
    den (R := ODen (T_spec_l27Has_sg N).ps × RDen (T_spec_l27Has_sg N).rs) tab (T_spec_l27Has_ctx N) T_spec_l27Has_ann N (T_spec_l27Has_sg N) Try.f26 (sig1, k2, ()) some =
    (bif decide (sig1 ≥ (0 : Int)) then
    ((T_spec_l27Bit N k2).bind fun o3 =>
      (bif inz o3.2.1 then
        (bif inz (2 : Int) then
          (some ((), ((irem (iquo .i64 sig1 o3.2.1) (2 : Int)) == (1 : Int), ()))) else none) else none))
    else
    (some ((), (false, ())))) := by kernel_rfl

theorem T_spec_l27Has_ok (N : Nat) : chkBody Try.f26 (T_spec_l27Has_sg N).ps = true := by kernel_rfl

theorem T_spec_l27Has_callable : Callable Try.prog 26 := callable_of Try.func26 (show chkFn Try.f26 = true by kernel_rfl)

theorem T_spec_l27Has_good (N : Nat) : Good Try.prog 26 (T_spec_l27Has_sg N) :=
  good_body tabOk (ctx_cons (T_spec_l27Bit_good N) T_spec_l27Bit_callable ctx_nil) Try.func26 (T_spec_l27Has_ok N) (fun d _ h => ⟨N, (T_spec_l27Has_den N d.1 d.2.1).trans h⟩)

def T_spec_SigCount_sg (N : Nat) : Sig := Sig.of [.v (.int .i64) false] [(.int .i64, false)] (fun d => T_spec_SigCount N d.1)

def T_spec_SigCount_ann : Nat → List Ghost
  | 3 => [.canon [0, 3, 4, 6]]
  | 4 => [.canon [0, 3, 4]]
  | 5 => [.canon [0, 3, 4, 11]]
  | 6 => [.canon [0, 3, 4]]
  | 100003 => [.canon [0, 3, 4]]
  | _ => []

def T_spec_SigCount_ctx (N : Nat) : Ctx := [(26, T_spec_l27Has_sg N)]

def T_spec_SigCount_lp0_sh (sig2 : Int) (n3 : Int) (k4 : Int) : St := { env := [(0, .s (.one (.val (.int .i64) (sig2 : Int)))), (3, .s (.one (.val (.int .i64) (n3 : Int)))), (4, .s (.one (.val (.int .i64) (k4 : Int))))], objs := [], nx := 0 }

def T_spec_SigCount_lp0_e0 (sig2 : Int) (n6 : Int) (k7 : Int) (t8 : Bool) : St := { env := [(0, .s (.one (.val (.int .i64) (sig2 : Int)))), (3, .s (.one (.val (.int .i64) (n6 : Int)))), (4, .s (.one (.val (.int .i64) (k7 : Int)))), (6, .s (.one (.val (.bool) (t8 : Bool))))], objs := [], nx := 0 }

noncomputable def T_spec_SigCount_lp0_m (N : Nat) {R : Type} (n : Nat) (st : St) (K : Ex → St → Option R) : Option R := loopN (roundG (T_spec_SigCount_ann 100003) fun st k => sx tab (T_spec_SigCount_ctx N) T_spec_SigCount_ann N (nthLoop Try.f15 0) st k) n st K

theorem T_spec_SigCount_lp0_step (N : Nat) {R : Type} (n : Nat) (K : Ex → St → Option R) (sig2 : Int) (n3 : Int) (k4 : Int) :
    T_spec_SigCount_lp0_m N (n + 1) (T_spec_SigCount_lp0_sh sig2 n3 k4) K =
    (bif decide (k4 < (60 : Int)) then
    ((T_spec_l27Has N sig2 k4).bind fun o9 =>
      (bif o9.2.1 then
        (T_spec_SigCount_lp0_m N n (T_spec_SigCount_lp0_sh sig2 (iadd .i64 n3 (1 : Int)) (iadd .i64 k4 (1 : Int))) K)
        else
        (T_spec_SigCount_lp0_m N n (T_spec_SigCount_lp0_sh sig2 n3 (iadd .i64 k4 (1 : Int))) K)))
    else
    (K (.exit 0) (T_spec_SigCount_lp0_e0 sig2 n3 k4 (decide (k4 < (60 : Int)))))) := by kernel_rfl

theorem T_spec_SigCount_lp0_eq (N : Nat) {R : Type} (sig2 : Int) (K : Ex → St → Option R) : ∀ (n : Nat) (n3 : Int) (k4 : Int), T_spec_SigCount_lp0_m N n (T_spec_SigCount_lp0_sh sig2 n3 k4) K = T_spec_SigCount_lp0 N sig2 (fun n6 k7 t8 => (K (.exit 0) (T_spec_SigCount_lp0_e0 sig2 n6 k7 t8))) n n3 k4
  | 0, _, _ => rfl
  | n + 1, n3, k4 => by rw [T_spec_SigCount_lp0_step, T_spec_SigCount_lp0]; (try simp only [T_spec_SigCount_lp0_eq N sig2 K n])

theorem T_spec_SigCount_c1 (N : Nat) (sig1 : Int) (n10 : Int) (k11 : Int) (t12 : Bool) :
    ((ctxK tab (T_spec_SigCount_ctx N) T_spec_SigCount_ann N (theCode Try.f15) [1, 1, 0, 1, 0] (retK tab (T_spec_SigCount_sg N) Try.f15.results.toList some)) (.exit 0) (T_spec_SigCount_lp0_e0 sig1 n10 k11 t12)) =
    (some ((), (n10, ()))) := by kernel_rfl

theorem T_spec_SigCount_den (N : Nat) (sig1 : Int) :
    den (R := ODen (T_spec_SigCount_sg N).ps × RDen (T_spec_SigCount_sg N).rs) tab (T_spec_SigCount_ctx N) T_spec_SigCount_ann N (T_spec_SigCount_sg N) Try.f15 (sig1, ()) some =
    (T_spec_SigCount_lp0 N sig1
    (fun n10 k11 t12 =>
      (some ((), (n10, ()))))
     N (0 : Int) (0 : Int)) := by
  have h : den (R := ODen (T_spec_SigCount_sg N).ps × RDen (T_spec_SigCount_sg N).rs) tab (T_spec_SigCount_ctx N) T_spec_SigCount_ann N (T_spec_SigCount_sg N) Try.f15 (sig1, ()) some =
    (T_spec_SigCount_lp0_m N N (T_spec_SigCount_lp0_sh sig1 (0 : Int) (0 : Int)) (ctxK tab (T_spec_SigCount_ctx N) T_spec_SigCount_ann N (theCode Try.f15) [1, 1, 0, 1, 0] (retK tab (T_spec_SigCount_sg N) Try.f15.results.toList some))) := by kernel_rfl
  rw [h]
  (try simp only [T_spec_SigCount_lp0_eq, T_spec_SigCount_c1]) <;> rfl

theorem T_spec_SigCount_ok (N : Nat) : chkBody Try.f15 (T_spec_SigCount_sg N).ps = true := by kernel_rfl

theorem T_spec_SigCount_callable : Callable Try.prog 15 := callable_of Try.func15 (show chkFn Try.f15 = true by kernel_rfl)

theorem T_spec_SigCount_good (N : Nat) : Good Try.prog 15 (T_spec_SigCount_sg N) :=
  good_body tabOk (ctx_cons (T_spec_l27Has_good N) T_spec_l27Has_callable ctx_nil) Try.func15 (T_spec_SigCount_ok N) (fun d _ h => ⟨N, (T_spec_SigCount_den N d.1).trans h⟩)

def T_impl_bits_sg (N : Nat) : Sig := Sig.of [.v (.int .i64) false] [(.int .i64, false)] (fun d => T_impl_bits N d.1)

def T_impl_bits_ann : Nat → List Ghost
  | _ => []

def T_impl_bits_ctx (N : Nat) : Ctx := []

theorem T_impl_bits_den (N : Nat) (sig1 : Int) :
    den (R := ODen (T_impl_bits_sg N).ps × RDen (T_impl_bits_sg N).rs) tab (T_impl_bits_ctx N) T_impl_bits_ann N (T_impl_bits_sg N) Try.f27 (sig1, ()) some =
    (bif decide (sig1 < (0 : Int)) then
    (some ((), ((0 : Int), ())))
    else
    (some ((), (iand .i64 sig1 (1152921504606846975 : Int), ())))) := by kernel_rfl

theorem T_impl_bits_ok (N : Nat) : chkBody Try.f27 (T_impl_bits_sg N).ps = true := by kernel_rfl

theorem T_impl_bits_callable : Callable Try.prog 27 := callable_of Try.func27 (show chkFn Try.f27 = true by kernel_rfl)

theorem T_impl_bits_good (N : Nat) : Good Try.prog 27 (T_impl_bits_sg N) :=
  good_body tabOk ctx_nil Try.func27 (T_impl_bits_ok N) (fun d _ h => ⟨N, (T_impl_bits_den N d.1).trans h⟩)

def T_impl_SigCount_sg (N : Nat) : Sig := Sig.of [.v (.int .i64) false] [(.int .i64, false)] (fun d => T_impl_SigCount N d.1)

def T_impl_SigCount_ann : Nat → List Ghost
  | 3 => [.canon [3, 4, 8]]
  | 4 => [.canon [3, 4]]
  | 5 => [.canon [3, 4]]
  | 100003 => [.canon [3, 4]]
  | _ => []

def T_impl_SigCount_ctx (N : Nat) : Ctx := [(27, T_impl_bits_sg N)]

def T_impl_SigCount_lp0_sh (n3 : Int) (x4 : Int) : St := { env := [(3, .s (.one (.val (.int .i64) (n3 : Int)))), (4, .s (.one (.val (.int .i64) (x4 : Int))))], objs := [], nx := 0 }

def T_impl_SigCount_lp0_e0 (n5 : Int) (x6 : Int) (t7 : Bool) : St := { env := [(3, .s (.one (.val (.int .i64) (n5 : Int)))), (4, .s (.one (.val (.int .i64) (x6 : Int)))), (8, .s (.one (.val (.bool) (t7 : Bool))))], objs := [], nx := 0 }

noncomputable def T_impl_SigCount_lp0_m (N : Nat) {R : Type} (n : Nat) (st : St) (K : Ex → St → Option R) : Option R := loopN (roundG (T_impl_SigCount_ann 100003) fun st k => sx tab (T_impl_SigCount_ctx N) T_impl_SigCount_ann N (nthLoop Try.f16 0) st k) n st K

theorem T_impl_SigCount_lp0_step (N : Nat) {R : Type} (n : Nat) (K : Ex → St → Option R) (n3 : Int) (x4 : Int) :
    T_impl_SigCount_lp0_m N (n + 1) (T_impl_SigCount_lp0_sh n3 x4) K =
    (bif decide (x4 > (0 : Int)) then
    (T_impl_SigCount_lp0_m N n (T_impl_SigCount_lp0_sh (iadd .i64 n3 (1 : Int)) (iand .i64 x4 (isub .i64 x4 (1 : Int)))) K)
    else
    (K (.exit 0) (T_impl_SigCount_lp0_e0 n3 x4 (decide (x4 > (0 : Int)))))) := by kernel_rfl

theorem T_impl_SigCount_lp0_eq (N : Nat) {R : Type} (K : Ex → St → Option R) : ∀ (n : Nat) (n3 : Int) (x4 : Int), T_impl_SigCount_lp0_m N n (T_impl_SigCount_lp0_sh n3 x4) K = T_impl_SigCount_lp0 N (fun n5 x6 t7 => (K (.exit 0) (T_impl_SigCount_lp0_e0 n5 x6 t7))) n n3 x4
  | 0, _, _ => rfl
  | n + 1, n3, x4 => by rw [T_impl_SigCount_lp0_step, T_impl_SigCount_lp0]; (try simp only [T_impl_SigCount_lp0_eq N K n])

theorem T_impl_SigCount_c1 (N : Nat) (n8 : Int) (x9 : Int) (t10 : Bool) :
    ((ctxK tab (T_impl_SigCount_ctx N) T_impl_SigCount_ann N (theCode Try.f16) [1, 1, 0, 1, 0] (retK tab (T_impl_SigCount_sg N) Try.f16.results.toList some)) (.exit 0) (T_impl_SigCount_lp0_e0 n8 x9 t10)) =
    (some ((), (n8, ()))) := by kernel_rfl

theorem T_impl_SigCount_den (N : Nat) (sig1 : Int) :
    den (R := ODen (T_impl_SigCount_sg N).ps × RDen (T_impl_SigCount_sg N).rs) tab (T_impl_SigCount_ctx N) T_impl_SigCount_ann N (T_impl_SigCount_sg N) Try.f16 (sig1, ()) some =
    ((T_impl_bits N sig1).bind fun o2 =>
    (T_impl_SigCount_lp0 N
      (fun n8 x9 t10 =>
        (some ((), (n8, ()))))
       N (0 : Int) o2.2.1)) := by
  have h : den (R := ODen (T_impl_SigCount_sg N).ps × RDen (T_impl_SigCount_sg N).rs) tab (T_impl_SigCount_ctx N) T_impl_SigCount_ann N (T_impl_SigCount_sg N) Try.f16 (sig1, ()) some =
    ((T_impl_bits N sig1).bind fun o2 =>
    (T_impl_SigCount_lp0_m N N (T_impl_SigCount_lp0_sh (0 : Int) o2.2.1) (ctxK tab (T_impl_SigCount_ctx N) T_impl_SigCount_ann N (theCode Try.f16) [1, 1, 0, 1, 0] (retK tab (T_impl_SigCount_sg N) Try.f16.results.toList some)))) := by kernel_rfl
  rw [h]
  (try simp only [T_impl_SigCount_lp0_eq, T_impl_SigCount_c1]) <;> rfl

theorem T_impl_SigCount_ok (N : Nat) : chkBody Try.f16 (T_impl_SigCount_sg N).ps = true := by kernel_rfl

theorem T_impl_SigCount_callable : Callable Try.prog 16 := callable_of Try.func16 (show chkFn Try.f16 = true by kernel_rfl)

theorem T_impl_SigCount_good (N : Nat) : Good Try.prog 16 (T_impl_SigCount_sg N) :=
  good_body tabOk (ctx_cons (T_impl_bits_good N) T_impl_bits_callable ctx_nil) Try.func16 (T_impl_SigCount_ok N) (fun d _ h => ⟨N, (T_impl_SigCount_den N d.1).trans h⟩)

def T_laws_FnExactSigCount_sg (N : Nat) : Sig := Sig.of [.v (.int .i64) false] [(.bool, false)] (fun d => T_laws_FnExactSigCount N d.1)

def T_laws_FnExactSigCount_ann : Nat → List Ghost
  | _ => []

def T_laws_FnExactSigCount_ctx (N : Nat) : Ctx := [(15, T_spec_SigCount_sg N), (16, T_impl_SigCount_sg N)]

theorem T_laws_FnExactSigCount_den (N : Nat) (aSig1 : Int) :
    den (R := ODen (T_laws_FnExactSigCount_sg N).ps × RDen (T_laws_FnExactSigCount_sg N).rs) tab (T_laws_FnExactSigCount_ctx N) T_laws_FnExactSigCount_ann N (T_laws_FnExactSigCount_sg N) Try.f5 (aSig1, ()) some =
    ((T_spec_SigCount N aSig1).bind fun o2 =>
    ((T_impl_SigCount N aSig1).bind fun o3 =>
      (bif o3.2.1 != o2.2.1 then
        (some ((), (false, ())))
        else
        (some ((), (true, ())))))) := by kernel_rfl

theorem T_laws_FnExactSigCount_ok (N : Nat) : chkBody Try.f5 (T_laws_FnExactSigCount_sg N).ps = true := by kernel_rfl

theorem T_laws_FnExactSigCount_callable : Callable Try.prog 5 := callable_of Try.func5 (show chkFn Try.f5 = true by kernel_rfl)

theorem T_laws_FnExactSigCount_good (N : Nat) : Good Try.prog 5 (T_laws_FnExactSigCount_sg N) :=
  good_body tabOk (ctx_cons (T_spec_SigCount_good N) T_spec_SigCount_callable (ctx_cons (T_impl_SigCount_good N) T_impl_SigCount_callable ctx_nil)) Try.func5 (T_laws_FnExactSigCount_ok N) (fun d _ h => ⟨N, (T_laws_FnExactSigCount_den N d.1).trans h⟩)

end Go.Sx
