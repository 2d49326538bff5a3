/- Each Go function does what its Lean function says. -/
import Derived.Test.YtmfipnendomkiaaT
import Derived.Test.YtmfipnendomkiaaProg
namespace Go.Sx
open Go.Proofs
set_option linter.unusedVariables false
set_option linter.unusedSimpArgs false

def tab : Tab := [(3, ⟨.int .i64, false, .basic⟩), (4, ⟨.bool, false, .basic⟩)]

theorem tabOk : TabOk Try.prog tab := tab_ok (show chkTab Try.prog tab tab = true by kernel_rfl)

def T_spec_l27Mod_sg (N : Nat) : Sig := Sig.of [.v (.int .i64) false, .v (.int .i64) false] [(.int .i64, false)] (fun d => T_spec_l27Mod N d.1 d.2.1)

def T_spec_l27Mod_ann : Nat → List Ghost
  | _ => []

def T_spec_l27Mod_ctx (N : Nat) : Ctx := []

theorem T_spec_l27Mod_den (N : Nat) (x1 : Int) (n2 : Int) :
    den (R := ODen (T_spec_l27Mod_sg N).ps × RDen (T_spec_l27Mod_sg N).rs) tab (T_spec_l27Mod_ctx N) T_spec_l27Mod_ann N (T_spec_l27Mod_sg N) Try.f24 (x1, n2, ()) some =
    (bif inz n2 then
    (bif inz n2 then
      (some ((), (irem (iadd .i64 (irem x1 n2) n2) n2, ()))) else none) else none) := by kernel_rfl

theorem T_spec_l27Mod_ok (N : Nat) : chkBody Try.f24 (T_spec_l27Mod_sg N).ps = true := by kernel_rfl

theorem T_spec_l27Mod_callable : Callable Try.prog 24 := callable_of Try.func24 (show chkFn Try.f24 = true by kernel_rfl)

theorem T_spec_l27Mod_good (N : Nat) : Good Try.prog 24 (T_spec_l27Mod_sg N) :=
  good_body tabOk ctx_nil Try.func24 (T_spec_l27Mod_ok N) (fun d _ h => ⟨N, (T_spec_l27Mod_den N d.1 d.2.1).trans h⟩)

def T_spec_l27Bit_sg (N : Nat) : Sig := Sig.of [.v (.int .i64) false] [(.int .i64, false)] (fun d => T_spec_l27Bit N d.1)

def T_spec_l27Bit_ann : Nat → List Ghost
  | 3 => [.canon [0, 3, 4, 7]]
  | 4 => [.canon [0, 3, 4]]
  | 5 => [.canon [0, 3, 4]]
  | 100003 => [.canon [0, 3, 4]]
  | _ => []

def T_spec_l27Bit_ctx (N : Nat) : Ctx := []

def T_spec_l27Bit_lp0_sh (k2 : Int) (n3 : Int) (i4 : Int) : St := { env := [(0, .s (.one (.val (.int .i64) (k2 : Int)))), (3, .s (.one (.val (.int .i64) (n3 : Int)))), (4, .s (.one (.val (.int .i64) (i4 : Int))))], objs := [], nx := 0 }

def T_spec_l27Bit_lp0_e0 (k2 : Int) (n5 : Int) (i6 : Int) (t7 : Bool) : St := { env := [(0, .s (.one (.val (.int .i64) (k2 : Int)))), (3, .s (.one (.val (.int .i64) (n5 : Int)))), (4, .s (.one (.val (.int .i64) (i6 : Int)))), (7, .s (.one (.val (.bool) (t7 : Bool))))], objs := [], nx := 0 }

noncomputable def T_spec_l27Bit_lp0_m (N : Nat) {R : Type} (n : Nat) (st : St) (K : Ex → St → Option R) : Option R := loopN (roundG (T_spec_l27Bit_ann 100003) fun st k => sx tab (T_spec_l27Bit_ctx N) T_spec_l27Bit_ann N (nthLoop Try.f23 0) st k) n st K

theorem T_spec_l27Bit_lp0_step (N : Nat) {R : Type} (n : Nat) (K : Ex → St → Option R) (k2 : Int) (n3 : Int) (i4 : Int) :
    T_spec_l27Bit_lp0_m N (n + 1) (T_spec_l27Bit_lp0_sh k2 n3 i4) K =
    (bif decide (i4 < k2) then
    (T_spec_l27Bit_lp0_m N n (T_spec_l27Bit_lp0_sh k2 (imul .i64 n3 (2 : Int)) (iadd .i64 i4 (1 : Int))) K)
    else
    (K (.exit 0) (T_spec_l27Bit_lp0_e0 k2 n3 i4 (decide (i4 < k2))))) := by kernel_rfl

theorem T_spec_l27Bit_lp0_eq (N : Nat) {R : Type} (k2 : Int) (K : Ex → St → Option R) : ∀ (n : Nat) (n3 : Int) (i4 : Int), T_spec_l27Bit_lp0_m N n (T_spec_l27Bit_lp0_sh k2 n3 i4) K = T_spec_l27Bit_lp0 N k2 (fun n5 i6 t7 => (K (.exit 0) (T_spec_l27Bit_lp0_e0 k2 n5 i6 t7))) n n3 i4
  | 0, _, _ => rfl
  | n + 1, n3, i4 => by rw [T_spec_l27Bit_lp0_step, T_spec_l27Bit_lp0]; (try simp only [T_spec_l27Bit_lp0_eq N k2 K n])

theorem T_spec_l27Bit_c1 (N : Nat) (k1 : Int) (n8 : Int) (i9 : Int) (t10 : Bool) :
    ((ctxK tab (T_spec_l27Bit_ctx N) T_spec_l27Bit_ann N (theCode Try.f23) [1, 1, 0, 1, 0] (retK tab (T_spec_l27Bit_sg N) Try.f23.results.toList some)) (.exit 0) (T_spec_l27Bit_lp0_e0 k1 n8 i9 t10)) =
    (some ((), (n8, ()))) := by kernel_rfl

theorem T_spec_l27Bit_den (N : Nat) (k1 : Int) :
    den (R := ODen (T_spec_l27Bit_sg N).ps × RDen (T_spec_l27Bit_sg N).rs) tab (T_spec_l27Bit_ctx N) T_spec_l27Bit_ann N (T_spec_l27Bit_sg N) Try.f23 (k1, ()) some =
    (T_spec_l27Bit_lp0 N k1
    (fun n8 i9 t10 =>
      (some ((), (n8, ()))))
     N (1 : Int) (0 : Int)) := by
  have h : den (R := ODen (T_spec_l27Bit_sg N).ps × RDen (T_spec_l27Bit_sg N).rs) tab (T_spec_l27Bit_ctx N) T_spec_l27Bit_ann N (T_spec_l27Bit_sg N) Try.f23 (k1, ()) some =
    (T_spec_l27Bit_lp0_m N N (T_spec_l27Bit_lp0_sh k1 (1 : Int) (0 : Int)) (ctxK tab (T_spec_l27Bit_ctx N) T_spec_l27Bit_ann N (theCode Try.f23) [1, 1, 0, 1, 0] (retK tab (T_spec_l27Bit_sg N) Try.f23.results.toList some))) := by kernel_rfl
  rw [h]
  (try simp only [T_spec_l27Bit_lp0_eq, T_spec_l27Bit_c1]) <;> rfl

theorem T_spec_l27Bit_ok (N : Nat) : chkBody Try.f23 (T_spec_l27Bit_sg N).ps = true := by kernel_rfl

theorem T_spec_l27Bit_callable : Callable Try.prog 23 := callable_of Try.func23 (show chkFn Try.f23 = true by kernel_rfl)

theorem T_spec_l27Bit_good (N : Nat) : Good Try.prog 23 (T_spec_l27Bit_sg N) :=
  good_body tabOk ctx_nil Try.func23 (T_spec_l27Bit_ok N) (fun d _ h => ⟨N, (T_spec_l27Bit_den N d.1).trans h⟩)

def T_spec_l27Has_sg (N : Nat) : Sig := Sig.of [.v (.int .i64) false, .v (.int .i64) false] [(.bool, false)] (fun d => T_spec_l27Has N d.1 d.2.1)

def T_spec_l27Has_ann : Nat → List Ghost
  | _ => []

def T_spec_l27Has_ctx (N : Nat) : Ctx := [(23, T_spec_l27Bit_sg N)]

theorem T_spec_l27Has_den (N : Nat) (sig1 : Int) (k2 : Int) :
    den (R := ODen (T_spec_l27Has_sg N).ps × RDen (T_spec_l27Has_sg N).rs) tab (T_spec_l27Has_ctx N) T_spec_l27Has_ann N (T_spec_l27Has_sg N) Try.f26 (sig1, k2, ()) some =
    (bif decide (sig1 ≥ (0 : Int)) then
    ((T_spec_l27Bit N k2).bind fun o3 =>
      (bif inz o3.2.1 then
        (bif inz (2 : Int) then
          (some ((), ((irem (iquo .i64 sig1 o3.2.1) (2 : Int)) == (1 : Int), ()))) else none) else none))
    else
    (some ((), (false, ())))) := by kernel_rfl

theorem T_spec_l27Has_ok (N : Nat) : chkBody Try.f26 (T_spec_l27Has_sg N).ps = true := by kernel_rfl

theorem T_spec_l27Has_callable : Callable Try.prog 26 := callable_of Try.func26 (show chkFn Try.f26 = true by kernel_rfl)

theorem T_spec_l27Has_good (N : Nat) : Good Try.prog 26 (T_spec_l27Has_sg N) :=
  good_body tabOk (ctx_cons (T_spec_l27Bit_good N) T_spec_l27Bit_callable ctx_nil) Try.func26 (T_spec_l27Has_ok N) (fun d _ h => ⟨N, (T_spec_l27Has_den N d.1 d.2.1).trans h⟩)

def T_spec_SigHas_sg (N : Nat) : Sig := Sig.of [.v (.int .i64) false, .v (.int .i64) false] [(.bool, false)] (fun d => T_spec_SigHas N d.1 d.2.1)

def T_spec_SigHas_ann : Nat → List Ghost
  | _ => []

def T_spec_SigHas_ctx (N : Nat) : Ctx := [(24, T_spec_l27Mod_sg N), (26, T_spec_l27Has_sg N)]

theorem T_spec_SigHas_den (N : Nat) (sig1 : Int) (x2 : Int) :
    den (R := ODen (T_spec_SigHas_sg N).ps × RDen (T_spec_SigHas_sg N).rs) tab (T_spec_SigHas_ctx N) T_spec_SigHas_ann N (T_spec_SigHas_sg N) Try.f19 (sig1, x2, ()) some =
    ((T_spec_l27Mod N x2 (29 : Int)).bind fun o3 =>
    ((T_spec_l27Has N sig1 o3.2.1).bind fun o4 =>
      (bif o4.2.1 then
        ((T_spec_l27Mod N x2 (31 : Int)).bind fun o5 =>
          ((T_spec_l27Has N sig1 (iadd .i64 (29 : Int) o5.2.1)).bind fun o6 =>
            (some ((), (o6.2.1, ())))))
        else
        (some ((), (false, ())))))) := by kernel_rfl

theorem T_spec_SigHas_ok (N : Nat) : chkBody Try.f19 (T_spec_SigHas_sg N).ps = true := by kernel_rfl

theorem T_spec_SigHas_callable : Callable Try.prog 19 := callable_of Try.func19 (show chkFn Try.f19 = true by kernel_rfl)

theorem T_spec_SigHas_good (N : Nat) : Good Try.prog 19 (T_spec_SigHas_sg N) :=
  good_body tabOk (ctx_cons (T_spec_l27Mod_good N) T_spec_l27Mod_callable (ctx_cons (T_spec_l27Has_good N) T_spec_l27Has_callable ctx_nil)) Try.func19 (T_spec_SigHas_ok N) (fun d _ h => ⟨N, (T_spec_SigHas_den N d.1 d.2.1).trans h⟩)

def T_impl_remainder_sg (N : Nat) : Sig := Sig.of [.v (.int .i64) false, .v (.int .i64) false] [(.int .i64, false)] (fun d => T_impl_remainder N d.1 d.2.1)

def T_impl_remainder_ann : Nat → List Ghost
  | _ => []

def T_impl_remainder_ctx (N : Nat) : Ctx := []

theorem T_impl_remainder_den (N : Nat) (x1 : Int) (n2 : Int) :
    den (R := ODen (T_impl_remainder_sg N).ps × RDen (T_impl_remainder_sg N).rs) tab (T_impl_remainder_ctx N) T_impl_remainder_ann N (T_impl_remainder_sg N) Try.f25 (x1, n2, ()) some =
    (bif inz n2 then
    (bif inz n2 then
      (some ((), (irem (iadd .i64 (irem x1 n2) n2) n2, ()))) else none) else none) := by kernel_rfl

theorem T_impl_remainder_ok (N : Nat) : chkBody Try.f25 (T_impl_remainder_sg N).ps = true := by kernel_rfl

theorem T_impl_remainder_callable : Callable Try.prog 25 := callable_of Try.func25 (show chkFn Try.f25 = true by kernel_rfl)

theorem T_impl_remainder_good (N : Nat) : Good Try.prog 25 (T_impl_remainder_sg N) :=
  good_body tabOk ctx_nil Try.func25 (T_impl_remainder_ok N) (fun d _ h => ⟨N, (T_impl_remainder_den N d.1 d.2.1).trans h⟩)

def T_impl_SigOne_sg (N : Nat) : Sig := Sig.of [.v (.int .i64) false] [(.int .i64, false)] (fun d => T_impl_SigOne N d.1)

def T_impl_SigOne_ann : Nat → List Ghost
  | _ => []

def T_impl_SigOne_ctx (N : Nat) : Ctx := [(25, T_impl_remainder_sg N)]

theorem T_impl_SigOne_den (N : Nat) (x1 : Int) :
    den (R := ODen (T_impl_SigOne_sg N).ps × RDen (T_impl_SigOne_sg N).rs) tab (T_impl_SigOne_ctx N) T_impl_SigOne_ann N (T_impl_SigOne_sg N) Try.f10 (x1, ()) some =
    ((T_impl_remainder N x1 (29 : Int)).bind fun o2 =>
    (bif inn o2.2.1 then
      ((T_impl_remainder N x1 (31 : Int)).bind fun o3 =>
        (bif inn (iadd .i64 (29 : Int) o3.2.1) then
          (some ((), (ior .i64 (ishl .i64 (1 : Int) o2.2.1) (ishl .i64 (1 : Int) (iadd .i64 (29 : Int) o3.2.1)), ()))) else none)) else none)) := by kernel_rfl

theorem T_impl_SigOne_ok (N : Nat) : chkBody Try.f10 (T_impl_SigOne_sg N).ps = true := by kernel_rfl

theorem T_impl_SigOne_callable : Callable Try.prog 10 := callable_of Try.func10 (show chkFn Try.f10 = true by kernel_rfl)

theorem T_impl_SigOne_good (N : Nat) : Good Try.prog 10 (T_impl_SigOne_sg N) :=
  good_body tabOk (ctx_cons (T_impl_remainder_good N) T_impl_remainder_callable ctx_nil) Try.func10 (T_impl_SigOne_ok N) (fun d _ h => ⟨N, (T_impl_SigOne_den N d.1).trans h⟩)

def T_impl_bits_sg (N : Nat) : Sig := Sig.of [.v (.int .i64) false] [(.int .i64, false)] (fun d => T_impl_bits N d.1)

def T_impl_bits_ann : Nat → List Ghost
  | _ => []

def T_impl_bits_ctx (N : Nat) : Ctx := []

theorem T_impl_bits_den (N : Nat) (sig1 : Int) :
    den (R := ODen (T_impl_bits_sg N).ps × RDen (T_impl_bits_sg N).rs) tab (T_impl_bits_ctx N) T_impl_bits_ann N (T_impl_bits_sg N) Try.f27 (sig1, ()) some =
    (bif decide (sig1 < (0 : Int)) then
    (some ((), ((0 : Int), ())))
    else
    (some ((), (iand .i64 sig1 (1152921504606846975 : Int), ())))) := by kernel_rfl

theorem T_impl_bits_ok (N : Nat) : chkBody Try.f27 (T_impl_bits_sg N).ps = true := by kernel_rfl

theorem T_impl_bits_callable : Callable Try.prog 27 := callable_of Try.func27 (show chkFn Try.f27 = true by kernel_rfl)

theorem T_impl_bits_good (N : Nat) : Good Try.prog 27 (T_impl_bits_sg N) :=
  good_body tabOk ctx_nil Try.func27 (T_impl_bits_ok N) (fun d _ h => ⟨N, (T_impl_bits_den N d.1).trans h⟩)

def T_impl_SigHas_sg (N : Nat) : Sig := Sig.of [.v (.int .i64) false, .v (.int .i64) false] [(.bool, false)] (fun d => T_impl_SigHas N d.1 d.2.1)

def T_impl_SigHas_ann : Nat → List Ghost
  | _ => []

def T_impl_SigHas_ctx (N : Nat) : Ctx := [(10, T_impl_SigOne_sg N), (27, T_impl_bits_sg N)]

theorem T_impl_SigHas_den (N : Nat) (sig1 : Int) (x2 : Int) :
    den (R := ODen (T_impl_SigHas_sg N).ps × RDen (T_impl_SigHas_sg N).rs) tab (T_impl_SigHas_ctx N) T_impl_SigHas_ann N (T_impl_SigHas_sg N) Try.f20 (sig1, x2, ()) some =
    ((T_impl_SigOne N x2).bind fun o3 =>
    ((T_impl_bits N sig1).bind fun o4 =>
      (some ((), ((iand .i64 o4.2.1 o3.2.1) == o3.2.1, ()))))) := by kernel_rfl

theorem T_impl_SigHas_ok (N : Nat) : chkBody Try.f20 (T_impl_SigHas_sg N).ps = true := by kernel_rfl

theorem T_impl_SigHas_callable : Callable Try.prog 20 := callable_of Try.func20 (show chkFn Try.f20 = true by kernel_rfl)

theorem T_impl_SigHas_good (N : Nat) : Good Try.prog 20 (T_impl_SigHas_sg N) :=
  good_body tabOk (ctx_cons (T_impl_SigOne_good N) T_impl_SigOne_callable (ctx_cons (T_impl_bits_good N) T_impl_bits_callable ctx_nil)) Try.func20 (T_impl_SigHas_ok N) (fun d _ h => ⟨N, (T_impl_SigHas_den N d.1 d.2.1).trans h⟩)

def T_laws_FnExactSigHas_sg (N : Nat) : Sig := Sig.of [.v (.int .i64) false, .v (.int .i64) false] [(.bool, false)] (fun d => T_laws_FnExactSigHas N d.1 d.2.1)

def T_laws_FnExactSigHas_ann : Nat → List Ghost
  | _ => []

def T_laws_FnExactSigHas_ctx (N : Nat) : Ctx := [(19, T_spec_SigHas_sg N), (20, T_impl_SigHas_sg N)]

theorem T_laws_FnExactSigHas_den (N : Nat) (aSig1 : Int) (aX2 : Int) :
    den (R := ODen (T_laws_FnExactSigHas_sg N).ps × RDen (T_laws_FnExactSigHas_sg N).rs) tab (T_laws_FnExactSigHas_ctx N) T_laws_FnExactSigHas_ann N (T_laws_FnExactSigHas_sg N) Try.f7 (aSig1, aX2, ()) some =
    ((T_spec_SigHas N aSig1 aX2).bind fun o3 =>
    ((T_impl_SigHas N aSig1 aX2).bind fun o4 =>
      (bif !(beq o4.2.1 o3.2.1) then
        (some ((), (false, ())))
        else
        (some ((), (true, ())))))) := by kernel_rfl

theorem T_laws_FnExactSigHas_ok (N : Nat) : chkBody Try.f7 (T_laws_FnExactSigHas_sg N).ps = true := by kernel_rfl

theorem T_laws_FnExactSigHas_callable : Callable Try.prog 7 := callable_of Try.func7 (show chkFn Try.f7 = true by kernel_rfl)

theorem T_laws_FnExactSigHas_good (N : Nat) : Good Try.prog 7 (T_laws_FnExactSigHas_sg N) :=
  good_body tabOk (ctx_cons (T_spec_SigHas_good N) T_spec_SigHas_callable (ctx_cons (T_impl_SigHas_good N) T_impl_SigHas_callable ctx_nil)) Try.func7 (T_laws_FnExactSigHas_ok N) (fun d _ h => ⟨N, (T_laws_FnExactSigHas_den N d.1 d.2.1).trans h⟩)

end Go.Sx
