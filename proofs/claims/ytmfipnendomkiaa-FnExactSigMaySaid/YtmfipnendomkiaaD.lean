/- Each Go function does what its Lean function says. -/
import Derived.Test.YtmfipnendomkiaaT
import Derived.Test.YtmfipnendomkiaaProg
namespace Go.Sx
open Go.Proofs
set_option linter.unusedVariables false
set_option linter.unusedSimpArgs false

def tab : Tab := [(3, ⟨.int .i64, false, .basic⟩), (4, ⟨.bool, false, .basic⟩)]

theorem tabOk : TabOk Try.prog tab := tab_ok (show chkTab Try.prog tab tab = true by kernel_rfl)

def T_spec_l27Bit_sg (N : Nat) : Sig := Sig.of [.v (.int .i64) false] [(.int .i64, false)] (fun d => T_spec_l27Bit N d.1)

def T_spec_l27Bit_ann : Nat → List Ghost
  | 3 => [.canon [0, 3, 4, 7]]
  | 4 => [.canon [0, 3, 4]]
  | 5 => [.canon [0, 3, 4]]
  | 100003 => [.canon [0, 3, 4]]
  | _ => []

def T_spec_l27Bit_ctx (N : Nat) : Ctx := []

def T_spec_l27Bit_lp0_sh (k2 : Int) (n3 : Int) (i4 : Int) : St := { env := [(0, .s (.one (.val (.int .i64) (k2 : Int)))), (3, .s (.one (.val (.int .i64) (n3 : Int)))), (4, .s (.one (.val (.int .i64) (i4 : Int))))], objs := [], nx := 0 }

def T_spec_l27Bit_lp0_e0 (k2 : Int) (n5 : Int) (i6 : Int) (t7 : Bool) : St := { env := [(0, .s (.one (.val (.int .i64) (k2 : Int)))), (3, .s (.one (.val (.int .i64) (n5 : Int)))), (4, .s (.one (.val (.int .i64) (i6 : Int)))), (7, .s (.one (.val (.bool) (t7 : Bool))))], objs := [], nx := 0 }

noncomputable def T_spec_l27Bit_lp0_m (N : Nat) {R : Type} (n : Nat) (st : St) (K : Ex → St → Option R) : Option R := loopN (roundG (T_spec_l27Bit_ann 100003) fun st k => sx tab (T_spec_l27Bit_ctx N) T_spec_l27Bit_ann N (nthLoop Try.f23 0) st k) n st K

theorem T_spec_l27Bit_lp0_step (N : Nat) {R : Type} (n : Nat) (K : Ex → St → Option R) (k2 : Int) (n3 : Int) (i4 : Int) :
    T_spec_l27Bit_lp0_m N (n + 1) (T_spec_l27Bit_lp0_sh k2 n3 i4) K =
    (bif decide (i4 < k2) then
    (T_spec_l27Bit_lp0_m N n (T_spec_l27Bit_lp0_sh k2 (imul .i64 n3 (2 : Int)) (iadd .i64 i4 (1 : Int))) K)
    else
    (K (.exit 0) (T_spec_l27Bit_lp0_e0 k2 n3 i4 (decide (i4 < k2))))) := by kernel_rfl

theorem T_spec_l27Bit_lp0_eq (N : Nat) {R : Type} (k2 : Int) (K : Ex → St → Option R) : ∀ (n : Nat) (n3 : Int) (i4 : Int), T_spec_l27Bit_lp0_m N n (T_spec_l27Bit_lp0_sh k2 n3 i4) K = T_spec_l27Bit_lp0 N k2 (fun n5 i6 t7 => (K (.exit 0) (T_spec_l27Bit_lp0_e0 k2 n5 i6 t7))) n n3 i4
  | 0, _, _ => rfl
  | n + 1, n3, i4 => by rw [T_spec_l27Bit_lp0_step, T_spec_l27Bit_lp0]; (try simp only [T_spec_l27Bit_lp0_eq N k2 K n])

theorem T_spec_l27Bit_c1 (N : Nat) (k1 : Int) (n8 : Int) (i9 : Int) (t10 : Bool) :
    ((ctxK tab (T_spec_l27Bit_ctx N) T_spec_l27Bit_ann N (theCode Try.f23) [1, 1, 0, 1, 0] (retK tab (T_spec_l27Bit_sg N) Try.f23.results.toList some)) (.exit 0) (T_spec_l27Bit_lp0_e0 k1 n8 i9 t10)) =
    (some ((), (n8, ()))) := by kernel_rfl

theorem T_spec_l27Bit_den (N : Nat) (k1 : Int) :
    den (R := ODen (T_spec_l27Bit_sg N).ps × RDen (T_spec_l27Bit_sg N).rs) tab (T_spec_l27Bit_ctx N) T_spec_l27Bit_ann N (T_spec_l27Bit_sg N) Try.f23 (k1, ()) some =
    (T_spec_l27Bit_lp0 N k1
    (fun n8 i9 t10 =>
      (some ((), (n8, ()))))
     N (1 : Int) (0 : Int)) := by
  have h : den (R := ODen (T_spec_l27Bit_sg N).ps × RDen (T_spec_l27Bit_sg N).rs) tab (T_spec_l27Bit_ctx N) T_spec_l27Bit_ann N (T_spec_l27Bit_sg N) Try.f23 (k1, ()) some =
    (T_spec_l27Bit_lp0_m N N (T_spec_l27Bit_lp0_sh k1 (1 : Int) (0 : Int)) (ctxK tab (T_spec_l27Bit_ctx N) T_spec_l27Bit_ann N (theCode Try.f23) [1, 1, 0, 1, 0] (retK tab (T_spec_l27Bit_sg N) Try.f23.results.toList some))) := by kernel_rfl
  rw [h]
  (try simp only [T_spec_l27Bit_lp0_eq, T_spec_l27Bit_c1]) <;> rfl

theorem T_spec_l27Bit_ok (N : Nat) : chkBody Try.f23 (T_spec_l27Bit_sg N).ps = true := by kernel_rfl

theorem T_spec_l27Bit_callable : Callable Try.prog 23 := callable_of Try.func23 (show chkFn Try.f23 = true by kernel_rfl)

theorem T_spec_l27Bit_good (N : Nat) : Good Try.prog 23 (T_spec_l27Bit_sg N) :=
  good_body tabOk ctx_nil Try.func23 (T_spec_l27Bit_ok N) (fun d _ h => ⟨N, (T_spec_l27Bit_den N d.1).trans h⟩)

def T_spec_l27Has_sg (N : Nat) : Sig := Sig.of [.v (.int .i64) false, .v (.int .i64) false] [(.bool, false)] (fun d => T_spec_l27Has N d.1 d.2.1)

def T_spec_l27Has_ann : Nat → List Ghost
  | _ => []

def T_spec_l27Has_ctx (N : Nat) : Ctx := [(23, T_spec_l27Bit_sg N)]

theorem T_spec_l27Has_den (N : Nat) (sig1 : Int) (k2 : Int) :
    den (R := ODen (T_spec_l27Has_sg N).ps × RDen (T_spec_l27Has_sg N).rs) tab (T_spec_l27Has_ctx N) T_spec_l27Has_ann N (T_spec_l27Has_sg N) Try.f26 (sig1, k2, ()) some =
    (bif decide (sig1 ≥ (0 : Int)) then
    ((T_spec_l27Bit N k2).bind fun o3 =>
      (bif inz o3.2.1 then
        (bif inz (2 : Int) then
          (some ((), ((irem (iquo .i64 sig1 o3.2.1) (2 : Int)) == (1 : Int), ()))) else none) else none))
    else
    (some ((), (false, ())))) := by kernel_rfl

theorem T_spec_l27Has_ok (N : Nat) : chkBody Try.f26 (T_spec_l27Has_sg N).ps = true := by kernel_rfl

theorem T_spec_l27Has_callable : Callable Try.prog 26 := callable_of Try.func26 (show chkFn Try.f26 = true by kernel_rfl)

theorem T_spec_l27Has_good (N : Nat) : Good Try.prog 26 (T_spec_l27Has_sg N) :=
  good_body tabOk (ctx_cons (T_spec_l27Bit_good N) T_spec_l27Bit_callable ctx_nil) Try.func26 (T_spec_l27Has_ok N) (fun d _ h => ⟨N, (T_spec_l27Has_den N d.1 d.2.1).trans h⟩)

def T_spec_SigMay_sg (N : Nat) : Sig := Sig.of [.v (.int .i64) false, .v (.int .i64) false] [(.bool, false)] (fun d => T_spec_SigMay N d.1 d.2.1)

def T_spec_SigMay_ann : Nat → List Ghost
  | 4 => [.canon [0, 1, 5, 6, 7, 10]]
  | 5 => [.canon [0, 1, 5, 6, 7]]
  | 6 => [.canon [0, 1, 5, 6, 7, 8]]
  | 7 => [.canon [0, 1, 5, 6, 7, 8]]
  | 8 => [.canon [0, 1, 5, 6, 7]]
  | 100004 => [.canon [0, 1, 5, 6, 7]]
  | _ => []

def T_spec_SigMay_ctx (N : Nat) : Ctx := [(26, T_spec_l27Has_sg N)]

def T_spec_SigMay_lp0_sh (a3 : Int) (b4 : Int) (low5 : Bool) (high6 : Bool) (k7 : Int) : St := { env := [(0, .s (.one (.val (.int .i64) (a3 : Int)))), (1, .s (.one (.val (.int .i64) (b4 : Int)))), (5, .s (.one (.val (.bool) (low5 : Bool)))), (6, .s (.one (.val (.bool) (high6 : Bool)))), (7, .s (.one (.val (.int .i64) (k7 : Int))))], objs := [], nx := 0 }

def T_spec_SigMay_lp0_e0 (a3 : Int) (b4 : Int) (low10 : Bool) (high11 : Bool) (k12 : Int) (t13 : Bool) : St := { env := [(0, .s (.one (.val (.int .i64) (a3 : Int)))), (1, .s (.one (.val (.int .i64) (b4 : Int)))), (5, .s (.one (.val (.bool) (low10 : Bool)))), (6, .s (.one (.val (.bool) (high11 : Bool)))), (7, .s (.one (.val (.int .i64) (k12 : Int)))), (10, .s (.one (.val (.bool) (t13 : Bool))))], objs := [], nx := 0 }

noncomputable def T_spec_SigMay_lp0_m (N : Nat) {R : Type} (n : Nat) (st : St) (K : Ex → St → Option R) : Option R := loopN (roundG (T_spec_SigMay_ann 100004) fun st k => sx tab (T_spec_SigMay_ctx N) T_spec_SigMay_ann N (nthLoop Try.f21 0) st k) n st K

theorem T_spec_SigMay_lp0_step (N : Nat) {R : Type} (n : Nat) (K : Ex → St → Option R) (a3 : Int) (b4 : Int) (low5 : Bool) (high6 : Bool) (k7 : Int) :
    T_spec_SigMay_lp0_m N (n + 1) (T_spec_SigMay_lp0_sh a3 b4 low5 high6 k7) K =
    (bif decide (k7 < (60 : Int)) then
    ((T_spec_l27Has N a3 k7).bind fun o14 =>
      (bif o14.2.1 then
        ((T_spec_l27Has N b4 k7).bind fun o15 =>
          (bif low5 then
            (bif high6 then
              (T_spec_SigMay_lp0_m N n (T_spec_SigMay_lp0_sh a3 b4 true true (iadd .i64 k7 (1 : Int))) K)
              else
              (bif o15.2.1 then
                (T_spec_SigMay_lp0_m N n (T_spec_SigMay_lp0_sh a3 b4 true (decide (k7 ≥ (29 : Int))) (iadd .i64 k7 (1 : Int))) K)
                else
                (T_spec_SigMay_lp0_m N n (T_spec_SigMay_lp0_sh a3 b4 true false (iadd .i64 k7 (1 : Int))) K)))
            else
            (bif o15.2.1 then
              (bif high6 then
                (T_spec_SigMay_lp0_m N n (T_spec_SigMay_lp0_sh a3 b4 (decide (k7 < (29 : Int))) true (iadd .i64 k7 (1 : Int))) K)
                else
                (bif o15.2.1 then
                  (T_spec_SigMay_lp0_m N n (T_spec_SigMay_lp0_sh a3 b4 (decide (k7 < (29 : Int))) (decide (k7 ≥ (29 : Int))) (iadd .i64 k7 (1 : Int))) K)
                  else
                  (T_spec_SigMay_lp0_m N n (T_spec_SigMay_lp0_sh a3 b4 (decide (k7 < (29 : Int))) false (iadd .i64 k7 (1 : Int))) K)))
              else
              (bif high6 then
                (T_spec_SigMay_lp0_m N n (T_spec_SigMay_lp0_sh a3 b4 false true (iadd .i64 k7 (1 : Int))) K)
                else
                (bif o15.2.1 then
                  (T_spec_SigMay_lp0_m N n (T_spec_SigMay_lp0_sh a3 b4 false (decide (k7 ≥ (29 : Int))) (iadd .i64 k7 (1 : Int))) K)
                  else
                  (T_spec_SigMay_lp0_m N n (T_spec_SigMay_lp0_sh a3 b4 false false (iadd .i64 k7 (1 : Int))) K))))))
        else
        (bif low5 then
          (bif high6 then
            (T_spec_SigMay_lp0_m N n (T_spec_SigMay_lp0_sh a3 b4 true true (iadd .i64 k7 (1 : Int))) K)
            else
            (T_spec_SigMay_lp0_m N n (T_spec_SigMay_lp0_sh a3 b4 true false (iadd .i64 k7 (1 : Int))) K))
          else
          (bif high6 then
            (T_spec_SigMay_lp0_m N n (T_spec_SigMay_lp0_sh a3 b4 false true (iadd .i64 k7 (1 : Int))) K)
            else
            (T_spec_SigMay_lp0_m N n (T_spec_SigMay_lp0_sh a3 b4 false false (iadd .i64 k7 (1 : Int))) K)))))
    else
    (K (.exit 0) (T_spec_SigMay_lp0_e0 a3 b4 low5 high6 k7 (decide (k7 < (60 : Int)))))) := by kernel_rfl

theorem T_spec_SigMay_lp0_eq (N : Nat) {R : Type} (a3 : Int) (b4 : Int) (K : Ex → St → Option R) : ∀ (n : Nat) (low5 : Bool) (high6 : Bool) (k7 : Int), T_spec_SigMay_lp0_m N n (T_spec_SigMay_lp0_sh a3 b4 low5 high6 k7) K = T_spec_SigMay_lp0 N a3 b4 (fun low10 high11 k12 t13 => (K (.exit 0) (T_spec_SigMay_lp0_e0 a3 b4 low10 high11 k12 t13))) n low5 high6 k7
  | 0, _, _, _ => rfl
  | n + 1, low5, high6, k7 => by rw [T_spec_SigMay_lp0_step, T_spec_SigMay_lp0]; (try simp only [T_spec_SigMay_lp0_eq N a3 b4 K n])

theorem T_spec_SigMay_c1 (N : Nat) (a1 : Int) (b2 : Int) (low16 : Bool) (high17 : Bool) (k18 : Int) (t19 : Bool) :
    ((ctxK tab (T_spec_SigMay_ctx N) T_spec_SigMay_ann N (theCode Try.f21) [1, 1, 1, 0, 1, 0] (retK tab (T_spec_SigMay_sg N) Try.f21.results.toList some)) (.exit 0) (T_spec_SigMay_lp0_e0 a1 b2 low16 high17 k18 t19)) =
    (bif low16 then
    (some ((), (high17, ())))
    else
    (some ((), (false, ())))) := by kernel_rfl

theorem T_spec_SigMay_den (N : Nat) (a1 : Int) (b2 : Int) :
    den (R := ODen (T_spec_SigMay_sg N).ps × RDen (T_spec_SigMay_sg N).rs) tab (T_spec_SigMay_ctx N) T_spec_SigMay_ann N (T_spec_SigMay_sg N) Try.f21 (a1, b2, ()) some =
    (T_spec_SigMay_lp0 N a1 b2
    (fun low16 high17 k18 t19 =>
      (bif low16 then
        (some ((), (high17, ())))
        else
        (some ((), (false, ())))))
     N false false (0 : Int)) := by
  have h : den (R := ODen (T_spec_SigMay_sg N).ps × RDen (T_spec_SigMay_sg N).rs) tab (T_spec_SigMay_ctx N) T_spec_SigMay_ann N (T_spec_SigMay_sg N) Try.f21 (a1, b2, ()) some =
    (T_spec_SigMay_lp0_m N N (T_spec_SigMay_lp0_sh a1 b2 false false (0 : Int)) (ctxK tab (T_spec_SigMay_ctx N) T_spec_SigMay_ann N (theCode Try.f21) [1, 1, 1, 0, 1, 0] (retK tab (T_spec_SigMay_sg N) Try.f21.results.toList some))) := by kernel_rfl
  rw [h]
  (try simp only [T_spec_SigMay_lp0_eq, T_spec_SigMay_c1]) <;> rfl

theorem T_spec_SigMay_ok (N : Nat) : chkBody Try.f21 (T_spec_SigMay_sg N).ps = true := by kernel_rfl

theorem T_spec_SigMay_callable : Callable Try.prog 21 := callable_of Try.func21 (show chkFn Try.f21 = true by kernel_rfl)

theorem T_spec_SigMay_good (N : Nat) : Good Try.prog 21 (T_spec_SigMay_sg N) :=
  good_body tabOk (ctx_cons (T_spec_l27Has_good N) T_spec_l27Has_callable ctx_nil) Try.func21 (T_spec_SigMay_ok N) (fun d _ h => ⟨N, (T_spec_SigMay_den N d.1 d.2.1).trans h⟩)

def T_impl_bits_sg (N : Nat) : Sig := Sig.of [.v (.int .i64) false] [(.int .i64, false)] (fun d => T_impl_bits N d.1)

def T_impl_bits_ann : Nat → List Ghost
  | _ => []

def T_impl_bits_ctx (N : Nat) : Ctx := []

theorem T_impl_bits_den (N : Nat) (sig1 : Int) :
    den (R := ODen (T_impl_bits_sg N).ps × RDen (T_impl_bits_sg N).rs) tab (T_impl_bits_ctx N) T_impl_bits_ann N (T_impl_bits_sg N) Try.f27 (sig1, ()) some =
    (bif decide (sig1 < (0 : Int)) then
    (some ((), ((0 : Int), ())))
    else
    (some ((), (iand .i64 sig1 (1152921504606846975 : Int), ())))) := by kernel_rfl

theorem T_impl_bits_ok (N : Nat) : chkBody Try.f27 (T_impl_bits_sg N).ps = true := by kernel_rfl

theorem T_impl_bits_callable : Callable Try.prog 27 := callable_of Try.func27 (show chkFn Try.f27 = true by kernel_rfl)

theorem T_impl_bits_good (N : Nat) : Good Try.prog 27 (T_impl_bits_sg N) :=
  good_body tabOk ctx_nil Try.func27 (T_impl_bits_ok N) (fun d _ h => ⟨N, (T_impl_bits_den N d.1).trans h⟩)

def T_impl_SigMay_sg (N : Nat) : Sig := Sig.of [.v (.int .i64) false, .v (.int .i64) false] [(.bool, false)] (fun d => T_impl_SigMay N d.1 d.2.1)

def T_impl_SigMay_ann : Nat → List Ghost
  | _ => []

def T_impl_SigMay_ctx (N : Nat) : Ctx := [(27, T_impl_bits_sg N)]

theorem T_impl_SigMay_den (N : Nat) (a1 : Int) (b2 : Int) :
    den (R := ODen (T_impl_SigMay_sg N).ps × RDen (T_impl_SigMay_sg N).rs) tab (T_impl_SigMay_ctx N) T_impl_SigMay_ann N (T_impl_SigMay_sg N) Try.f22 (a1, b2, ()) some =
    ((T_impl_bits N a1).bind fun o3 =>
    ((T_impl_bits N b2).bind fun o4 =>
      (bif (iand .i64 (iand .i64 o3.2.1 o4.2.1) (536870911 : Int)) != (0 : Int) then
        (some ((), ((iandn .i64 (iand .i64 o3.2.1 o4.2.1) (536870911 : Int)) != (0 : Int), ())))
        else
        (some ((), (false, ())))))) := by kernel_rfl

theorem T_impl_SigMay_ok (N : Nat) : chkBody Try.f22 (T_impl_SigMay_sg N).ps = true := by kernel_rfl

theorem T_impl_SigMay_callable : Callable Try.prog 22 := callable_of Try.func22 (show chkFn Try.f22 = true by kernel_rfl)

theorem T_impl_SigMay_good (N : Nat) : Good Try.prog 22 (T_impl_SigMay_sg N) :=
  good_body tabOk (ctx_cons (T_impl_bits_good N) T_impl_bits_callable ctx_nil) Try.func22 (T_impl_SigMay_ok N) (fun d _ h => ⟨N, (T_impl_SigMay_den N d.1 d.2.1).trans h⟩)

def T_laws_FnExactSigMay_sg (N : Nat) : Sig := Sig.of [.v (.int .i64) false, .v (.int .i64) false] [(.bool, false)] (fun d => T_laws_FnExactSigMay N d.1 d.2.1)

def T_laws_FnExactSigMay_ann : Nat → List Ghost
  | _ => []

def T_laws_FnExactSigMay_ctx (N : Nat) : Ctx := [(21, T_spec_SigMay_sg N), (22, T_impl_SigMay_sg N)]

theorem T_laws_FnExactSigMay_den (N : Nat) (aA1 : Int) (aB2 : Int) :
    den (R := ODen (T_laws_FnExactSigMay_sg N).ps × RDen (T_laws_FnExactSigMay_sg N).rs) tab (T_laws_FnExactSigMay_ctx N) T_laws_FnExactSigMay_ann N (T_laws_FnExactSigMay_sg N) Try.f8 (aA1, aB2, ()) some =
    ((T_spec_SigMay N aA1 aB2).bind fun o3 =>
    ((T_impl_SigMay N aA1 aB2).bind fun o4 =>
      (bif !(beq o4.2.1 o3.2.1) then
        (some ((), (false, ())))
        else
        (some ((), (true, ())))))) := by kernel_rfl

theorem T_laws_FnExactSigMay_ok (N : Nat) : chkBody Try.f8 (T_laws_FnExactSigMay_sg N).ps = true := by kernel_rfl

theorem T_laws_FnExactSigMay_callable : Callable Try.prog 8 := callable_of Try.func8 (show chkFn Try.f8 = true by kernel_rfl)

theorem T_laws_FnExactSigMay_good (N : Nat) : Good Try.prog 8 (T_laws_FnExactSigMay_sg N) :=
  good_body tabOk (ctx_cons (T_spec_SigMay_good N) T_spec_SigMay_callable (ctx_cons (T_impl_SigMay_good N) T_impl_SigMay_callable ctx_nil)) Try.func8 (T_laws_FnExactSigMay_ok N) (fun d _ h => ⟨N, (T_laws_FnExactSigMay_den N d.1 d.2.1).trans h⟩)

end Go.Sx
