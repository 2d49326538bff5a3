/- Each Go function does what its Lean function says. -/
import Derived.Test.YtfbomdanghhgcaaD
namespace Go.Sx
open Go.Proofs
set_option linter.unusedVariables false
set_option linter.unusedSimpArgs false

theorem T_laws_heldEager_den (N : Nat) (a1 : Int × List Int × List Int × List (Int × Int) × Int) (k2 : Int) :
    den (R := ODen (T_laws_heldEager_sg N).ps × RDen (T_laws_heldEager_sg N).rs) tab (T_laws_heldEager_ctx N) T_laws_heldEager_ann N (T_laws_heldEager_sg N) Try.f48 (a1, k2, ()) some =
    (T_laws_heldEager N a1 k2 : Option (ODen (T_laws_heldEager_sg N).ps × RDen (T_laws_heldEager_sg N).rs)) := by kernel_rfl

theorem T_laws_heldEager_ok (N : Nat) : chkBody Try.f48 (T_laws_heldEager_sg N).ps = true := by kernel_rfl

theorem T_laws_heldEager_callable : Callable Try.prog 48 := callable_of Try.func48 (show chkFn Try.f48 = true by kernel_rfl)

theorem T_laws_heldEager_good (N : Nat) : Good Try.prog 48 (T_laws_heldEager_sg N) :=
  good_body mixedOk tabOk (ctx_cons (T_laws_heldIntS_good N) T_laws_heldIntS_callable (ctx_cons (T_laws_heldRowS_good N) T_laws_heldRowS_callable ctx_nil)) Try.func48 (T_laws_heldEager_ok N) (fun d _ h => ⟨N, (T_laws_heldEager_den N d.1 d.2.1).trans h⟩)

noncomputable def T_laws_FnExactEagerRun_sg (N : Nat) : Sig := Sig.of [.v (.slice (.prod (.int .i64) (.prod (.int .i64) (.prod (.int .i64) (.int .i64))))) false, .v (.slice (.int .i64)) false, .v (.slice (.int .i64)) false] [.v (.bool) false] (fun d => T_laws_FnExactEagerRun N d.1 d.2.1 d.2.2.1)

def T_laws_FnExactEagerRun_ann : Nat → List Ghost
  | _ => []

noncomputable def T_laws_FnExactEagerRun_ctx (N : Nat) : Ctx := [(37, T_laws_szOpS_sg N), (39, T_laws_toOpS_sg N), (40, T_laws_toIntS_sg N), (38, T_spec_EagerRun_sg N), (41, T_impl_EagerRun_sg N), (42, T_laws_eqEager_sg N), (43, T_laws_eqOpS_sg N), (44, T_laws_eqIntS_sg N), (45, T_laws_markOpS_sg N), (46, T_laws_markIntS_sg N), (47, T_laws_markEager_sg N), (48, T_laws_heldEager_sg N)]

theorem T_laws_FnExactEagerRun_den (N : Nat) (aCode1 : List (Int × Int × Int × Int)) (aRegs2 : List Int) (aCells3 : List Int) :
    den (R := ODen (T_laws_FnExactEagerRun_sg N).ps × RDen (T_laws_FnExactEagerRun_sg N).rs) tab (T_laws_FnExactEagerRun_ctx N) T_laws_FnExactEagerRun_ann N (T_laws_FnExactEagerRun_sg N) Try.f7 (aCode1, aRegs2, aCells3, ()) some =
    (T_laws_FnExactEagerRun N aCode1 aRegs2 aCells3 : Option (ODen (T_laws_FnExactEagerRun_sg N).ps × RDen (T_laws_FnExactEagerRun_sg N).rs)) := by kernel_rfl

theorem T_laws_FnExactEagerRun_ok (N : Nat) : chkBody Try.f7 (T_laws_FnExactEagerRun_sg N).ps = true := by kernel_rfl

theorem T_laws_FnExactEagerRun_callable : Callable Try.prog 7 := callable_of Try.func7 (show chkFn Try.f7 = true by kernel_rfl)

theorem T_laws_FnExactEagerRun_good (N : Nat) : Good Try.prog 7 (T_laws_FnExactEagerRun_sg N) :=
  good_body mixedOk tabOk (ctx_cons (T_laws_szOpS_good N) T_laws_szOpS_callable (ctx_cons (T_laws_toOpS_good N) T_laws_toOpS_callable (ctx_cons (T_laws_toIntS_good N) T_laws_toIntS_callable (ctx_cons (T_spec_EagerRun_good N) T_spec_EagerRun_callable (ctx_cons (T_impl_EagerRun_good N) T_impl_EagerRun_callable (ctx_cons (T_laws_eqEager_good N) T_laws_eqEager_callable (ctx_cons (T_laws_eqOpS_good N) T_laws_eqOpS_callable (ctx_cons (T_laws_eqIntS_good N) T_laws_eqIntS_callable (ctx_cons (T_laws_markOpS_good N) T_laws_markOpS_callable (ctx_cons (T_laws_markIntS_good N) T_laws_markIntS_callable (ctx_cons (T_laws_markEager_good N) T_laws_markEager_callable (ctx_cons (T_laws_heldEager_good N) T_laws_heldEager_callable ctx_nil)))))))))))) Try.func7 (T_laws_FnExactEagerRun_ok N) (fun d _ h => ⟨N, (T_laws_FnExactEagerRun_den N d.1 d.2.1 d.2.2.1).trans h⟩)

end Go.Sx
