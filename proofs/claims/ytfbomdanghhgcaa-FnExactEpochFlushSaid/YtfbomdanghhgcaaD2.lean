/- Each Go function does what its Lean function says. -/
import Derived.Test.YtfbomdanghhgcaaD
namespace Go.Sx
open Go.Proofs
set_option linter.unusedVariables false
set_option linter.unusedSimpArgs false

theorem T_laws_heldEpochs_den (N : Nat) (a1 : Int × List Int × List Bool × List (Int × Int) × List (Int × Int) × List Int) (k2 : Int) :
    den (R := ODen (T_laws_heldEpochs_sg N).ps × RDen (T_laws_heldEpochs_sg N).rs) tab (T_laws_heldEpochs_ctx N) T_laws_heldEpochs_ann N (T_laws_heldEpochs_sg N) Try.f24 (a1, k2, ()) some =
    ((T_laws_heldIntS N a1.2.1 k2).bind fun o3 =>
    (bif decide (o3.2.1 < (0 : Int)) then
      (some (α := ODen (T_laws_heldEpochs_sg N).ps × RDen (T_laws_heldEpochs_sg N).rs) ((), ((-1 : Int), ())))
      else
      ((T_laws_heldBoolS N a1.2.2.1 o3.2.1).bind fun o4 =>
        (bif decide (o4.2.1 < (0 : Int)) then
          (some (α := ODen (T_laws_heldEpochs_sg N).ps × RDen (T_laws_heldEpochs_sg N).rs) ((), ((-1 : Int), ())))
          else
          ((T_laws_heldEpBagS N a1.2.2.2.1 o4.2.1).bind fun o5 =>
            (bif decide (o5.2.1 < (0 : Int)) then
              (some (α := ODen (T_laws_heldEpochs_sg N).ps × RDen (T_laws_heldEpochs_sg N).rs) ((), ((-1 : Int), ())))
              else
              ((T_laws_heldEpHoldS N a1.2.2.2.2.1 o5.2.1).bind fun o6 =>
                (bif decide (o6.2.1 < (0 : Int)) then
                  (some (α := ODen (T_laws_heldEpochs_sg N).ps × RDen (T_laws_heldEpochs_sg N).rs) ((), ((-1 : Int), ())))
                  else
                  ((T_laws_heldIntS N a1.2.2.2.2.2 o6.2.1).bind fun o7 =>
                    (bif decide (o7.2.1 < (0 : Int)) then
                      (some (α := ODen (T_laws_heldEpochs_sg N).ps × RDen (T_laws_heldEpochs_sg N).rs) ((), ((-1 : Int), ())))
                      else
                      (some (α := ODen (T_laws_heldEpochs_sg N).ps × RDen (T_laws_heldEpochs_sg N).rs) ((), (o7.2.1, ()))))))))))))) := by kernel_rfl

theorem T_laws_heldEpochs_ok (N : Nat) : chkBody Try.f24 (T_laws_heldEpochs_sg N).ps = true := by kernel_rfl

theorem T_laws_heldEpochs_callable : Callable Try.prog 24 := callable_of Try.func24 (show chkFn Try.f24 = true by kernel_rfl)

theorem T_laws_heldEpochs_good (N : Nat) : Good Try.prog 24 (T_laws_heldEpochs_sg N) :=
  good_body mixedOk tabOk (ctx_cons (T_laws_heldIntS_good N) T_laws_heldIntS_callable (ctx_cons (T_laws_heldBoolS_good N) T_laws_heldBoolS_callable (ctx_cons (T_laws_heldEpBagS_good N) T_laws_heldEpBagS_callable (ctx_cons (T_laws_heldEpHoldS_good N) T_laws_heldEpHoldS_callable ctx_nil)))) Try.func24 (T_laws_heldEpochs_ok N) (fun d _ h => ⟨N, (T_laws_heldEpochs_den N d.1 d.2.1).trans h⟩)

noncomputable def T_laws_FnExactEpochFlush_sg (N : Nat) : Sig := Sig.of [.v (.slice (.prod (.int .i64) (.prod (.int .i64) (.int .i64)))) false] [.v (.bool) false] (fun d => T_laws_FnExactEpochFlush N d.1)

def T_laws_FnExactEpochFlush_ann : Nat → List Ghost
  | _ => []

noncomputable def T_laws_FnExactEpochFlush_ctx (N : Nat) : Ctx := [(17, T_laws_szEpActS_sg N), (19, T_laws_toEpActS_sg N), (25, T_spec_EpochFlush_sg N), (12, T_impl_EpochFlush_sg N), (20, T_laws_eqEpochs_sg N), (21, T_laws_eqEpActS_sg N), (22, T_laws_markEpActS_sg N), (23, T_laws_markEpochs_sg N), (24, T_laws_heldEpochs_sg N)]

theorem T_laws_FnExactEpochFlush_den (N : Nat) (aActs1 : List (Int × Int × Int)) :
    den (R := ODen (T_laws_FnExactEpochFlush_sg N).ps × RDen (T_laws_FnExactEpochFlush_sg N).rs) tab (T_laws_FnExactEpochFlush_ctx N) T_laws_FnExactEpochFlush_ann N (T_laws_FnExactEpochFlush_sg N) Try.f5 (aActs1, ()) some =
    ((T_laws_szEpActS N aActs1 (1048576 : Int)).bind fun o2 =>
    (bif decide (o2.2.1 < (0 : Int)) then
      (some (α := ODen (T_laws_FnExactEpochFlush_sg N).ps × RDen (T_laws_FnExactEpochFlush_sg N).rs) ((), (true, ())))
      else
      ((T_laws_toEpActS N aActs1).bind fun o3 =>
        ((T_spec_EpochFlush N o3.2.1).bind fun o4 =>
          ((T_laws_toEpActS N aActs1).bind fun o5 =>
            ((T_impl_EpochFlush N o5.2.1).bind fun o6 =>
              ((T_laws_eqEpochs N o6.2.1 o4.2.1).bind fun o7 =>
                (bif !o7.2.1 then
                  (some (α := ODen (T_laws_FnExactEpochFlush_sg N).ps × RDen (T_laws_FnExactEpochFlush_sg N).rs) ((), (false, ())))
                  else
                  ((T_laws_toEpActS N aActs1).bind fun o8 =>
                    ((T_laws_eqEpActS N o5.2.1 o8.2.1).bind fun o9 =>
                      (bif !o9.2.1 then
                        (some (α := ODen (T_laws_FnExactEpochFlush_sg N).ps × RDen (T_laws_FnExactEpochFlush_sg N).rs) ((), (false, ())))
                        else
                        ((T_laws_markEpActS N o5.2.1 (1 : Int)).bind fun o10 =>
                          (bif decide (o10.2.1 < (0 : Int)) then
                            (some (α := ODen (T_laws_FnExactEpochFlush_sg N).ps × RDen (T_laws_FnExactEpochFlush_sg N).rs) ((), (false, ())))
                            else
                            ((T_laws_eqEpochs N o6.2.1 o4.2.1).bind fun o11 =>
                              (bif !o11.2.1 then
                                (some (α := ODen (T_laws_FnExactEpochFlush_sg N).ps × RDen (T_laws_FnExactEpochFlush_sg N).rs) ((), (false, ())))
                                else
                                ((T_laws_markEpochs N o6.2.1 (1 : Int)).bind fun o12 =>
                                  ((T_laws_heldEpochs N (o6.2.1.1, o12.1.1.2) (1 : Int)).bind fun o13 =>
                                    (bif decide (o13.2.1 < (0 : Int)) then
                                      (some (α := ODen (T_laws_FnExactEpochFlush_sg N).ps × RDen (T_laws_FnExactEpochFlush_sg N).rs) ((), (false, ())))
                                      else
                                      (bif o13.2.1 != o12.2.1 then
                                        (some (α := ODen (T_laws_FnExactEpochFlush_sg N).ps × RDen (T_laws_FnExactEpochFlush_sg N).rs) ((), (false, ())))
                                        else
                                        ((T_laws_toEpActS N aActs1).bind fun o14 =>
                                          ((T_impl_EpochFlush N o14.2.1).bind fun o15 =>
                                            ((T_laws_eqEpochs N o15.2.1 o4.2.1).bind fun o16 =>
                                              (bif !o16.2.1 then
                                                (some (α := ODen (T_laws_FnExactEpochFlush_sg N).ps × RDen (T_laws_FnExactEpochFlush_sg N).rs) ((), (false, ())))
                                                else
                                                ((T_laws_heldEpochs N (o6.2.1.1, o12.1.1.2) (1 : Int)).bind fun o17 =>
                                                  (bif decide (o17.2.1 < (0 : Int)) then
                                                    (some (α := ODen (T_laws_FnExactEpochFlush_sg N).ps × RDen (T_laws_FnExactEpochFlush_sg N).rs) ((), (false, ())))
                                                    else
                                                    (bif o17.2.1 != o12.2.1 then
                                                      (some (α := ODen (T_laws_FnExactEpochFlush_sg N).ps × RDen (T_laws_FnExactEpochFlush_sg N).rs) ((), (false, ())))
                                                      else
                                                      (some (α := ODen (T_laws_FnExactEpochFlush_sg N).ps × RDen (T_laws_FnExactEpochFlush_sg N).rs) ((), (true, ()))))))))))))))))))))))))))))) := by kernel_rfl

theorem T_laws_FnExactEpochFlush_ok (N : Nat) : chkBody Try.f5 (T_laws_FnExactEpochFlush_sg N).ps = true := by kernel_rfl

theorem T_laws_FnExactEpochFlush_callable : Callable Try.prog 5 := callable_of Try.func5 (show chkFn Try.f5 = true by kernel_rfl)

theorem T_laws_FnExactEpochFlush_good (N : Nat) : Good Try.prog 5 (T_laws_FnExactEpochFlush_sg N) :=
  good_body mixedOk tabOk (ctx_cons (T_laws_szEpActS_good N) T_laws_szEpActS_callable (ctx_cons (T_laws_toEpActS_good N) T_laws_toEpActS_callable (ctx_cons (T_spec_EpochFlush_good N) T_spec_EpochFlush_callable (ctx_cons (T_impl_EpochFlush_good N) T_impl_EpochFlush_callable (ctx_cons (T_laws_eqEpochs_good N) T_laws_eqEpochs_callable (ctx_cons (T_laws_eqEpActS_good N) T_laws_eqEpActS_callable (ctx_cons (T_laws_markEpActS_good N) T_laws_markEpActS_callable (ctx_cons (T_laws_markEpochs_good N) T_laws_markEpochs_callable (ctx_cons (T_laws_heldEpochs_good N) T_laws_heldEpochs_callable ctx_nil))))))))) Try.func5 (T_laws_FnExactEpochFlush_ok N) (fun d _ h => ⟨N, (T_laws_FnExactEpochFlush_den N d.1).trans h⟩)

end Go.Sx
