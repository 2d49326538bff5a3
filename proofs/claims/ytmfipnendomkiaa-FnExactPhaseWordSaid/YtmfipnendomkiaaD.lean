/- Each Go function does what its Lean function says. -/
import Derived.Test.YtmfipnendomkiaaT
import Derived.Test.YtmfipnendomkiaaProg
namespace Go.Sx
open Go.Proofs
set_option linter.unusedVariables false
set_option linter.unusedSimpArgs false

def tab : Tab := [(3, ⟨.int .i64, false, .basic⟩), (4, ⟨.bool, false, .basic⟩), (9, ⟨.str, false, .basic⟩), (31, ⟨.slice (.str), false, .slice 9⟩)]

theorem tabOk : TabOk Try.prog tab := tab_ok (show chkTab Try.prog tab tab = true by kernel_rfl)

def T_spec_l1In_sg (N : Nat) : Sig := Sig.of [.v (.int .i64) false, .v (.int .i64) false, .v (.int .i64) false] [(.bool, false)] (fun d => T_spec_l1In N d.1 d.2.1 d.2.2.1)

def T_spec_l1In_ann : Nat → List Ghost
  | _ => []

def T_spec_l1In_ctx (N : Nat) : Ctx := []

theorem T_spec_l1In_den (N : Nat) (x1 : Int) (low2 : Int) (high3 : Int) :
    den (R := ODen (T_spec_l1In_sg N).ps × RDen (T_spec_l1In_sg N).rs) tab (T_spec_l1In_ctx N) T_spec_l1In_ann N (T_spec_l1In_sg N) Try.f28 (x1, low2, high3, ()) some =
    (bif decide (x1 ≥ low2) then
    (some ((), (decide (x1 ≤ high3), ())))
    else
    (some ((), (false, ())))) := by kernel_rfl

theorem T_spec_l1In_ok (N : Nat) : chkBody Try.f28 (T_spec_l1In_sg N).ps = true := by kernel_rfl

theorem T_spec_l1In_callable : Callable Try.prog 28 := callable_of Try.func28 (show chkFn Try.f28 = true by kernel_rfl)

theorem T_spec_l1In_good (N : Nat) : Good Try.prog 28 (T_spec_l1In_sg N) :=
  good_body tabOk ctx_nil Try.func28 (T_spec_l1In_ok N) (fun d _ h => ⟨N, (T_spec_l1In_den N d.1 d.2.1 d.2.2.1).trans h⟩)

def T_spec_PhaseWord_sg (N : Nat) : Sig := Sig.of [.v (.int .i64) false] [(.str, false)] (fun d => T_spec_PhaseWord N d.1)

def T_spec_PhaseWord_ann : Nat → List Ghost
  | _ => []

def T_spec_PhaseWord_ctx (N : Nat) : Ctx := [(28, T_spec_l1In_sg N)]

theorem T_spec_PhaseWord_den (N : Nat) (phase1 : Int) :
    den (R := ODen (T_spec_PhaseWord_sg N).ps × RDen (T_spec_PhaseWord_sg N).rs) tab (T_spec_PhaseWord_ctx N) T_spec_PhaseWord_ann N (T_spec_PhaseWord_sg N) Try.f17 (phase1, ()) some =
    ((T_spec_l1In N phase1 (0 : Int) (8 : Int)).bind fun o2 =>
    (bif !o2.2.1 then
      (some ((), (([] : List UInt8), ())))
      else
      (bif inb phase1 (List.length ([([105, 100, 108, 101] : List UInt8), ([114, 117, 110] : List UInt8), ([102, 111, 114, 107] : List UInt8), ([117, 110, 119, 105, 110, 100] : List UInt8), ([101, 120, 116, 101, 110, 100] : List UInt8), ([99, 111, 109, 109, 105, 116] : List UInt8), ([117, 110, 100, 111] : List UInt8), ([102, 114, 101, 101] : List UInt8), ([100, 111, 110, 101] : List UInt8)])) then
        (some ((), (List.getD ([([105, 100, 108, 101] : List UInt8), ([114, 117, 110] : List UInt8), ([102, 111, 114, 107] : List UInt8), ([117, 110, 119, 105, 110, 100] : List UInt8), ([101, 120, 116, 101, 110, 100] : List UInt8), ([99, 111, 109, 109, 105, 116] : List UInt8), ([117, 110, 100, 111] : List UInt8), ([102, 114, 101, 101] : List UInt8), ([100, 111, 110, 101] : List UInt8)]) (Int.toNat phase1) ([] : List UInt8), ()))) else none))) := by kernel_rfl

theorem T_spec_PhaseWord_ok (N : Nat) : chkBody Try.f17 (T_spec_PhaseWord_sg N).ps = true := by kernel_rfl

theorem T_spec_PhaseWord_callable : Callable Try.prog 17 := callable_of Try.func17 (show chkFn Try.f17 = true by kernel_rfl)

theorem T_spec_PhaseWord_good (N : Nat) : Good Try.prog 17 (T_spec_PhaseWord_sg N) :=
  good_body tabOk (ctx_cons (T_spec_l1In_good N) T_spec_l1In_callable ctx_nil) Try.func17 (T_spec_PhaseWord_ok N) (fun d _ h => ⟨N, (T_spec_PhaseWord_den N d.1).trans h⟩)

def T_impl_within_sg (N : Nat) : Sig := Sig.of [.v (.int .i64) false, .v (.int .i64) false, .v (.int .i64) false] [(.bool, false)] (fun d => T_impl_within N d.1 d.2.1 d.2.2.1)

def T_impl_within_ann : Nat → List Ghost
  | _ => []

def T_impl_within_ctx (N : Nat) : Ctx := []

theorem T_impl_within_den (N : Nat) (x1 : Int) (lo2 : Int) (hi3 : Int) :
    den (R := ODen (T_impl_within_sg N).ps × RDen (T_impl_within_sg N).rs) tab (T_impl_within_ctx N) T_impl_within_ann N (T_impl_within_sg N) Try.f29 (x1, lo2, hi3, ()) some =
    (bif decide (x1 ≥ lo2) then
    (some ((), (decide (x1 ≤ hi3), ())))
    else
    (some ((), (false, ())))) := by kernel_rfl

theorem T_impl_within_ok (N : Nat) : chkBody Try.f29 (T_impl_within_sg N).ps = true := by kernel_rfl

theorem T_impl_within_callable : Callable Try.prog 29 := callable_of Try.func29 (show chkFn Try.f29 = true by kernel_rfl)

theorem T_impl_within_good (N : Nat) : Good Try.prog 29 (T_impl_within_sg N) :=
  good_body tabOk ctx_nil Try.func29 (T_impl_within_ok N) (fun d _ h => ⟨N, (T_impl_within_den N d.1 d.2.1 d.2.2.1).trans h⟩)

def T_impl_PhaseWord_sg (N : Nat) : Sig := Sig.of [.v (.int .i64) false] [(.str, false)] (fun d => T_impl_PhaseWord N d.1)

def T_impl_PhaseWord_ann : Nat → List Ghost
  | _ => []

def T_impl_PhaseWord_ctx (N : Nat) : Ctx := [(29, T_impl_within_sg N)]

theorem T_impl_PhaseWord_den (N : Nat) (phase1 : Int) :
    den (R := ODen (T_impl_PhaseWord_sg N).ps × RDen (T_impl_PhaseWord_sg N).rs) tab (T_impl_PhaseWord_ctx N) T_impl_PhaseWord_ann N (T_impl_PhaseWord_sg N) Try.f18 (phase1, ()) some =
    ((T_impl_within N phase1 (0 : Int) (8 : Int)).bind fun o2 =>
    (bif !o2.2.1 then
      (some ((), (([] : List UInt8), ())))
      else
      (bif inb phase1 (List.length ([([105, 100, 108, 101] : List UInt8), ([114, 117, 110] : List UInt8), ([102, 111, 114, 107] : List UInt8), ([117, 110, 119, 105, 110, 100] : List UInt8), ([101, 120, 116, 101, 110, 100] : List UInt8), ([99, 111, 109, 109, 105, 116] : List UInt8), ([117, 110, 100, 111] : List UInt8), ([102, 114, 101, 101] : List UInt8), ([100, 111, 110, 101] : List UInt8)])) then
        (some ((), (List.getD ([([105, 100, 108, 101] : List UInt8), ([114, 117, 110] : List UInt8), ([102, 111, 114, 107] : List UInt8), ([117, 110, 119, 105, 110, 100] : List UInt8), ([101, 120, 116, 101, 110, 100] : List UInt8), ([99, 111, 109, 109, 105, 116] : List UInt8), ([117, 110, 100, 111] : List UInt8), ([102, 114, 101, 101] : List UInt8), ([100, 111, 110, 101] : List UInt8)]) (Int.toNat phase1) ([] : List UInt8), ()))) else none))) := by kernel_rfl

theorem T_impl_PhaseWord_ok (N : Nat) : chkBody Try.f18 (T_impl_PhaseWord_sg N).ps = true := by kernel_rfl

theorem T_impl_PhaseWord_callable : Callable Try.prog 18 := callable_of Try.func18 (show chkFn Try.f18 = true by kernel_rfl)

theorem T_impl_PhaseWord_good (N : Nat) : Good Try.prog 18 (T_impl_PhaseWord_sg N) :=
  good_body tabOk (ctx_cons (T_impl_within_good N) T_impl_within_callable ctx_nil) Try.func18 (T_impl_PhaseWord_ok N) (fun d _ h => ⟨N, (T_impl_PhaseWord_den N d.1).trans h⟩)

def T_laws_FnExactPhaseWord_sg (N : Nat) : Sig := Sig.of [.v (.int .i64) false] [(.bool, false)] (fun d => T_laws_FnExactPhaseWord N d.1)

def T_laws_FnExactPhaseWord_ann : Nat → List Ghost
  | _ => []

def T_laws_FnExactPhaseWord_ctx (N : Nat) : Ctx := [(17, T_spec_PhaseWord_sg N), (18, T_impl_PhaseWord_sg N)]

theorem T_laws_FnExactPhaseWord_den (N : Nat) (aPhase1 : Int) :
    den (R := ODen (T_laws_FnExactPhaseWord_sg N).ps × RDen (T_laws_FnExactPhaseWord_sg N).rs) tab (T_laws_FnExactPhaseWord_ctx N) T_laws_FnExactPhaseWord_ann N (T_laws_FnExactPhaseWord_sg N) Try.f6 (aPhase1, ()) some =
    ((T_spec_PhaseWord N aPhase1).bind fun o2 =>
    ((T_impl_PhaseWord N aPhase1).bind fun o3 =>
      (bif !(seq o3.2.1 o2.2.1) then
        (some ((), (false, ())))
        else
        (some ((), (true, ())))))) := by kernel_rfl

theorem T_laws_FnExactPhaseWord_ok (N : Nat) : chkBody Try.f6 (T_laws_FnExactPhaseWord_sg N).ps = true := by kernel_rfl

theorem T_laws_FnExactPhaseWord_callable : Callable Try.prog 6 := callable_of Try.func6 (show chkFn Try.f6 = true by kernel_rfl)

theorem T_laws_FnExactPhaseWord_good (N : Nat) : Good Try.prog 6 (T_laws_FnExactPhaseWord_sg N) :=
  good_body tabOk (ctx_cons (T_spec_PhaseWord_good N) T_spec_PhaseWord_callable (ctx_cons (T_impl_PhaseWord_good N) T_impl_PhaseWord_callable ctx_nil)) Try.func6 (T_laws_FnExactPhaseWord_ok N) (fun d _ h => ⟨N, (T_laws_FnExactPhaseWord_den N d.1).trans h⟩)

end Go.Sx
