/- Each Go function does what its Lean function says. -/
import Derived.Test.YtlhkhldlcmoibaaT
import Derived.Test.YtlhkhldlcmoibaaProg
namespace Go.Sx
open Go.Proofs
set_option linter.unusedVariables false
set_option linter.unusedSimpArgs false

def tab : Tab := [(3, ⟨.int .i64, false, .basic⟩), (4, ⟨.bool, false, .basic⟩), (5, ⟨.int .u8, false, .basic⟩), (9, ⟨.str, false, .basic⟩), (28, ⟨.prod (.int .i64) (.prod (.int .i64) (.prod (.int .i64) (.prod (.int .i64) (.prod (.int .i64) (.prod (.int .i64) (.int .i64)))))), true, .struct [(0, 3), (1, 3), (2, 3), (3, 3), (4, 3), (5, 3), (6, 3)]⟩), (30, ⟨.prod (.int .i64) (.prod (.int .i64) (.prod (.int .i64) (.prod (.int .i64) (.prod (.int .i64) (.prod (.int .i64) (.int .i64)))))), true, .struct [(0, 3), (1, 3), (2, 3), (3, 3), (4, 3), (5, 3), (6, 3)]⟩), (54, ⟨.slice (.int .u8), false, .slice 5⟩)]

theorem mixedOk : Try.prog.follows .mixedOrders = true := by kernel_rfl

theorem tabOk : TabOk Try.prog tab := tab_ok (show chkTab Try.prog tab tab = true by kernel_rfl)

def T_spec_Dec_sg (N : Nat) : Sig := Sig.of [.v (.int .i64) false] [(.str, false)] (fun d => T_spec_Dec N d.1)

def T_spec_Dec_ann : Nat → List Ghost
  | 5 => [.canon [0, 3, 4, 11]]
  | 6 => [.canon [0, 3, 4, 5]]
  | 7 => [.canon [0, 3, 4, 5, 15]]
  | 8 => [.canon [0, 3, 4, 5]]
  | 9 => [.canon [0, 3, 4]]
  | 10 => [.canon [0, 3, 4]]
  | 100005 => [.canon [0, 3, 4]]
  | _ => []

def T_spec_Dec_ctx (N : Nat) : Ctx := []

def T_spec_Dec_lp0_sh (n2 : Int) (out3 : List UInt8) (neg4 : Bool) : St := { env := [(0, .s (.one (.val (.int .i64) (n2 : Int)))), (3, .s (.one (.val (.str) (out3 : List UInt8)))), (4, .s (.one (.val (.bool) (neg4 : Bool))))], objs := [], nx := 0 }

def T_spec_Dec_lp0_e0 (neg4 : Bool) (n5 : Int) (out6 : List UInt8) (t7 : Bool) : St := { env := [(0, .s (.one (.val (.int .i64) (n5 : Int)))), (3, .s (.one (.val (.str) (out6 : List UInt8)))), (4, .s (.one (.val (.bool) (neg4 : Bool)))), (11, .s (.one (.val (.bool) (t7 : Bool))))], objs := [], nx := 0 }

noncomputable def T_spec_Dec_lp0_m (N : Nat) {R : Type} (n : Nat) (st : St) (K : Ex → St → Option R) : Option R := loopN (roundG (T_spec_Dec_ann 100005) fun st k => sx tab (T_spec_Dec_ctx N) T_spec_Dec_ann N (nthLoop Try.f39 0) st k) n st K

theorem T_spec_Dec_lp0_step (N : Nat) {R : Type} (n : Nat) (K : Ex → St → Option R) (n2 : Int) (out3 : List UInt8) (neg4 : Bool) :
    T_spec_Dec_lp0_m N (n + 1) (T_spec_Dec_lp0_sh n2 out3 neg4) K =
    (bif n2 != (0 : Int) then
    (bif inz (10 : Int) then
      (bif decide ((irem n2 (10 : Int)) < (0 : Int)) then
        (bif sfit (toStr ([(IntKind.wrap .u8 (iadd .i64 (48 : Int) (isub .i64 (0 : Int) (irem n2 (10 : Int)))))])) out3 then
          (bif inz (10 : Int) then
            (T_spec_Dec_lp0_m N n (T_spec_Dec_lp0_sh (iquo .i64 n2 (10 : Int)) ((toStr ([(IntKind.wrap .u8 (iadd .i64 (48 : Int) (isub .i64 (0 : Int) (irem n2 (10 : Int)))))])) ++ out3) neg4) K) else none) else none)
        else
        (bif sfit (toStr ([(IntKind.wrap .u8 (iadd .i64 (48 : Int) (irem n2 (10 : Int))))])) out3 then
          (bif inz (10 : Int) then
            (T_spec_Dec_lp0_m N n (T_spec_Dec_lp0_sh (iquo .i64 n2 (10 : Int)) ((toStr ([(IntKind.wrap .u8 (iadd .i64 (48 : Int) (irem n2 (10 : Int))))])) ++ out3) neg4) K) else none) else none)) else none)
    else
    (K (.exit 0) (T_spec_Dec_lp0_e0 neg4 n2 out3 (n2 != (0 : Int))))) := by kernel_rfl

theorem T_spec_Dec_lp0_eq (N : Nat) {R : Type} (neg4 : Bool) (K : Ex → St → Option R) : ∀ (n : Nat) (n2 : Int) (out3 : List UInt8), T_spec_Dec_lp0_m N n (T_spec_Dec_lp0_sh n2 out3 neg4) K = T_spec_Dec_lp0 N neg4 (fun n5 out6 t7 => (K (.exit 0) (T_spec_Dec_lp0_e0 neg4 n5 out6 t7))) n n2 out3
  | 0, _, _ => rfl
  | n + 1, n2, out3 => by rw [T_spec_Dec_lp0_step, T_spec_Dec_lp0]; (try simp only [T_spec_Dec_lp0_eq N neg4 K n])

theorem T_spec_Dec_c1 (N : Nat) (n1 : Int) (n8 : Int) (out9 : List UInt8) (t10 : Bool) :
    ((ctxK (R := ODen (T_spec_Dec_sg N).ps × RDen (T_spec_Dec_sg N).rs) tab (T_spec_Dec_ctx N) T_spec_Dec_ann N (theCode Try.f39) [1, 1, 1, 1, 0, 0] (retK tab (T_spec_Dec_sg N) Try.f39.results.toList some)) (.exit 0) (T_spec_Dec_lp0_e0 (decide (n1 < (0 : Int))) n8 out9 t10)) =
    (bif decide (n1 < (0 : Int)) then
    (bif sfit ([45] : List UInt8) out9 then
      (some (α := ODen (T_spec_Dec_sg N).ps × RDen (T_spec_Dec_sg N).rs) ((), (([45] : List UInt8) ++ out9, ()))) else none)
    else
    (some (α := ODen (T_spec_Dec_sg N).ps × RDen (T_spec_Dec_sg N).rs) ((), (out9, ())))) := by kernel_rfl

theorem T_spec_Dec_den (N : Nat) (n1 : Int) :
    den (R := ODen (T_spec_Dec_sg N).ps × RDen (T_spec_Dec_sg N).rs) tab (T_spec_Dec_ctx N) T_spec_Dec_ann N (T_spec_Dec_sg N) Try.f39 (n1, ()) some =
    (bif n1 == (0 : Int) then
    (some (α := ODen (T_spec_Dec_sg N).ps × RDen (T_spec_Dec_sg N).rs) ((), (([48] : List UInt8), ())))
    else
    (T_spec_Dec_lp0 N (decide (n1 < (0 : Int)))
      (fun n8 out9 t10 =>
        (bif decide (n1 < (0 : Int)) then
          (bif sfit ([45] : List UInt8) out9 then
            (some (α := ODen (T_spec_Dec_sg N).ps × RDen (T_spec_Dec_sg N).rs) ((), (([45] : List UInt8) ++ out9, ()))) else none)
          else
          (some (α := ODen (T_spec_Dec_sg N).ps × RDen (T_spec_Dec_sg N).rs) ((), (out9, ())))))
       N n1 ([] : List UInt8))) := by
  have h : den (R := ODen (T_spec_Dec_sg N).ps × RDen (T_spec_Dec_sg N).rs) tab (T_spec_Dec_ctx N) T_spec_Dec_ann N (T_spec_Dec_sg N) Try.f39 (n1, ()) some =
    (bif n1 == (0 : Int) then
    (some (α := ODen (T_spec_Dec_sg N).ps × RDen (T_spec_Dec_sg N).rs) ((), (([48] : List UInt8), ())))
    else
    (T_spec_Dec_lp0_m N N (T_spec_Dec_lp0_sh n1 ([] : List UInt8) (decide (n1 < (0 : Int)))) (ctxK (R := ODen (T_spec_Dec_sg N).ps × RDen (T_spec_Dec_sg N).rs) tab (T_spec_Dec_ctx N) T_spec_Dec_ann N (theCode Try.f39) [1, 1, 1, 1, 0, 0] (retK tab (T_spec_Dec_sg N) Try.f39.results.toList some)))) := by kernel_rfl
  rw [h]
  (try simp only [T_spec_Dec_lp0_eq, T_spec_Dec_c1]) <;> rfl

theorem T_spec_Dec_ok (N : Nat) : chkBody Try.f39 (T_spec_Dec_sg N).ps = true := by kernel_rfl

theorem T_spec_Dec_callable : Callable Try.prog 39 := callable_of Try.func39 (show chkFn Try.f39 = true by kernel_rfl)

theorem T_spec_Dec_good (N : Nat) : Good Try.prog 39 (T_spec_Dec_sg N) :=
  good_body mixedOk tabOk ctx_nil Try.func39 (T_spec_Dec_ok N) (fun d _ h => ⟨N, (T_spec_Dec_den N d.1).trans h⟩)

def T_spec_ShowTally_sg (N : Nat) : Sig := Sig.of [.v (.prod (.int .i64) (.prod (.int .i64) (.prod (.int .i64) (.prod (.int .i64) (.prod (.int .i64) (.prod (.int .i64) (.int .i64))))))) true] [(.str, false)] (fun d => T_spec_ShowTally N d.1)

def T_spec_ShowTally_ann : Nat → List Ghost
  | _ => []

def T_spec_ShowTally_ctx (N : Nat) : Ctx := [(39, T_spec_Dec_sg N)]

theorem T_spec_ShowTally_den (N : Nat) (t1 : Int × Int × Int × Int × Int × Int × Int) :
    den (R := ODen (T_spec_ShowTally_sg N).ps × RDen (T_spec_ShowTally_sg N).rs) tab (T_spec_ShowTally_ctx N) T_spec_ShowTally_ann N (T_spec_ShowTally_sg N) Try.f13 (t1, ()) some =
    ((T_spec_Dec N t1.1).bind fun o2 =>
    (bif sfit ([105, 100, 108, 101, 32] : List UInt8) o2.2.1 then
      (bif sfit (([105, 100, 108, 101, 32] : List UInt8) ++ o2.2.1) ([32, 108, 105, 118, 101, 32] : List UInt8) then
        ((T_spec_Dec N t1.2.1).bind fun o3 =>
          (bif sfit ((([105, 100, 108, 101, 32] : List UInt8) ++ o2.2.1) ++ ([32, 108, 105, 118, 101, 32] : List UInt8)) o3.2.1 then
            (bif sfit (((([105, 100, 108, 101, 32] : List UInt8) ++ o2.2.1) ++ ([32, 108, 105, 118, 101, 32] : List UInt8)) ++ o3.2.1) ([32, 100, 111, 110, 101, 32] : List UInt8) then
              ((T_spec_Dec N t1.2.2.1).bind fun o4 =>
                (bif sfit ((((([105, 100, 108, 101, 32] : List UInt8) ++ o2.2.1) ++ ([32, 108, 105, 118, 101, 32] : List UInt8)) ++ o3.2.1) ++ ([32, 100, 111, 110, 101, 32] : List UInt8)) o4.2.1 then
                  (bif sfit (((((([105, 100, 108, 101, 32] : List UInt8) ++ o2.2.1) ++ ([32, 108, 105, 118, 101, 32] : List UInt8)) ++ o3.2.1) ++ ([32, 100, 111, 110, 101, 32] : List UInt8)) ++ o4.2.1) ([32, 97, 98, 111, 114, 116, 101, 100, 32] : List UInt8) then
                    ((T_spec_Dec N t1.2.2.2.1).bind fun o5 =>
                      (bif sfit ((((((([105, 100, 108, 101, 32] : List UInt8) ++ o2.2.1) ++ ([32, 108, 105, 118, 101, 32] : List UInt8)) ++ o3.2.1) ++ ([32, 100, 111, 110, 101, 32] : List UInt8)) ++ o4.2.1) ++ ([32, 97, 98, 111, 114, 116, 101, 100, 32] : List UInt8)) o5.2.1 then
                        (bif sfit (((((((([105, 100, 108, 101, 32] : List UInt8) ++ o2.2.1) ++ ([32, 108, 105, 118, 101, 32] : List UInt8)) ++ o3.2.1) ++ ([32, 100, 111, 110, 101, 32] : List UInt8)) ++ o4.2.1) ++ ([32, 97, 98, 111, 114, 116, 101, 100, 32] : List UInt8)) ++ o5.2.1) ([32, 116, 114, 105, 101, 115, 32] : List UInt8) then
                          ((T_spec_Dec N t1.2.2.2.2.1).bind fun o6 =>
                            (bif sfit ((((((((([105, 100, 108, 101, 32] : List UInt8) ++ o2.2.1) ++ ([32, 108, 105, 118, 101, 32] : List UInt8)) ++ o3.2.1) ++ ([32, 100, 111, 110, 101, 32] : List UInt8)) ++ o4.2.1) ++ ([32, 97, 98, 111, 114, 116, 101, 100, 32] : List UInt8)) ++ o5.2.1) ++ ([32, 116, 114, 105, 101, 115, 32] : List UInt8)) o6.2.1 then
                              (bif sfit (((((((((([105, 100, 108, 101, 32] : List UInt8) ++ o2.2.1) ++ ([32, 108, 105, 118, 101, 32] : List UInt8)) ++ o3.2.1) ++ ([32, 100, 111, 110, 101, 32] : List UInt8)) ++ o4.2.1) ++ ([32, 97, 98, 111, 114, 116, 101, 100, 32] : List UInt8)) ++ o5.2.1) ++ ([32, 116, 114, 105, 101, 115, 32] : List UInt8)) ++ o6.2.1) ([32, 108, 111, 99, 107, 101, 100, 32] : List UInt8) then
                                ((T_spec_Dec N t1.2.2.2.2.2.1).bind fun o7 =>
                                  (bif sfit ((((((((((([105, 100, 108, 101, 32] : List UInt8) ++ o2.2.1) ++ ([32, 108, 105, 118, 101, 32] : List UInt8)) ++ o3.2.1) ++ ([32, 100, 111, 110, 101, 32] : List UInt8)) ++ o4.2.1) ++ ([32, 97, 98, 111, 114, 116, 101, 100, 32] : List UInt8)) ++ o5.2.1) ++ ([32, 116, 114, 105, 101, 115, 32] : List UInt8)) ++ o6.2.1) ++ ([32, 108, 111, 99, 107, 101, 100, 32] : List UInt8)) o7.2.1 then
                                    (bif sfit (((((((((((([105, 100, 108, 101, 32] : List UInt8) ++ o2.2.1) ++ ([32, 108, 105, 118, 101, 32] : List UInt8)) ++ o3.2.1) ++ ([32, 100, 111, 110, 101, 32] : List UInt8)) ++ o4.2.1) ++ ([32, 97, 98, 111, 114, 116, 101, 100, 32] : List UInt8)) ++ o5.2.1) ++ ([32, 116, 114, 105, 101, 115, 32] : List UInt8)) ++ o6.2.1) ++ ([32, 108, 111, 99, 107, 101, 100, 32] : List UInt8)) ++ o7.2.1) ([32, 104, 101, 108, 100, 32] : List UInt8) then
                                      ((T_spec_Dec N t1.2.2.2.2.2.2).bind fun o8 =>
                                        (bif sfit ((((((((((((([105, 100, 108, 101, 32] : List UInt8) ++ o2.2.1) ++ ([32, 108, 105, 118, 101, 32] : List UInt8)) ++ o3.2.1) ++ ([32, 100, 111, 110, 101, 32] : List UInt8)) ++ o4.2.1) ++ ([32, 97, 98, 111, 114, 116, 101, 100, 32] : List UInt8)) ++ o5.2.1) ++ ([32, 116, 114, 105, 101, 115, 32] : List UInt8)) ++ o6.2.1) ++ ([32, 108, 111, 99, 107, 101, 100, 32] : List UInt8)) ++ o7.2.1) ++ ([32, 104, 101, 108, 100, 32] : List UInt8)) o8.2.1 then
                                          (some (α := ODen (T_spec_ShowTally_sg N).ps × RDen (T_spec_ShowTally_sg N).rs) ((), (((((((((((((([105, 100, 108, 101, 32] : List UInt8) ++ o2.2.1) ++ ([32, 108, 105, 118, 101, 32] : List UInt8)) ++ o3.2.1) ++ ([32, 100, 111, 110, 101, 32] : List UInt8)) ++ o4.2.1) ++ ([32, 97, 98, 111, 114, 116, 101, 100, 32] : List UInt8)) ++ o5.2.1) ++ ([32, 116, 114, 105, 101, 115, 32] : List UInt8)) ++ o6.2.1) ++ ([32, 108, 111, 99, 107, 101, 100, 32] : List UInt8)) ++ o7.2.1) ++ ([32, 104, 101, 108, 100, 32] : List UInt8)) ++ o8.2.1, ()))) else none)) else none) else none)) else none) else none)) else none) else none)) else none) else none)) else none) else none)) else none) else none)) := by kernel_rfl

theorem T_spec_ShowTally_ok (N : Nat) : chkBody Try.f13 (T_spec_ShowTally_sg N).ps = true := by kernel_rfl

theorem T_spec_ShowTally_callable : Callable Try.prog 13 := callable_of Try.func13 (show chkFn Try.f13 = true by kernel_rfl)

theorem T_spec_ShowTally_good (N : Nat) : Good Try.prog 13 (T_spec_ShowTally_sg N) :=
  good_body mixedOk tabOk (ctx_cons (T_spec_Dec_good N) T_spec_Dec_callable ctx_nil) Try.func13 (T_spec_ShowTally_ok N) (fun d _ h => ⟨N, (T_spec_ShowTally_den N d.1).trans h⟩)

def T_laws_toTally_sg (N : Nat) : Sig := Sig.of [.v (.prod (.int .i64) (.prod (.int .i64) (.prod (.int .i64) (.prod (.int .i64) (.prod (.int .i64) (.prod (.int .i64) (.int .i64))))))) true] [(.prod (.int .i64) (.prod (.int .i64) (.prod (.int .i64) (.prod (.int .i64) (.prod (.int .i64) (.prod (.int .i64) (.int .i64)))))), true)] (fun d => T_laws_toTally N d.1)

def T_laws_toTally_ann : Nat → List Ghost
  | _ => []

def T_laws_toTally_ctx (N : Nat) : Ctx := []

theorem T_laws_toTally_den (N : Nat) (a1 : Int × Int × Int × Int × Int × Int × Int) :
    den (R := ODen (T_laws_toTally_sg N).ps × RDen (T_laws_toTally_sg N).rs) tab (T_laws_toTally_ctx N) T_laws_toTally_ann N (T_laws_toTally_sg N) Try.f14 (a1, ()) some =
    (some (α := ODen (T_laws_toTally_sg N).ps × RDen (T_laws_toTally_sg N).rs) ((), (a1, ()))) := by kernel_rfl

theorem T_laws_toTally_ok (N : Nat) : chkBody Try.f14 (T_laws_toTally_sg N).ps = true := by kernel_rfl

theorem T_laws_toTally_callable : Callable Try.prog 14 := callable_of Try.func14 (show chkFn Try.f14 = true by kernel_rfl)

theorem T_laws_toTally_good (N : Nat) : Good Try.prog 14 (T_laws_toTally_sg N) :=
  good_body mixedOk tabOk ctx_nil Try.func14 (T_laws_toTally_ok N) (fun d _ h => ⟨N, (T_laws_toTally_den N d.1).trans h⟩)

def T_impl_Dec_sg (N : Nat) : Sig := Sig.of [.v (.int .i64) false] [(.str, false)] (fun d => T_impl_Dec N d.1)

def T_impl_Dec_ann : Nat → List Ghost
  | 5 => [.canon [0, 3, 4, 13]]
  | 6 => [.canon [0, 3, 4]]
  | 7 => [.canon [0, 3, 4, 5]]
  | 8 => [.canon [0, 3, 4, 5, 19]]
  | 9 => [.canon [0, 3, 4, 5]]
  | 10 => [.canon [0, 3, 4]]
  | 14 => [.canon [3, 6, 7, 38]]
  | 15 => [.canon [3, 6, 7]]
  | 16 => [.canon [3, 6, 7]]
  | 100005 => [.canon [0, 3, 4]]
  | 100014 => [.canon [3, 6, 7]]
  | _ => []

def T_impl_Dec_ctx (N : Nat) : Ctx := []

def T_impl_Dec_lp0_sh (n2 : Int) (m3 : Int) (l4 : List Int) : St := { env := [(0, .s (.one (.val (.int .i64) (n2 : Int)))), (3, .s (.one (.own 0))), (4, .s (.one (.val (.int .i64) (m3 : Int))))], objs := [(0, .arr (.int .u8) (l4 : List Int))], nx := 1 }

def T_impl_Dec_lp0_e0 (n2 : Int) (m5 : Int) (t6 : Bool) (l7 : List Int) : St := { env := [(0, .s (.one (.val (.int .i64) (n2 : Int)))), (3, .s (.one (.own 0))), (4, .s (.one (.val (.int .i64) (m5 : Int)))), (13, .s (.one (.val (.bool) (t6 : Bool))))], objs := [(0, .arr (.int .u8) (l7 : List Int))], nx := 1 }

noncomputable def T_impl_Dec_lp0_m (N : Nat) {R : Type} (n : Nat) (st : St) (K : Ex → St → Option R) : Option R := loopN (roundG (T_impl_Dec_ann 100005) fun st k => sx tab (T_impl_Dec_ctx N) T_impl_Dec_ann N (nthLoop Try.f40 0) st k) n st K

theorem T_impl_Dec_lp0_step (N : Nat) {R : Type} (n : Nat) (K : Ex → St → Option R) (n2 : Int) (m3 : Int) (l4 : List Int) :
    T_impl_Dec_lp0_m N (n + 1) (T_impl_Dec_lp0_sh n2 m3 l4) K =
    (bif m3 != (0 : Int) then
    (bif inz (10 : Int) then
      (bif decide ((irem m3 (10 : Int)) < (0 : Int)) then
        (bif room ((List.length l4) + (List.length ([(IntKind.wrap .u8 (iadd .i64 (48 : Int) (isub .i64 (0 : Int) (irem m3 (10 : Int)))))]))) then
          (bif inz (10 : Int) then
            (T_impl_Dec_lp0_m N n (T_impl_Dec_lp0_sh n2 (iquo .i64 m3 (10 : Int)) (List.append l4 ([(IntKind.wrap .u8 (iadd .i64 (48 : Int) (isub .i64 (0 : Int) (irem m3 (10 : Int)))))]))) K) else none) else none)
        else
        (bif room ((List.length l4) + (List.length ([(IntKind.wrap .u8 (iadd .i64 (48 : Int) (irem m3 (10 : Int))))]))) then
          (bif inz (10 : Int) then
            (T_impl_Dec_lp0_m N n (T_impl_Dec_lp0_sh n2 (iquo .i64 m3 (10 : Int)) (List.append l4 ([(IntKind.wrap .u8 (iadd .i64 (48 : Int) (irem m3 (10 : Int))))]))) K) else none) else none)) else none)
    else
    (K (.exit 0) (T_impl_Dec_lp0_e0 n2 m3 (m3 != (0 : Int)) l4))) := by kernel_rfl

theorem T_impl_Dec_lp0_eq (N : Nat) {R : Type} (n2 : Int) (K : Ex → St → Option R) : ∀ (n : Nat) (m3 : Int) (l4 : List Int), T_impl_Dec_lp0_m N n (T_impl_Dec_lp0_sh n2 m3 l4) K = T_impl_Dec_lp0 N n2 (fun m5 t6 l7 => (K (.exit 0) (T_impl_Dec_lp0_e0 n2 m5 t6 l7))) n m3 l4
  | 0, _, _ => rfl
  | n + 1, m3, l4 => by rw [T_impl_Dec_lp0_step, T_impl_Dec_lp0]; (try simp only [T_impl_Dec_lp0_eq N n2 K n])

def T_impl_Dec_lp1_sh (i11 : Int) (j12 : Int) (l13 : List Int) : St := { env := [(3, .s (.one (.own 0))), (6, .s (.one (.val (.int .i64) (i11 : Int)))), (7, .s (.one (.val (.int .i64) (j12 : Int))))], objs := [(0, .arr (.int .u8) (l13 : List Int))], nx := 1 }

def T_impl_Dec_lp1_e0 (i14 : Int) (j15 : Int) (t16 : Bool) (l17 : List Int) : St := { env := [(3, .s (.one (.own 0))), (6, .s (.one (.val (.int .i64) (i14 : Int)))), (7, .s (.one (.val (.int .i64) (j15 : Int)))), (38, .s (.one (.val (.bool) (t16 : Bool))))], objs := [(0, .arr (.int .u8) (l17 : List Int))], nx := 1 }

noncomputable def T_impl_Dec_lp1_m (N : Nat) {R : Type} (n : Nat) (st : St) (K : Ex → St → Option R) : Option R := loopN (roundG (T_impl_Dec_ann 100014) fun st k => sx tab (T_impl_Dec_ctx N) T_impl_Dec_ann N (nthLoop Try.f40 1) st k) n st K

theorem T_impl_Dec_lp1_step (N : Nat) {R : Type} (n : Nat) (K : Ex → St → Option R) (i11 : Int) (j12 : Int) (l13 : List Int) :
    T_impl_Dec_lp1_m N (n + 1) (T_impl_Dec_lp1_sh i11 j12 l13) K =
    (bif decide (i11 < j12) then
    (bif inb j12 (List.length l13) then
      (bif inb i11 (List.length l13) then
        (bif inb i11 (List.length l13) then
          (bif inb j12 (List.length (List.set l13 (Int.toNat i11) (List.getD l13 (Int.toNat j12) (0 : Int)))) then
            (T_impl_Dec_lp1_m N n (T_impl_Dec_lp1_sh (iadd .i64 i11 (1 : Int)) (isub .i64 j12 (1 : Int)) (List.set (List.set l13 (Int.toNat i11) (List.getD l13 (Int.toNat j12) (0 : Int))) (Int.toNat j12) (List.getD l13 (Int.toNat i11) (0 : Int)))) K) else none) else none) else none) else none)
    else
    (K (.exit 2) (T_impl_Dec_lp1_e0 i11 j12 (decide (i11 < j12)) l13))) := by kernel_rfl

theorem T_impl_Dec_lp1_eq (N : Nat) {R : Type} (K : Ex → St → Option R) : ∀ (n : Nat) (i11 : Int) (j12 : Int) (l13 : List Int), T_impl_Dec_lp1_m N n (T_impl_Dec_lp1_sh i11 j12 l13) K = T_impl_Dec_lp1 N (fun i14 j15 t16 l17 => (K (.exit 2) (T_impl_Dec_lp1_e0 i14 j15 t16 l17))) n i11 j12 l13
  | 0, _, _, _ => rfl
  | n + 1, i11, j12, l13 => by rw [T_impl_Dec_lp1_step, T_impl_Dec_lp1]; (try simp only [T_impl_Dec_lp1_eq N K n])

theorem T_impl_Dec_c2 (N : Nat) (i18 : Int) (j19 : Int) (t20 : Bool) (l21 : List Int) :
    ((ctxK (R := ODen (T_impl_Dec_sg N).ps × RDen (T_impl_Dec_sg N).rs) tab (T_impl_Dec_ctx N) T_impl_Dec_ann N (theCode Try.f40) [1, 1, 1, 1, 1, 0, 1, 0] (retK tab (T_impl_Dec_sg N) Try.f40.results.toList some)) (.exit 2) (T_impl_Dec_lp1_e0 i18 j19 t20 l21)) =
    (some (α := ODen (T_impl_Dec_sg N).ps × RDen (T_impl_Dec_sg N).rs) ((), (toStr l21, ()))) := by kernel_rfl

theorem T_impl_Dec_c3 (N : Nat) (i22 : Int) (j23 : Int) (t24 : Bool) (l25 : List Int) :
    ((ctxK (R := ODen (T_impl_Dec_sg N).ps × RDen (T_impl_Dec_sg N).rs) tab (T_impl_Dec_ctx N) T_impl_Dec_ann N (theCode Try.f40) [1, 1, 1, 1, 1, 0, 1, 0] (retK tab (T_impl_Dec_sg N) Try.f40.results.toList some)) (.exit 2) (T_impl_Dec_lp1_e0 i22 j23 t24 l25)) =
    (some (α := ODen (T_impl_Dec_sg N).ps × RDen (T_impl_Dec_sg N).rs) ((), (toStr l25, ()))) := by kernel_rfl

theorem T_impl_Dec_c1 (N : Nat) (n1 : Int) (m8 : Int) (t9 : Bool) (l10 : List Int) :
    ((ctxK (R := ODen (T_impl_Dec_sg N).ps × RDen (T_impl_Dec_sg N).rs) tab (T_impl_Dec_ctx N) T_impl_Dec_ann N (theCode Try.f40) [1, 1, 1, 0, 1, 0] (retK tab (T_impl_Dec_sg N) Try.f40.results.toList some)) (.exit 0) (T_impl_Dec_lp0_e0 n1 m8 t9 l10)) =
    (bif decide (n1 < (0 : Int)) then
    (bif room ((List.length l10) + (List.length ([(45 : Int)]))) then
      (T_impl_Dec_lp1 N
        (fun i18 j19 t20 l21 =>
          (some (α := ODen (T_impl_Dec_sg N).ps × RDen (T_impl_Dec_sg N).rs) ((), (toStr l21, ()))))
         N (0 : Int) (isub .i64 (ilen (List.append l10 ([(45 : Int)]))) (1 : Int)) (List.append l10 ([(45 : Int)]))) else none)
    else
    (T_impl_Dec_lp1 N
      (fun i22 j23 t24 l25 =>
        (some (α := ODen (T_impl_Dec_sg N).ps × RDen (T_impl_Dec_sg N).rs) ((), (toStr l25, ()))))
       N (0 : Int) (isub .i64 (ilen l10) (1 : Int)) l10)) := by
  have h : ((ctxK (R := ODen (T_impl_Dec_sg N).ps × RDen (T_impl_Dec_sg N).rs) tab (T_impl_Dec_ctx N) T_impl_Dec_ann N (theCode Try.f40) [1, 1, 1, 0, 1, 0] (retK tab (T_impl_Dec_sg N) Try.f40.results.toList some)) (.exit 0) (T_impl_Dec_lp0_e0 n1 m8 t9 l10)) =
    (bif decide (n1 < (0 : Int)) then
    (bif room ((List.length l10) + (List.length ([(45 : Int)]))) then
      (T_impl_Dec_lp1_m N N (T_impl_Dec_lp1_sh (0 : Int) (isub .i64 (ilen (List.append l10 ([(45 : Int)]))) (1 : Int)) (List.append l10 ([(45 : Int)]))) (ctxK (R := ODen (T_impl_Dec_sg N).ps × RDen (T_impl_Dec_sg N).rs) tab (T_impl_Dec_ctx N) T_impl_Dec_ann N (theCode Try.f40) [1, 1, 1, 1, 1, 0, 1, 0] (retK tab (T_impl_Dec_sg N) Try.f40.results.toList some))) else none)
    else
    (T_impl_Dec_lp1_m N N (T_impl_Dec_lp1_sh (0 : Int) (isub .i64 (ilen l10) (1 : Int)) l10) (ctxK (R := ODen (T_impl_Dec_sg N).ps × RDen (T_impl_Dec_sg N).rs) tab (T_impl_Dec_ctx N) T_impl_Dec_ann N (theCode Try.f40) [1, 1, 1, 1, 1, 0, 1, 0] (retK tab (T_impl_Dec_sg N) Try.f40.results.toList some)))) := by kernel_rfl
  rw [h]
  (try simp only [T_impl_Dec_lp1_eq, T_impl_Dec_c2, T_impl_Dec_c3]) <;> rfl

theorem T_impl_Dec_den (N : Nat) (n1 : Int) :
    den (R := ODen (T_impl_Dec_sg N).ps × RDen (T_impl_Dec_sg N).rs) tab (T_impl_Dec_ctx N) T_impl_Dec_ann N (T_impl_Dec_sg N) Try.f40 (n1, ()) some =
    (bif n1 == (0 : Int) then
    (some (α := ODen (T_impl_Dec_sg N).ps × RDen (T_impl_Dec_sg N).rs) ((), (([48] : List UInt8), ())))
    else
    (T_impl_Dec_lp0 N n1
      (fun m8 t9 l10 =>
        (bif decide (n1 < (0 : Int)) then
          (bif room ((List.length l10) + (List.length ([(45 : Int)]))) then
            (T_impl_Dec_lp1 N
              (fun i18 j19 t20 l21 =>
                (some (α := ODen (T_impl_Dec_sg N).ps × RDen (T_impl_Dec_sg N).rs) ((), (toStr l21, ()))))
               N (0 : Int) (isub .i64 (ilen (List.append l10 ([(45 : Int)]))) (1 : Int)) (List.append l10 ([(45 : Int)]))) else none)
          else
          (T_impl_Dec_lp1 N
            (fun i22 j23 t24 l25 =>
              (some (α := ODen (T_impl_Dec_sg N).ps × RDen (T_impl_Dec_sg N).rs) ((), (toStr l25, ()))))
             N (0 : Int) (isub .i64 (ilen l10) (1 : Int)) l10)))
       N n1 ([] : List Int))) := by
  have h : den (R := ODen (T_impl_Dec_sg N).ps × RDen (T_impl_Dec_sg N).rs) tab (T_impl_Dec_ctx N) T_impl_Dec_ann N (T_impl_Dec_sg N) Try.f40 (n1, ()) some =
    (bif n1 == (0 : Int) then
    (some (α := ODen (T_impl_Dec_sg N).ps × RDen (T_impl_Dec_sg N).rs) ((), (([48] : List UInt8), ())))
    else
    (T_impl_Dec_lp0_m N N (T_impl_Dec_lp0_sh n1 n1 ([] : List Int)) (ctxK (R := ODen (T_impl_Dec_sg N).ps × RDen (T_impl_Dec_sg N).rs) tab (T_impl_Dec_ctx N) T_impl_Dec_ann N (theCode Try.f40) [1, 1, 1, 0, 1, 0] (retK tab (T_impl_Dec_sg N) Try.f40.results.toList some)))) := by kernel_rfl
  rw [h]
  (try simp only [T_impl_Dec_lp0_eq, T_impl_Dec_c1]) <;> rfl

theorem T_impl_Dec_ok (N : Nat) : chkBody Try.f40 (T_impl_Dec_sg N).ps = true := by kernel_rfl

theorem T_impl_Dec_callable : Callable Try.prog 40 := callable_of Try.func40 (show chkFn Try.f40 = true by kernel_rfl)

theorem T_impl_Dec_good (N : Nat) : Good Try.prog 40 (T_impl_Dec_sg N) :=
  good_body mixedOk tabOk ctx_nil Try.func40 (T_impl_Dec_ok N) (fun d _ h => ⟨N, (T_impl_Dec_den N d.1).trans h⟩)

def T_impl_ShowTally_sg (N : Nat) : Sig := Sig.of [.v (.prod (.int .i64) (.prod (.int .i64) (.prod (.int .i64) (.prod (.int .i64) (.prod (.int .i64) (.prod (.int .i64) (.int .i64))))))) true] [(.str, false)] (fun d => T_impl_ShowTally N d.1)

def T_impl_ShowTally_ann : Nat → List Ghost
  | _ => []

def T_impl_ShowTally_ctx (N : Nat) : Ctx := [(40, T_impl_Dec_sg N)]

theorem T_impl_ShowTally_den (N : Nat) (t1 : Int × Int × Int × Int × Int × Int × Int) :
    den (R := ODen (T_impl_ShowTally_sg N).ps × RDen (T_impl_ShowTally_sg N).rs) tab (T_impl_ShowTally_ctx N) T_impl_ShowTally_ann N (T_impl_ShowTally_sg N) Try.f15 (t1, ()) some =
    ((T_impl_Dec N t1.1).bind fun o2 =>
    (bif sfit ([105, 100, 108, 101, 32] : List UInt8) o2.2.1 then
      (bif sfit (([105, 100, 108, 101, 32] : List UInt8) ++ o2.2.1) ([32, 108, 105, 118, 101, 32] : List UInt8) then
        ((T_impl_Dec N t1.2.1).bind fun o3 =>
          (bif sfit ((([105, 100, 108, 101, 32] : List UInt8) ++ o2.2.1) ++ ([32, 108, 105, 118, 101, 32] : List UInt8)) o3.2.1 then
            (bif sfit (((([105, 100, 108, 101, 32] : List UInt8) ++ o2.2.1) ++ ([32, 108, 105, 118, 101, 32] : List UInt8)) ++ o3.2.1) ([32, 100, 111, 110, 101, 32] : List UInt8) then
              ((T_impl_Dec N t1.2.2.1).bind fun o4 =>
                (bif sfit ((((([105, 100, 108, 101, 32] : List UInt8) ++ o2.2.1) ++ ([32, 108, 105, 118, 101, 32] : List UInt8)) ++ o3.2.1) ++ ([32, 100, 111, 110, 101, 32] : List UInt8)) o4.2.1 then
                  (bif sfit (((((([105, 100, 108, 101, 32] : List UInt8) ++ o2.2.1) ++ ([32, 108, 105, 118, 101, 32] : List UInt8)) ++ o3.2.1) ++ ([32, 100, 111, 110, 101, 32] : List UInt8)) ++ o4.2.1) ([32, 97, 98, 111, 114, 116, 101, 100, 32] : List UInt8) then
                    ((T_impl_Dec N t1.2.2.2.1).bind fun o5 =>
                      (bif sfit ((((((([105, 100, 108, 101, 32] : List UInt8) ++ o2.2.1) ++ ([32, 108, 105, 118, 101, 32] : List UInt8)) ++ o3.2.1) ++ ([32, 100, 111, 110, 101, 32] : List UInt8)) ++ o4.2.1) ++ ([32, 97, 98, 111, 114, 116, 101, 100, 32] : List UInt8)) o5.2.1 then
                        (bif sfit (((((((([105, 100, 108, 101, 32] : List UInt8) ++ o2.2.1) ++ ([32, 108, 105, 118, 101, 32] : List UInt8)) ++ o3.2.1) ++ ([32, 100, 111, 110, 101, 32] : List UInt8)) ++ o4.2.1) ++ ([32, 97, 98, 111, 114, 116, 101, 100, 32] : List UInt8)) ++ o5.2.1) ([32, 116, 114, 105, 101, 115, 32] : List UInt8) then
                          ((T_impl_Dec N t1.2.2.2.2.1).bind fun o6 =>
                            (bif sfit ((((((((([105, 100, 108, 101, 32] : List UInt8) ++ o2.2.1) ++ ([32, 108, 105, 118, 101, 32] : List UInt8)) ++ o3.2.1) ++ ([32, 100, 111, 110, 101, 32] : List UInt8)) ++ o4.2.1) ++ ([32, 97, 98, 111, 114, 116, 101, 100, 32] : List UInt8)) ++ o5.2.1) ++ ([32, 116, 114, 105, 101, 115, 32] : List UInt8)) o6.2.1 then
                              (bif sfit (((((((((([105, 100, 108, 101, 32] : List UInt8) ++ o2.2.1) ++ ([32, 108, 105, 118, 101, 32] : List UInt8)) ++ o3.2.1) ++ ([32, 100, 111, 110, 101, 32] : List UInt8)) ++ o4.2.1) ++ ([32, 97, 98, 111, 114, 116, 101, 100, 32] : List UInt8)) ++ o5.2.1) ++ ([32, 116, 114, 105, 101, 115, 32] : List UInt8)) ++ o6.2.1) ([32, 108, 111, 99, 107, 101, 100, 32] : List UInt8) then
                                ((T_impl_Dec N t1.2.2.2.2.2.1).bind fun o7 =>
                                  (bif sfit ((((((((((([105, 100, 108, 101, 32] : List UInt8) ++ o2.2.1) ++ ([32, 108, 105, 118, 101, 32] : List UInt8)) ++ o3.2.1) ++ ([32, 100, 111, 110, 101, 32] : List UInt8)) ++ o4.2.1) ++ ([32, 97, 98, 111, 114, 116, 101, 100, 32] : List UInt8)) ++ o5.2.1) ++ ([32, 116, 114, 105, 101, 115, 32] : List UInt8)) ++ o6.2.1) ++ ([32, 108, 111, 99, 107, 101, 100, 32] : List UInt8)) o7.2.1 then
                                    (bif sfit (((((((((((([105, 100, 108, 101, 32] : List UInt8) ++ o2.2.1) ++ ([32, 108, 105, 118, 101, 32] : List UInt8)) ++ o3.2.1) ++ ([32, 100, 111, 110, 101, 32] : List UInt8)) ++ o4.2.1) ++ ([32, 97, 98, 111, 114, 116, 101, 100, 32] : List UInt8)) ++ o5.2.1) ++ ([32, 116, 114, 105, 101, 115, 32] : List UInt8)) ++ o6.2.1) ++ ([32, 108, 111, 99, 107, 101, 100, 32] : List UInt8)) ++ o7.2.1) ([32, 104, 101, 108, 100, 32] : List UInt8) then
                                      ((T_impl_Dec N t1.2.2.2.2.2.2).bind fun o8 =>
                                        (bif sfit ((((((((((((([105, 100, 108, 101, 32] : List UInt8) ++ o2.2.1) ++ ([32, 108, 105, 118, 101, 32] : List UInt8)) ++ o3.2.1) ++ ([32, 100, 111, 110, 101, 32] : List UInt8)) ++ o4.2.1) ++ ([32, 97, 98, 111, 114, 116, 101, 100, 32] : List UInt8)) ++ o5.2.1) ++ ([32, 116, 114, 105, 101, 115, 32] : List UInt8)) ++ o6.2.1) ++ ([32, 108, 111, 99, 107, 101, 100, 32] : List UInt8)) ++ o7.2.1) ++ ([32, 104, 101, 108, 100, 32] : List UInt8)) o8.2.1 then
                                          (some (α := ODen (T_impl_ShowTally_sg N).ps × RDen (T_impl_ShowTally_sg N).rs) ((), (((((((((((((([105, 100, 108, 101, 32] : List UInt8) ++ o2.2.1) ++ ([32, 108, 105, 118, 101, 32] : List UInt8)) ++ o3.2.1) ++ ([32, 100, 111, 110, 101, 32] : List UInt8)) ++ o4.2.1) ++ ([32, 97, 98, 111, 114, 116, 101, 100, 32] : List UInt8)) ++ o5.2.1) ++ ([32, 116, 114, 105, 101, 115, 32] : List UInt8)) ++ o6.2.1) ++ ([32, 108, 111, 99, 107, 101, 100, 32] : List UInt8)) ++ o7.2.1) ++ ([32, 104, 101, 108, 100, 32] : List UInt8)) ++ o8.2.1, ()))) else none)) else none) else none)) else none) else none)) else none) else none)) else none) else none)) else none) else none)) else none) else none)) := by kernel_rfl

theorem T_impl_ShowTally_ok (N : Nat) : chkBody Try.f15 (T_impl_ShowTally_sg N).ps = true := by kernel_rfl

theorem T_impl_ShowTally_callable : Callable Try.prog 15 := callable_of Try.func15 (show chkFn Try.f15 = true by kernel_rfl)

theorem T_impl_ShowTally_good (N : Nat) : Good Try.prog 15 (T_impl_ShowTally_sg N) :=
  good_body mixedOk tabOk (ctx_cons (T_impl_Dec_good N) T_impl_Dec_callable ctx_nil) Try.func15 (T_impl_ShowTally_ok N) (fun d _ h => ⟨N, (T_impl_ShowTally_den N d.1).trans h⟩)

def T_laws_FnExactShowTally_sg (N : Nat) : Sig := Sig.of [.v (.prod (.int .i64) (.prod (.int .i64) (.prod (.int .i64) (.prod (.int .i64) (.prod (.int .i64) (.prod (.int .i64) (.int .i64))))))) true] [(.bool, false)] (fun d => T_laws_FnExactShowTally N d.1)

def T_laws_FnExactShowTally_ann : Nat → List Ghost
  | _ => []

def T_laws_FnExactShowTally_ctx (N : Nat) : Ctx := [(14, T_laws_toTally_sg N), (13, T_spec_ShowTally_sg N), (15, T_impl_ShowTally_sg N)]

theorem T_laws_FnExactShowTally_den (N : Nat) (aT1 : Int × Int × Int × Int × Int × Int × Int) :
    den (R := ODen (T_laws_FnExactShowTally_sg N).ps × RDen (T_laws_FnExactShowTally_sg N).rs) tab (T_laws_FnExactShowTally_ctx N) T_laws_FnExactShowTally_ann N (T_laws_FnExactShowTally_sg N) Try.f4 (aT1, ()) some =
    ((T_laws_toTally N aT1).bind fun o2 =>
    ((T_spec_ShowTally N o2.2.1).bind fun o3 =>
      ((T_laws_toTally N aT1).bind fun o4 =>
        ((T_impl_ShowTally N o4.2.1).bind fun o5 =>
          (bif !(seq o5.2.1 o3.2.1) then
            (some (α := ODen (T_laws_FnExactShowTally_sg N).ps × RDen (T_laws_FnExactShowTally_sg N).rs) ((), (false, ())))
            else
            (some (α := ODen (T_laws_FnExactShowTally_sg N).ps × RDen (T_laws_FnExactShowTally_sg N).rs) ((), (true, ())))))))) := by kernel_rfl

theorem T_laws_FnExactShowTally_ok (N : Nat) : chkBody Try.f4 (T_laws_FnExactShowTally_sg N).ps = true := by kernel_rfl

theorem T_laws_FnExactShowTally_callable : Callable Try.prog 4 := callable_of Try.func4 (show chkFn Try.f4 = true by kernel_rfl)

theorem T_laws_FnExactShowTally_good (N : Nat) : Good Try.prog 4 (T_laws_FnExactShowTally_sg N) :=
  good_body mixedOk tabOk (ctx_cons (T_laws_toTally_good N) T_laws_toTally_callable (ctx_cons (T_spec_ShowTally_good N) T_spec_ShowTally_callable (ctx_cons (T_impl_ShowTally_good N) T_impl_ShowTally_callable ctx_nil))) Try.func4 (T_laws_FnExactShowTally_ok N) (fun d _ h => ⟨N, (T_laws_FnExactShowTally_den N d.1).trans h⟩)

end Go.Sx
