/- Each Go function does what its Lean function says. -/
import Derived.Test.YtlhkhldlcmoibaaT
import Derived.Test.YtlhkhldlcmoibaaProg
namespace Go.Sx
open Go.Proofs
set_option linter.unusedVariables false
set_option linter.unusedSimpArgs false

def tab : Tab := [(3, ⟨.int .i64, false, .basic⟩), (4, ⟨.bool, false, .basic⟩), (33, ⟨.slice (.prod (.int .i64) (.prod (.int .i64) (.int .i64))), false, .slice 47⟩), (36, ⟨.slice (.prod (.int .i64) (.prod (.int .i64) (.int .i64))), false, .slice 48⟩), (47, ⟨.prod (.int .i64) (.prod (.int .i64) (.int .i64)), true, .struct [(0, 3), (1, 3), (2, 3)]⟩), (48, ⟨.prod (.int .i64) (.prod (.int .i64) (.int .i64)), true, .struct [(0, 3), (1, 3), (2, 3)]⟩)]

theorem tabOk : TabOk Try.prog tab := tab_ok (show chkTab Try.prog tab tab = true by kernel_rfl)

def T_laws_szTripleS_sg (N : Nat) : Sig := Sig.of [.v (.slice (.prod (.int .i64) (.prod (.int .i64) (.int .i64)))) false, .v (.int .i64) false] [(.int .i64, false)] (fun d => T_laws_szTripleS N d.1 d.2.1)

def T_laws_szTripleS_ann : Nat → List Ghost
  | _ => []

def T_laws_szTripleS_ctx (N : Nat) : Ctx := []

theorem T_laws_szTripleS_den (N : Nat) (a1 : List (Int × Int × Int)) (left2 : Int) :
    den (R := ODen (T_laws_szTripleS_sg N).ps × RDen (T_laws_szTripleS_sg N).rs) tab (T_laws_szTripleS_ctx N) T_laws_szTripleS_ann N (T_laws_szTripleS_sg N) Try.f16 (a1, left2, ()) some =
    (bif decide ((isub .i64 left2 (ilen a1)) < (0 : Int)) then
    (some ((), ((-1 : Int), ())))
    else
    (some ((), (isub .i64 left2 (ilen a1), ())))) := by kernel_rfl

theorem T_laws_szTripleS_ok (N : Nat) : chkBody Try.f16 (T_laws_szTripleS_sg N).ps = true := by kernel_rfl

theorem T_laws_szTripleS_callable : Callable Try.prog 16 := callable_of Try.func16 (show chkFn Try.f16 = true by kernel_rfl)

theorem T_laws_szTripleS_good (N : Nat) : Good Try.prog 16 (T_laws_szTripleS_sg N) :=
  good_body tabOk ctx_nil Try.func16 (T_laws_szTripleS_ok N) (fun d _ h => ⟨N, (T_laws_szTripleS_den N d.1 d.2.1).trans h⟩)

def T_spec_l1In_sg (N : Nat) : Sig := Sig.of [.v (.int .i64) false, .v (.int .i64) false, .v (.int .i64) false] [(.bool, false)] (fun d => T_spec_l1In N d.1 d.2.1 d.2.2.1)

def T_spec_l1In_ann : Nat → List Ghost
  | _ => []

def T_spec_l1In_ctx (N : Nat) : Ctx := []

theorem T_spec_l1In_den (N : Nat) (x1 : Int) (low2 : Int) (high3 : Int) :
    den (R := ODen (T_spec_l1In_sg N).ps × RDen (T_spec_l1In_sg N).rs) tab (T_spec_l1In_ctx N) T_spec_l1In_ann N (T_spec_l1In_sg N) Try.f45 (x1, low2, high3, ()) some =
    (bif decide (x1 ≥ low2) then
    (some ((), (decide (x1 ≤ high3), ())))
    else
    (some ((), (false, ())))) := by kernel_rfl

theorem T_spec_l1In_ok (N : Nat) : chkBody Try.f45 (T_spec_l1In_sg N).ps = true := by kernel_rfl

theorem T_spec_l1In_callable : Callable Try.prog 45 := callable_of Try.func45 (show chkFn Try.f45 = true by kernel_rfl)

theorem T_spec_l1In_good (N : Nat) : Good Try.prog 45 (T_spec_l1In_sg N) :=
  good_body tabOk ctx_nil Try.func45 (T_spec_l1In_ok N) (fun d _ h => ⟨N, (T_spec_l1In_den N d.1 d.2.1 d.2.2.1).trans h⟩)

def T_spec_l3Val_sg (N : Nat) : Sig := Sig.of [.v (.int .i64) false] [(.bool, false)] (fun d => T_spec_l3Val N d.1)

def T_spec_l3Val_ann : Nat → List Ghost
  | _ => []

def T_spec_l3Val_ctx (N : Nat) : Ctx := [(45, T_spec_l1In_sg N)]

theorem T_spec_l3Val_den (N : Nat) (v1 : Int) :
    den (R := ODen (T_spec_l3Val_sg N).ps × RDen (T_spec_l3Val_sg N).rs) tab (T_spec_l3Val_ctx N) T_spec_l3Val_ann N (T_spec_l3Val_sg N) Try.f52 (v1, ()) some =
    ((T_spec_l1In N v1 (0 : Int) (65535 : Int)).bind fun o2 =>
    (some ((), (o2.2.1, ())))) := by kernel_rfl

theorem T_spec_l3Val_ok (N : Nat) : chkBody Try.f52 (T_spec_l3Val_sg N).ps = true := by kernel_rfl

theorem T_spec_l3Val_callable : Callable Try.prog 52 := callable_of Try.func52 (show chkFn Try.f52 = true by kernel_rfl)

theorem T_spec_l3Val_good (N : Nat) : Good Try.prog 52 (T_spec_l3Val_sg N) :=
  good_body tabOk (ctx_cons (T_spec_l1In_good N) T_spec_l1In_callable ctx_nil) Try.func52 (T_spec_l3Val_ok N) (fun d _ h => ⟨N, (T_spec_l3Val_den N d.1).trans h⟩)

def T_spec_l25Ok_sg (N : Nat) : Sig := Sig.of [.v (.prod (.int .i64) (.prod (.int .i64) (.int .i64))) true] [(.bool, false)] (fun d => T_spec_l25Ok N d.1)

def T_spec_l25Ok_ann : Nat → List Ghost
  | _ => []

def T_spec_l25Ok_ctx (N : Nat) : Ctx := [(52, T_spec_l3Val_sg N)]

theorem T_spec_l25Ok_den (N : Nat) (t1 : Int × Int × Int) :
    den (R := ODen (T_spec_l25Ok_sg N).ps × RDen (T_spec_l25Ok_sg N).rs) tab (T_spec_l25Ok_ctx N) T_spec_l25Ok_ann N (T_spec_l25Ok_sg N) Try.f41 (t1, ()) some =
    ((T_spec_l3Val N t1.1).bind fun o2 =>
    (bif o2.2.1 then
      ((T_spec_l3Val N t1.2.1).bind fun o3 =>
        (bif o3.2.1 then
          ((T_spec_l3Val N t1.2.2).bind fun o4 =>
            (some ((), (o4.2.1, ()))))
          else
          (some ((), (false, ())))))
      else
      (some ((), (false, ()))))) := by kernel_rfl

theorem T_spec_l25Ok_ok (N : Nat) : chkBody Try.f41 (T_spec_l25Ok_sg N).ps = true := by kernel_rfl

theorem T_spec_l25Ok_callable : Callable Try.prog 41 := callable_of Try.func41 (show chkFn Try.f41 = true by kernel_rfl)

theorem T_spec_l25Ok_good (N : Nat) : Good Try.prog 41 (T_spec_l25Ok_sg N) :=
  good_body tabOk (ctx_cons (T_spec_l3Val_good N) T_spec_l3Val_callable ctx_nil) Try.func41 (T_spec_l25Ok_ok N) (fun d _ h => ⟨N, (T_spec_l25Ok_den N d.1).trans h⟩)

def T_spec_TriplesOk_sg (N : Nat) : Sig := Sig.of [.v (.slice (.prod (.int .i64) (.prod (.int .i64) (.int .i64)))) false] [(.bool, false)] (fun d => T_spec_TriplesOk N d.1)

def T_spec_TriplesOk_ann : Nat → List Ghost
  | 4 => [.canon [0, 3, 10]]
  | 5 => [.canon [0, 3]]
  | 6 => [.canon [0, 3, 18]]
  | 7 => [.canon [2]]
  | 100004 => [.canon [0, 3]]
  | _ => []

def T_spec_TriplesOk_ctx (N : Nat) : Ctx := [(41, T_spec_l25Ok_sg N)]

def T_spec_TriplesOk_lp0_sh (l2 : List (Int × Int × Int)) (i3 : Int) : St := { env := [(0, .s (.one (.val (.slice (.prod (.int .i64) (.prod (.int .i64) (.int .i64)))) (l2 : List (Int × Int × Int))))), (3, .s (.one (.val (.int .i64) (i3 : Int))))], objs := [], nx := 0 }

def T_spec_TriplesOk_lp0_e0 (l2 : List (Int × Int × Int)) : St := { env := [(2, .s (.one (.val (.bool) (false : Bool))))], objs := [], nx := 0 }

def T_spec_TriplesOk_lp0_e1 (l2 : List (Int × Int × Int)) (i5 : Int) (t6 : Bool) : St := { env := [(0, .s (.one (.val (.slice (.prod (.int .i64) (.prod (.int .i64) (.int .i64)))) (l2 : List (Int × Int × Int))))), (3, .s (.one (.val (.int .i64) (i5 : Int)))), (10, .s (.one (.val (.bool) (t6 : Bool))))], objs := [], nx := 0 }

noncomputable def T_spec_TriplesOk_lp0_m (N : Nat) {R : Type} (n : Nat) (st : St) (K : Ex → St → Option R) : Option R := loopN (roundG (T_spec_TriplesOk_ann 100004) fun st k => sx tab (T_spec_TriplesOk_ctx N) T_spec_TriplesOk_ann N (nthLoop Try.f17 0) st k) n st K

theorem T_spec_TriplesOk_lp0_step (N : Nat) {R : Type} (n : Nat) (K : Ex → St → Option R) (l2 : List (Int × Int × Int)) (i3 : Int) :
    T_spec_TriplesOk_lp0_m N (n + 1) (T_spec_TriplesOk_lp0_sh l2 i3) K =
    (bif decide (i3 < (ilen l2)) then
    (bif inb i3 (List.length l2) then
      ((T_spec_l25Ok N (List.getD l2 (Int.toNat i3) ((0 : Int), ((0 : Int), (0 : Int))))).bind fun o7 =>
        (bif !o7.2.1 then
          (K .ret (T_spec_TriplesOk_lp0_e0 l2))
          else
          (T_spec_TriplesOk_lp0_m N n (T_spec_TriplesOk_lp0_sh l2 (iadd .i64 i3 (1 : Int))) K))) else none)
    else
    (K (.exit 0) (T_spec_TriplesOk_lp0_e1 l2 i3 (decide (i3 < (ilen l2)))))) := by kernel_rfl

theorem T_spec_TriplesOk_lp0_eq (N : Nat) {R : Type} (l2 : List (Int × Int × Int)) (K : Ex → St → Option R) : ∀ (n : Nat) (i3 : Int), T_spec_TriplesOk_lp0_m N n (T_spec_TriplesOk_lp0_sh l2 i3) K = T_spec_TriplesOk_lp0 N l2 (K .ret (T_spec_TriplesOk_lp0_e0 l2)) (fun i5 t6 => (K (.exit 0) (T_spec_TriplesOk_lp0_e1 l2 i5 t6))) n i3
  | 0, _ => rfl
  | n + 1, i3 => by rw [T_spec_TriplesOk_lp0_step, T_spec_TriplesOk_lp0]; (try simp only [T_spec_TriplesOk_lp0_eq N l2 K n])

theorem T_spec_TriplesOk_c1 (N : Nat) (l1 : List (Int × Int × Int)) :
    ((ctxK tab (T_spec_TriplesOk_ctx N) T_spec_TriplesOk_ann N (theCode Try.f17) [1, 1, 0, 1, 0] (retK tab (T_spec_TriplesOk_sg N) Try.f17.results.toList some)) .ret (T_spec_TriplesOk_lp0_e0 l1)) =
    (some ((), (false, ()))) := by kernel_rfl

theorem T_spec_TriplesOk_c2 (N : Nat) (l1 : List (Int × Int × Int)) (i8 : Int) (t9 : Bool) :
    ((ctxK tab (T_spec_TriplesOk_ctx N) T_spec_TriplesOk_ann N (theCode Try.f17) [1, 1, 0, 1, 0] (retK tab (T_spec_TriplesOk_sg N) Try.f17.results.toList some)) (.exit 0) (T_spec_TriplesOk_lp0_e1 l1 i8 t9)) =
    (some ((), (true, ()))) := by kernel_rfl

theorem T_spec_TriplesOk_den (N : Nat) (l1 : List (Int × Int × Int)) :
    den (R := ODen (T_spec_TriplesOk_sg N).ps × RDen (T_spec_TriplesOk_sg N).rs) tab (T_spec_TriplesOk_ctx N) T_spec_TriplesOk_ann N (T_spec_TriplesOk_sg N) Try.f17 (l1, ()) some =
    (bif decide ((ilen l1) > (20 : Int)) then
    (some ((), (false, ())))
    else
    (T_spec_TriplesOk_lp0 N l1
      (some ((), (false, ())))
      (fun i8 t9 =>
        (some ((), (true, ()))))
       N (0 : Int))) := by
  have h : den (R := ODen (T_spec_TriplesOk_sg N).ps × RDen (T_spec_TriplesOk_sg N).rs) tab (T_spec_TriplesOk_ctx N) T_spec_TriplesOk_ann N (T_spec_TriplesOk_sg N) Try.f17 (l1, ()) some =
    (bif decide ((ilen l1) > (20 : Int)) then
    (some ((), (false, ())))
    else
    (T_spec_TriplesOk_lp0_m N N (T_spec_TriplesOk_lp0_sh l1 (0 : Int)) (ctxK tab (T_spec_TriplesOk_ctx N) T_spec_TriplesOk_ann N (theCode Try.f17) [1, 1, 0, 1, 0] (retK tab (T_spec_TriplesOk_sg N) Try.f17.results.toList some)))) := by kernel_rfl
  rw [h]
  (try simp only [T_spec_TriplesOk_lp0_eq, T_spec_TriplesOk_c1, T_spec_TriplesOk_c2]) <;> rfl

theorem T_spec_TriplesOk_ok (N : Nat) : chkBody Try.f17 (T_spec_TriplesOk_sg N).ps = true := by kernel_rfl

theorem T_spec_TriplesOk_callable : Callable Try.prog 17 := callable_of Try.func17 (show chkFn Try.f17 = true by kernel_rfl)

theorem T_spec_TriplesOk_good (N : Nat) : Good Try.prog 17 (T_spec_TriplesOk_sg N) :=
  good_body tabOk (ctx_cons (T_spec_l25Ok_good N) T_spec_l25Ok_callable ctx_nil) Try.func17 (T_spec_TriplesOk_ok N) (fun d _ h => ⟨N, (T_spec_TriplesOk_den N d.1).trans h⟩)

def T_laws_toTriple_sg (N : Nat) : Sig := Sig.of [.v (.prod (.int .i64) (.prod (.int .i64) (.int .i64))) true] [(.prod (.int .i64) (.prod (.int .i64) (.int .i64)), true)] (fun d => T_laws_toTriple N d.1)

def T_laws_toTriple_ann : Nat → List Ghost
  | _ => []

def T_laws_toTriple_ctx (N : Nat) : Ctx := []

theorem T_laws_toTriple_den (N : Nat) (a1 : Int × Int × Int) :
    den (R := ODen (T_laws_toTriple_sg N).ps × RDen (T_laws_toTriple_sg N).rs) tab (T_laws_toTriple_ctx N) T_laws_toTriple_ann N (T_laws_toTriple_sg N) Try.f25 (a1, ()) some =
    (some ((), (a1, ()))) := by kernel_rfl

theorem T_laws_toTriple_ok (N : Nat) : chkBody Try.f25 (T_laws_toTriple_sg N).ps = true := by kernel_rfl

theorem T_laws_toTriple_callable : Callable Try.prog 25 := callable_of Try.func25 (show chkFn Try.f25 = true by kernel_rfl)

theorem T_laws_toTriple_good (N : Nat) : Good Try.prog 25 (T_laws_toTriple_sg N) :=
  good_body tabOk ctx_nil Try.func25 (T_laws_toTriple_ok N) (fun d _ h => ⟨N, (T_laws_toTriple_den N d.1).trans h⟩)

def T_laws_toTripleS_sg (N : Nat) : Sig := Sig.of [.v (.slice (.prod (.int .i64) (.prod (.int .i64) (.int .i64)))) false] [(.own (.prod (.int .i64) (.prod (.int .i64) (.int .i64))), false)] (fun d => T_laws_toTripleS N d.1)

def T_laws_toTripleS_ann : Nat → List Ghost
  | 3 => [.canon [0, 3, 4, 11]]
  | 4 => [.canon [0, 3, 4]]
  | 5 => [.canon [0, 3, 4]]
  | 100003 => [.canon [0, 3, 4]]
  | _ => []

def T_laws_toTripleS_ctx (N : Nat) : Ctx := [(25, T_laws_toTriple_sg N)]

def T_laws_toTripleS_lp0_sh (a2 : List (Int × Int × Int)) (i3 : Int) (l4 : List (Int × Int × Int)) : St := { env := [(0, .s (.one (.val (.slice (.prod (.int .i64) (.prod (.int .i64) (.int .i64)))) (a2 : List (Int × Int × Int))))), (3, .s (.one (.own 0))), (4, .s (.one (.val (.int .i64) (i3 : Int))))], objs := [(0, .arr (.prod (.int .i64) (.prod (.int .i64) (.int .i64))) (l4 : List (Int × Int × Int)))], nx := 1 }

def T_laws_toTripleS_lp0_e0 (a2 : List (Int × Int × Int)) (i6 : Int) (t7 : Bool) (l8 : List (Int × Int × Int)) : St := { env := [(0, .s (.one (.val (.slice (.prod (.int .i64) (.prod (.int .i64) (.int .i64)))) (a2 : List (Int × Int × Int))))), (3, .s (.one (.own 0))), (4, .s (.one (.val (.int .i64) (i6 : Int)))), (11, .s (.one (.val (.bool) (t7 : Bool))))], objs := [(0, .arr (.prod (.int .i64) (.prod (.int .i64) (.int .i64))) (l8 : List (Int × Int × Int)))], nx := 1 }

noncomputable def T_laws_toTripleS_lp0_m (N : Nat) {R : Type} (n : Nat) (st : St) (K : Ex → St → Option R) : Option R := loopN (roundG (T_laws_toTripleS_ann 100003) fun st k => sx tab (T_laws_toTripleS_ctx N) T_laws_toTripleS_ann N (nthLoop Try.f18 0) st k) n st K

theorem T_laws_toTripleS_lp0_step (N : Nat) {R : Type} (n : Nat) (K : Ex → St → Option R) (a2 : List (Int × Int × Int)) (i3 : Int) (l4 : List (Int × Int × Int)) :
    T_laws_toTripleS_lp0_m N (n + 1) (T_laws_toTripleS_lp0_sh a2 i3 l4) K =
    (bif decide (i3 < (ilen a2)) then
    (bif inb i3 (List.length a2) then
      ((T_laws_toTriple N (List.getD a2 (Int.toNat i3) ((0 : Int), ((0 : Int), (0 : Int))))).bind fun o9 =>
        (bif inb i3 (List.length l4) then
          (T_laws_toTripleS_lp0_m N n (T_laws_toTripleS_lp0_sh a2 (iadd .i64 i3 (1 : Int)) (List.set l4 (Int.toNat i3) o9.2.1)) K) else none)) else none)
    else
    (K (.exit 0) (T_laws_toTripleS_lp0_e0 a2 i3 (decide (i3 < (ilen a2))) l4))) := by kernel_rfl

theorem T_laws_toTripleS_lp0_eq (N : Nat) {R : Type} (a2 : List (Int × Int × Int)) (K : Ex → St → Option R) : ∀ (n : Nat) (i3 : Int) (l4 : List (Int × Int × Int)), T_laws_toTripleS_lp0_m N n (T_laws_toTripleS_lp0_sh a2 i3 l4) K = T_laws_toTripleS_lp0 N a2 (fun i6 t7 l8 => (K (.exit 0) (T_laws_toTripleS_lp0_e0 a2 i6 t7 l8))) n i3 l4
  | 0, _, _ => rfl
  | n + 1, i3, l4 => by rw [T_laws_toTripleS_lp0_step, T_laws_toTripleS_lp0]; (try simp only [T_laws_toTripleS_lp0_eq N a2 K n])

theorem T_laws_toTripleS_c1 (N : Nat) (a1 : List (Int × Int × Int)) (i10 : Int) (t11 : Bool) (l12 : List (Int × Int × Int)) :
    ((ctxK tab (T_laws_toTripleS_ctx N) T_laws_toTripleS_ann N (theCode Try.f18) [1, 1, 0, 1, 0] (retK tab (T_laws_toTripleS_sg N) Try.f18.results.toList some)) (.exit 0) (T_laws_toTripleS_lp0_e0 a1 i10 t11 l12)) =
    (some ((), (l12, ()))) := by kernel_rfl

theorem T_laws_toTripleS_den (N : Nat) (a1 : List (Int × Int × Int)) :
    den (R := ODen (T_laws_toTripleS_sg N).ps × RDen (T_laws_toTripleS_sg N).rs) tab (T_laws_toTripleS_ctx N) T_laws_toTripleS_ann N (T_laws_toTripleS_sg N) Try.f18 (a1, ()) some =
    (bif ((decide ((0 : Int) ≤ (ilen a1))) && (decide ((ilen a1) ≤ (ilen a1)))) && (room (Int.toNat (ilen a1))) then
    (T_laws_toTripleS_lp0 N a1
      (fun i10 t11 l12 =>
        (some ((), (l12, ()))))
       N (0 : Int) (List.replicate (Int.toNat (ilen a1)) ((0 : Int), ((0 : Int), (0 : Int))))) else none) := by
  have h : den (R := ODen (T_laws_toTripleS_sg N).ps × RDen (T_laws_toTripleS_sg N).rs) tab (T_laws_toTripleS_ctx N) T_laws_toTripleS_ann N (T_laws_toTripleS_sg N) Try.f18 (a1, ()) some =
    (bif ((decide ((0 : Int) ≤ (ilen a1))) && (decide ((ilen a1) ≤ (ilen a1)))) && (room (Int.toNat (ilen a1))) then
    (T_laws_toTripleS_lp0_m N N (T_laws_toTripleS_lp0_sh a1 (0 : Int) (List.replicate (Int.toNat (ilen a1)) ((0 : Int), ((0 : Int), (0 : Int))))) (ctxK tab (T_laws_toTripleS_ctx N) T_laws_toTripleS_ann N (theCode Try.f18) [1, 1, 0, 1, 0] (retK tab (T_laws_toTripleS_sg N) Try.f18.results.toList some))) else none) := by kernel_rfl
  rw [h]
  (try simp only [T_laws_toTripleS_lp0_eq, T_laws_toTripleS_c1]) <;> rfl

theorem T_laws_toTripleS_ok (N : Nat) : chkBody Try.f18 (T_laws_toTripleS_sg N).ps = true := by kernel_rfl

theorem T_laws_toTripleS_callable : Callable Try.prog 18 := callable_of Try.func18 (show chkFn Try.f18 = true by kernel_rfl)

theorem T_laws_toTripleS_good (N : Nat) : Good Try.prog 18 (T_laws_toTripleS_sg N) :=
  good_body tabOk (ctx_cons (T_laws_toTriple_good N) T_laws_toTriple_callable ctx_nil) Try.func18 (T_laws_toTripleS_ok N) (fun d _ h => ⟨N, (T_laws_toTripleS_den N d.1).trans h⟩)

def T_impl_within_sg (N : Nat) : Sig := Sig.of [.v (.int .i64) false, .v (.int .i64) false, .v (.int .i64) false] [(.bool, false)] (fun d => T_impl_within N d.1 d.2.1 d.2.2.1)

def T_impl_within_ann : Nat → List Ghost
  | _ => []

def T_impl_within_ctx (N : Nat) : Ctx := []

theorem T_impl_within_den (N : Nat) (x1 : Int) (lo2 : Int) (hi3 : Int) :
    den (R := ODen (T_impl_within_sg N).ps × RDen (T_impl_within_sg N).rs) tab (T_impl_within_ctx N) T_impl_within_ann N (T_impl_within_sg N) Try.f46 (x1, lo2, hi3, ()) some =
    (bif decide (x1 ≥ lo2) then
    (some ((), (decide (x1 ≤ hi3), ())))
    else
    (some ((), (false, ())))) := by kernel_rfl

theorem T_impl_within_ok (N : Nat) : chkBody Try.f46 (T_impl_within_sg N).ps = true := by kernel_rfl

theorem T_impl_within_callable : Callable Try.prog 46 := callable_of Try.func46 (show chkFn Try.f46 = true by kernel_rfl)

theorem T_impl_within_good (N : Nat) : Good Try.prog 46 (T_impl_within_sg N) :=
  good_body tabOk ctx_nil Try.func46 (T_impl_within_ok N) (fun d _ h => ⟨N, (T_impl_within_den N d.1 d.2.1 d.2.2.1).trans h⟩)

def T_impl_isValue_sg (N : Nat) : Sig := Sig.of [.v (.int .i64) false] [(.bool, false)] (fun d => T_impl_isValue N d.1)

def T_impl_isValue_ann : Nat → List Ghost
  | _ => []

def T_impl_isValue_ctx (N : Nat) : Ctx := [(46, T_impl_within_sg N)]

theorem T_impl_isValue_den (N : Nat) (v1 : Int) :
    den (R := ODen (T_impl_isValue_sg N).ps × RDen (T_impl_isValue_sg N).rs) tab (T_impl_isValue_ctx N) T_impl_isValue_ann N (T_impl_isValue_sg N) Try.f53 (v1, ()) some =
    ((T_impl_within N v1 (0 : Int) (65535 : Int)).bind fun o2 =>
    (some ((), (o2.2.1, ())))) := by kernel_rfl

theorem T_impl_isValue_ok (N : Nat) : chkBody Try.f53 (T_impl_isValue_sg N).ps = true := by kernel_rfl

theorem T_impl_isValue_callable : Callable Try.prog 53 := callable_of Try.func53 (show chkFn Try.f53 = true by kernel_rfl)

theorem T_impl_isValue_good (N : Nat) : Good Try.prog 53 (T_impl_isValue_sg N) :=
  good_body tabOk (ctx_cons (T_impl_within_good N) T_impl_within_callable ctx_nil) Try.func53 (T_impl_isValue_ok N) (fun d _ h => ⟨N, (T_impl_isValue_den N d.1).trans h⟩)

def T_impl_isTriple_sg (N : Nat) : Sig := Sig.of [.v (.prod (.int .i64) (.prod (.int .i64) (.int .i64))) true] [(.bool, false)] (fun d => T_impl_isTriple N d.1)

def T_impl_isTriple_ann : Nat → List Ghost
  | _ => []

def T_impl_isTriple_ctx (N : Nat) : Ctx := [(53, T_impl_isValue_sg N)]

theorem T_impl_isTriple_den (N : Nat) (t1 : Int × Int × Int) :
    den (R := ODen (T_impl_isTriple_sg N).ps × RDen (T_impl_isTriple_sg N).rs) tab (T_impl_isTriple_ctx N) T_impl_isTriple_ann N (T_impl_isTriple_sg N) Try.f42 (t1, ()) some =
    ((T_impl_isValue N t1.1).bind fun o2 =>
    (bif o2.2.1 then
      ((T_impl_isValue N t1.2.1).bind fun o3 =>
        (bif o3.2.1 then
          ((T_impl_isValue N t1.2.2).bind fun o4 =>
            (some ((), (o4.2.1, ()))))
          else
          (some ((), (false, ())))))
      else
      (some ((), (false, ()))))) := by kernel_rfl

theorem T_impl_isTriple_ok (N : Nat) : chkBody Try.f42 (T_impl_isTriple_sg N).ps = true := by kernel_rfl

theorem T_impl_isTriple_callable : Callable Try.prog 42 := callable_of Try.func42 (show chkFn Try.f42 = true by kernel_rfl)

theorem T_impl_isTriple_good (N : Nat) : Good Try.prog 42 (T_impl_isTriple_sg N) :=
  good_body tabOk (ctx_cons (T_impl_isValue_good N) T_impl_isValue_callable ctx_nil) Try.func42 (T_impl_isTriple_ok N) (fun d _ h => ⟨N, (T_impl_isTriple_den N d.1).trans h⟩)

def T_impl_TriplesOk_sg (N : Nat) : Sig := Sig.of [.v (.slice (.prod (.int .i64) (.prod (.int .i64) (.int .i64)))) false] [(.bool, false)] (fun d => T_impl_TriplesOk N d.1)

def T_impl_TriplesOk_ann : Nat → List Ghost
  | 2 => [.canon [0, 5, 6, 7, 8]]
  | 3 => [.canon [0, 4, 5, 6, 7]]
  | 4 => [.canon [0, 5, 6, 7, 13]]
  | 5 => [.canon [2]]
  | 6 => [.canon [0, 5, 6, 7]]
  | 100002 => [.canon [0, 5, 6, 7]]
  | _ => []

def T_impl_TriplesOk_ctx (N : Nat) : Ctx := [(42, T_impl_isTriple_sg N)]

def T_impl_TriplesOk_lp0_sh (l2 : List (Int × Int × Int)) (t5 : Int) : St := { env := [(0, .s (.one (.val (.slice (.prod (.int .i64) (.prod (.int .i64) (.int .i64)))) (l2 : List (Int × Int × Int))))), (5, .s (.one (.val (.slice (.prod (.int .i64) (.prod (.int .i64) (.int .i64)))) (l2 : List (Int × Int × Int))))), (6, .s (.one (.val (.int .i64) (ilen l2 : Int)))), (7, .s (.one (.val (.int .i64) (t5 : Int))))], objs := [], nx := 0 }

def T_impl_TriplesOk_lp0_e0 (l2 : List (Int × Int × Int)) : St := { env := [(2, .s (.one (.val (.bool) (false : Bool))))], objs := [], nx := 0 }

def T_impl_TriplesOk_lp0_e1 (l2 : List (Int × Int × Int)) (t8 : Int) (t9 : Bool) : St := { env := [(0, .s (.one (.val (.slice (.prod (.int .i64) (.prod (.int .i64) (.int .i64)))) (l2 : List (Int × Int × Int))))), (5, .s (.one (.val (.slice (.prod (.int .i64) (.prod (.int .i64) (.int .i64)))) (l2 : List (Int × Int × Int))))), (6, .s (.one (.val (.int .i64) (ilen l2 : Int)))), (7, .s (.one (.val (.int .i64) (t8 : Int)))), (8, .s (.one (.val (.bool) (t9 : Bool))))], objs := [], nx := 0 }

noncomputable def T_impl_TriplesOk_lp0_m (N : Nat) {R : Type} (n : Nat) (st : St) (K : Ex → St → Option R) : Option R := loopN (roundG (T_impl_TriplesOk_ann 100002) fun st k => sx tab (T_impl_TriplesOk_ctx N) T_impl_TriplesOk_ann N (nthLoop Try.f19 0) st k) n st K

theorem T_impl_TriplesOk_lp0_step (N : Nat) {R : Type} (n : Nat) (K : Ex → St → Option R) (l2 : List (Int × Int × Int)) (t5 : Int) :
    T_impl_TriplesOk_lp0_m N (n + 1) (T_impl_TriplesOk_lp0_sh l2 t5) K =
    (bif decide (t5 < (ilen l2)) then
    (bif inb t5 (List.length l2) then
      ((T_impl_isTriple N (List.getD l2 (Int.toNat t5) ((0 : Int), ((0 : Int), (0 : Int))))).bind fun o10 =>
        (bif !o10.2.1 then
          (K .ret (T_impl_TriplesOk_lp0_e0 l2))
          else
          (T_impl_TriplesOk_lp0_m N n (T_impl_TriplesOk_lp0_sh l2 (iadd .i64 t5 (1 : Int))) K))) else none)
    else
    (K (.exit 0) (T_impl_TriplesOk_lp0_e1 l2 t5 (decide (t5 < (ilen l2)))))) := by kernel_rfl

theorem T_impl_TriplesOk_lp0_eq (N : Nat) {R : Type} (l2 : List (Int × Int × Int)) (K : Ex → St → Option R) : ∀ (n : Nat) (t5 : Int), T_impl_TriplesOk_lp0_m N n (T_impl_TriplesOk_lp0_sh l2 t5) K = T_impl_TriplesOk_lp0 N l2 (K .ret (T_impl_TriplesOk_lp0_e0 l2)) (fun t8 t9 => (K (.exit 0) (T_impl_TriplesOk_lp0_e1 l2 t8 t9))) n t5
  | 0, _ => rfl
  | n + 1, t5 => by rw [T_impl_TriplesOk_lp0_step, T_impl_TriplesOk_lp0]; (try simp only [T_impl_TriplesOk_lp0_eq N l2 K n])

theorem T_impl_TriplesOk_c1 (N : Nat) (l1 : List (Int × Int × Int)) :
    ((ctxK tab (T_impl_TriplesOk_ctx N) T_impl_TriplesOk_ann N (theCode Try.f19) [1, 0, 1, 0] (retK tab (T_impl_TriplesOk_sg N) Try.f19.results.toList some)) .ret (T_impl_TriplesOk_lp0_e0 l1)) =
    (some ((), (false, ()))) := by kernel_rfl

theorem T_impl_TriplesOk_c2 (N : Nat) (l1 : List (Int × Int × Int)) (t11 : Int) (t12 : Bool) :
    ((ctxK tab (T_impl_TriplesOk_ctx N) T_impl_TriplesOk_ann N (theCode Try.f19) [1, 0, 1, 0] (retK tab (T_impl_TriplesOk_sg N) Try.f19.results.toList some)) (.exit 0) (T_impl_TriplesOk_lp0_e1 l1 t11 t12)) =
    (some ((), (decide ((ilen l1) ≤ (20 : Int)), ()))) := by kernel_rfl

theorem T_impl_TriplesOk_den (N : Nat) (l1 : List (Int × Int × Int)) :
    den (R := ODen (T_impl_TriplesOk_sg N).ps × RDen (T_impl_TriplesOk_sg N).rs) tab (T_impl_TriplesOk_ctx N) T_impl_TriplesOk_ann N (T_impl_TriplesOk_sg N) Try.f19 (l1, ()) some =
    (T_impl_TriplesOk_lp0 N l1
    (some ((), (false, ())))
    (fun t11 t12 =>
      (some ((), (decide ((ilen l1) ≤ (20 : Int)), ()))))
     N (0 : Int)) := by
  have h : den (R := ODen (T_impl_TriplesOk_sg N).ps × RDen (T_impl_TriplesOk_sg N).rs) tab (T_impl_TriplesOk_ctx N) T_impl_TriplesOk_ann N (T_impl_TriplesOk_sg N) Try.f19 (l1, ()) some =
    (T_impl_TriplesOk_lp0_m N N (T_impl_TriplesOk_lp0_sh l1 (0 : Int)) (ctxK tab (T_impl_TriplesOk_ctx N) T_impl_TriplesOk_ann N (theCode Try.f19) [1, 0, 1, 0] (retK tab (T_impl_TriplesOk_sg N) Try.f19.results.toList some))) := by kernel_rfl
  rw [h]
  (try simp only [T_impl_TriplesOk_lp0_eq, T_impl_TriplesOk_c1, T_impl_TriplesOk_c2]) <;> rfl

theorem T_impl_TriplesOk_ok (N : Nat) : chkBody Try.f19 (T_impl_TriplesOk_sg N).ps = true := by kernel_rfl

theorem T_impl_TriplesOk_callable : Callable Try.prog 19 := callable_of Try.func19 (show chkFn Try.f19 = true by kernel_rfl)

theorem T_impl_TriplesOk_good (N : Nat) : Good Try.prog 19 (T_impl_TriplesOk_sg N) :=
  good_body tabOk (ctx_cons (T_impl_isTriple_good N) T_impl_isTriple_callable ctx_nil) Try.func19 (T_impl_TriplesOk_ok N) (fun d _ h => ⟨N, (T_impl_TriplesOk_den N d.1).trans h⟩)

def T_laws_eqTriple_sg (N : Nat) : Sig := Sig.of [.v (.prod (.int .i64) (.prod (.int .i64) (.int .i64))) true, .v (.prod (.int .i64) (.prod (.int .i64) (.int .i64))) true] [(.bool, false)] (fun d => T_laws_eqTriple N d.1 d.2.1)

def T_laws_eqTriple_ann : Nat → List Ghost
  | _ => []

def T_laws_eqTriple_ctx (N : Nat) : Ctx := []

theorem T_laws_eqTriple_den (N : Nat) (a1 : Int × Int × Int) (b2 : Int × Int × Int) :
    den (R := ODen (T_laws_eqTriple_sg N).ps × RDen (T_laws_eqTriple_sg N).rs) tab (T_laws_eqTriple_ctx N) T_laws_eqTriple_ann N (T_laws_eqTriple_sg N) Try.f27 (a1, b2, ()) some =
    (bif a1.1 != b2.1 then
    (some ((), (false, ())))
    else
    (bif a1.2.1 != b2.2.1 then
      (some ((), (false, ())))
      else
      (bif a1.2.2 != b2.2.2 then
        (some ((), (false, ())))
        else
        (some ((), (true, ())))))) := by kernel_rfl

theorem T_laws_eqTriple_ok (N : Nat) : chkBody Try.f27 (T_laws_eqTriple_sg N).ps = true := by kernel_rfl

theorem T_laws_eqTriple_callable : Callable Try.prog 27 := callable_of Try.func27 (show chkFn Try.f27 = true by kernel_rfl)

theorem T_laws_eqTriple_good (N : Nat) : Good Try.prog 27 (T_laws_eqTriple_sg N) :=
  good_body tabOk ctx_nil Try.func27 (T_laws_eqTriple_ok N) (fun d _ h => ⟨N, (T_laws_eqTriple_den N d.1 d.2.1).trans h⟩)

def T_laws_eqTripleS_sg (N : Nat) : Sig := Sig.of [.v (.slice (.prod (.int .i64) (.prod (.int .i64) (.int .i64)))) false, .v (.slice (.prod (.int .i64) (.prod (.int .i64) (.int .i64)))) false] [(.bool, false)] (fun d => T_laws_eqTripleS N d.1 d.2.1)

def T_laws_eqTripleS_ann : Nat → List Ghost
  | 4 => [.canon [0, 1, 5, 14]]
  | 5 => [.canon [0, 1, 5]]
  | 6 => [.canon [0, 1, 5, 26]]
  | 7 => [.canon [4]]
  | 100004 => [.canon [0, 1, 5]]
  | _ => []

def T_laws_eqTripleS_ctx (N : Nat) : Ctx := [(27, T_laws_eqTriple_sg N)]

def T_laws_eqTripleS_lp0_sh (a3 : List (Int × Int × Int)) (b4 : List (Int × Int × Int)) (i5 : Int) : St := { env := [(0, .s (.one (.val (.slice (.prod (.int .i64) (.prod (.int .i64) (.int .i64)))) (a3 : List (Int × Int × Int))))), (1, .s (.one (.val (.slice (.prod (.int .i64) (.prod (.int .i64) (.int .i64)))) (b4 : List (Int × Int × Int))))), (5, .s (.one (.val (.int .i64) (i5 : Int))))], objs := [], nx := 0 }

def T_laws_eqTripleS_lp0_e0 (a3 : List (Int × Int × Int)) (b4 : List (Int × Int × Int)) : St := { env := [(4, .s (.one (.val (.bool) (false : Bool))))], objs := [], nx := 0 }

def T_laws_eqTripleS_lp0_e1 (a3 : List (Int × Int × Int)) (b4 : List (Int × Int × Int)) (i7 : Int) (t8 : Bool) : St := { env := [(0, .s (.one (.val (.slice (.prod (.int .i64) (.prod (.int .i64) (.int .i64)))) (a3 : List (Int × Int × Int))))), (1, .s (.one (.val (.slice (.prod (.int .i64) (.prod (.int .i64) (.int .i64)))) (b4 : List (Int × Int × Int))))), (5, .s (.one (.val (.int .i64) (i7 : Int)))), (14, .s (.one (.val (.bool) (t8 : Bool))))], objs := [], nx := 0 }

noncomputable def T_laws_eqTripleS_lp0_m (N : Nat) {R : Type} (n : Nat) (st : St) (K : Ex → St → Option R) : Option R := loopN (roundG (T_laws_eqTripleS_ann 100004) fun st k => sx tab (T_laws_eqTripleS_ctx N) T_laws_eqTripleS_ann N (nthLoop Try.f20 0) st k) n st K

theorem T_laws_eqTripleS_lp0_step (N : Nat) {R : Type} (n : Nat) (K : Ex → St → Option R) (a3 : List (Int × Int × Int)) (b4 : List (Int × Int × Int)) (i5 : Int) :
    T_laws_eqTripleS_lp0_m N (n + 1) (T_laws_eqTripleS_lp0_sh a3 b4 i5) K =
    (bif decide (i5 < (ilen a3)) then
    (bif inb i5 (List.length a3) then
      (bif inb i5 (List.length b4) then
        ((T_laws_eqTriple N (List.getD a3 (Int.toNat i5) ((0 : Int), ((0 : Int), (0 : Int)))) (List.getD b4 (Int.toNat i5) ((0 : Int), ((0 : Int), (0 : Int))))).bind fun o9 =>
          (bif !o9.2.1 then
            (K .ret (T_laws_eqTripleS_lp0_e0 a3 b4))
            else
            (T_laws_eqTripleS_lp0_m N n (T_laws_eqTripleS_lp0_sh a3 b4 (iadd .i64 i5 (1 : Int))) K))) else none) else none)
    else
    (K (.exit 0) (T_laws_eqTripleS_lp0_e1 a3 b4 i5 (decide (i5 < (ilen a3)))))) := by kernel_rfl

theorem T_laws_eqTripleS_lp0_eq (N : Nat) {R : Type} (a3 : List (Int × Int × Int)) (b4 : List (Int × Int × Int)) (K : Ex → St → Option R) : ∀ (n : Nat) (i5 : Int), T_laws_eqTripleS_lp0_m N n (T_laws_eqTripleS_lp0_sh a3 b4 i5) K = T_laws_eqTripleS_lp0 N a3 b4 (K .ret (T_laws_eqTripleS_lp0_e0 a3 b4)) (fun i7 t8 => (K (.exit 0) (T_laws_eqTripleS_lp0_e1 a3 b4 i7 t8))) n i5
  | 0, _ => rfl
  | n + 1, i5 => by rw [T_laws_eqTripleS_lp0_step, T_laws_eqTripleS_lp0]; (try simp only [T_laws_eqTripleS_lp0_eq N a3 b4 K n])

theorem T_laws_eqTripleS_c1 (N : Nat) (a1 : List (Int × Int × Int)) (b2 : List (Int × Int × Int)) :
    ((ctxK tab (T_laws_eqTripleS_ctx N) T_laws_eqTripleS_ann N (theCode Try.f20) [1, 1, 0, 1, 0] (retK tab (T_laws_eqTripleS_sg N) Try.f20.results.toList some)) .ret (T_laws_eqTripleS_lp0_e0 a1 b2)) =
    (some ((), (false, ()))) := by kernel_rfl

theorem T_laws_eqTripleS_c2 (N : Nat) (a1 : List (Int × Int × Int)) (b2 : List (Int × Int × Int)) (i10 : Int) (t11 : Bool) :
    ((ctxK tab (T_laws_eqTripleS_ctx N) T_laws_eqTripleS_ann N (theCode Try.f20) [1, 1, 0, 1, 0] (retK tab (T_laws_eqTripleS_sg N) Try.f20.results.toList some)) (.exit 0) (T_laws_eqTripleS_lp0_e1 a1 b2 i10 t11)) =
    (some ((), (true, ()))) := by kernel_rfl

theorem T_laws_eqTripleS_den (N : Nat) (a1 : List (Int × Int × Int)) (b2 : List (Int × Int × Int)) :
    den (R := ODen (T_laws_eqTripleS_sg N).ps × RDen (T_laws_eqTripleS_sg N).rs) tab (T_laws_eqTripleS_ctx N) T_laws_eqTripleS_ann N (T_laws_eqTripleS_sg N) Try.f20 (a1, b2, ()) some =
    (bif (ilen a1) != (ilen b2) then
    (some ((), (false, ())))
    else
    (T_laws_eqTripleS_lp0 N a1 b2
      (some ((), (false, ())))
      (fun i10 t11 =>
        (some ((), (true, ()))))
       N (0 : Int))) := by
  have h : den (R := ODen (T_laws_eqTripleS_sg N).ps × RDen (T_laws_eqTripleS_sg N).rs) tab (T_laws_eqTripleS_ctx N) T_laws_eqTripleS_ann N (T_laws_eqTripleS_sg N) Try.f20 (a1, b2, ()) some =
    (bif (ilen a1) != (ilen b2) then
    (some ((), (false, ())))
    else
    (T_laws_eqTripleS_lp0_m N N (T_laws_eqTripleS_lp0_sh a1 b2 (0 : Int)) (ctxK tab (T_laws_eqTripleS_ctx N) T_laws_eqTripleS_ann N (theCode Try.f20) [1, 1, 0, 1, 0] (retK tab (T_laws_eqTripleS_sg N) Try.f20.results.toList some)))) := by kernel_rfl
  rw [h]
  (try simp only [T_laws_eqTripleS_lp0_eq, T_laws_eqTripleS_c1, T_laws_eqTripleS_c2]) <;> rfl

theorem T_laws_eqTripleS_ok (N : Nat) : chkBody Try.f20 (T_laws_eqTripleS_sg N).ps = true := by kernel_rfl

theorem T_laws_eqTripleS_callable : Callable Try.prog 20 := callable_of Try.func20 (show chkFn Try.f20 = true by kernel_rfl)

theorem T_laws_eqTripleS_good (N : Nat) : Good Try.prog 20 (T_laws_eqTripleS_sg N) :=
  good_body tabOk (ctx_cons (T_laws_eqTriple_good N) T_laws_eqTriple_callable ctx_nil) Try.func20 (T_laws_eqTripleS_ok N) (fun d _ h => ⟨N, (T_laws_eqTripleS_den N d.1 d.2.1).trans h⟩)

def T_laws_FnExactTriplesOk_sg (N : Nat) : Sig := Sig.of [.v (.slice (.prod (.int .i64) (.prod (.int .i64) (.int .i64)))) false] [(.bool, false)] (fun d => T_laws_FnExactTriplesOk N d.1)

def T_laws_FnExactTriplesOk_ann : Nat → List Ghost
  | _ => []

def T_laws_FnExactTriplesOk_ctx (N : Nat) : Ctx := [(16, T_laws_szTripleS_sg N), (18, T_laws_toTripleS_sg N), (17, T_spec_TriplesOk_sg N), (19, T_impl_TriplesOk_sg N), (20, T_laws_eqTripleS_sg N)]

theorem T_laws_FnExactTriplesOk_den (N : Nat) (aL1 : List (Int × Int × Int)) :
    den (R := ODen (T_laws_FnExactTriplesOk_sg N).ps × RDen (T_laws_FnExactTriplesOk_sg N).rs) tab (T_laws_FnExactTriplesOk_ctx N) T_laws_FnExactTriplesOk_ann N (T_laws_FnExactTriplesOk_sg N) Try.f5 (aL1, ()) some =
    ((T_laws_szTripleS N aL1 (1048576 : Int)).bind fun o2 =>
    (bif decide (o2.2.1 < (0 : Int)) then
      (some ((), (true, ())))
      else
      ((T_laws_toTripleS N aL1).bind fun o3 =>
        ((T_spec_TriplesOk N o3.2.1).bind fun o4 =>
          ((T_laws_toTripleS N aL1).bind fun o5 =>
            ((T_impl_TriplesOk N o5.2.1).bind fun o6 =>
              (bif !(beq o6.2.1 o4.2.1) then
                (some ((), (false, ())))
                else
                ((T_laws_toTripleS N aL1).bind fun o7 =>
                  ((T_laws_eqTripleS N o5.2.1 o7.2.1).bind fun o8 =>
                    (bif !o8.2.1 then
                      (some ((), (false, ())))
                      else
                      (some ((), (true, ()))))))))))))) := by kernel_rfl

theorem T_laws_FnExactTriplesOk_ok (N : Nat) : chkBody Try.f5 (T_laws_FnExactTriplesOk_sg N).ps = true := by kernel_rfl

theorem T_laws_FnExactTriplesOk_callable : Callable Try.prog 5 := callable_of Try.func5 (show chkFn Try.f5 = true by kernel_rfl)

theorem T_laws_FnExactTriplesOk_good (N : Nat) : Good Try.prog 5 (T_laws_FnExactTriplesOk_sg N) :=
  good_body tabOk (ctx_cons (T_laws_szTripleS_good N) T_laws_szTripleS_callable (ctx_cons (T_laws_toTripleS_good N) T_laws_toTripleS_callable (ctx_cons (T_spec_TriplesOk_good N) T_spec_TriplesOk_callable (ctx_cons (T_impl_TriplesOk_good N) T_impl_TriplesOk_callable (ctx_cons (T_laws_eqTripleS_good N) T_laws_eqTripleS_callable ctx_nil))))) Try.func5 (T_laws_FnExactTriplesOk_ok N) (fun d _ h => ⟨N, (T_laws_FnExactTriplesOk_den N d.1).trans h⟩)

end Go.Sx
