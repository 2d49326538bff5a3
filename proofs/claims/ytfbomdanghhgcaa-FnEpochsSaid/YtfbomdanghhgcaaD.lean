/- Each Go function does what its Lean function says. -/
import Derived.Test.YtfbomdanghhgcaaT
import Derived.Test.YtfbomdanghhgcaaProg
namespace Go.Sx
open Go.Proofs
set_option linter.unusedVariables false
set_option linter.unusedSimpArgs false

def tab : Tab := [(3, ⟨.int .i64, false, .basic⟩), (4, ⟨.bool, false, .basic⟩), (5, ⟨.int .u8, false, .basic⟩), (22, ⟨.slice (.int .u8), false, .slice 5⟩), (24, ⟨.slice (.prod (.int .i64) (.prod (.int .i64) (.int .i64))), false, .slice 86⟩), (26, ⟨.slice (.int .i64), false, .slice 3⟩), (27, ⟨.slice (.bool), false, .slice 4⟩), (28, ⟨.slice (.prod (.int .i64) (.int .i64)), false, .slice 92⟩), (29, ⟨.slice (.prod (.int .i64) (.int .i64)), false, .slice 89⟩), (31, ⟨.prod (.int .i64) (.prod (.slice (.int .i64)) (.prod (.slice (.bool)) (.prod (.slice (.prod (.int .i64) (.int .i64))) (.prod (.slice (.prod (.int .i64) (.int .i64))) (.slice (.int .i64)))))), true, .struct [(0, 3), (1, 26), (2, 27), (3, 28), (4, 29), (5, 26)]⟩), (86, ⟨.prod (.int .i64) (.prod (.int .i64) (.int .i64)), true, .struct [(0, 3), (1, 3), (2, 3)]⟩), (89, ⟨.prod (.int .i64) (.int .i64), true, .struct [(0, 3), (1, 3)]⟩), (92, ⟨.prod (.int .i64) (.int .i64), true, .struct [(0, 3), (1, 3)]⟩), (96, ⟨.int .i64, true, .arr 10 3⟩), (155, ⟨.prod (.slice (.int .u8)) (.prod (.int .i64) (.int .i64)), true, .struct [(0, 22), (1, 3), (2, 3)]⟩)]

theorem mixedOk : Try.prog.follows .mixedOrders = true := by kernel_rfl

theorem tabOk : TabOk Try.prog tab := tab_ok (show chkTab Try.prog tab tab = true by kernel_rfl)

noncomputable def T_laws_big_sg (N : Nat) : Sig := Sig.of [.v (.slice (.int .u8)) false] [.v (.bool) false] (fun d => T_laws_big N d.1)

def T_laws_big_ann : Nat → List Ghost
  | _ => []

noncomputable def T_laws_big_ctx (N : Nat) : Ctx := []

theorem T_laws_big_den (N : Nat) (code1 : List Int) :
    den (R := ODen (T_laws_big_sg N).ps × RDen (T_laws_big_sg N).rs) tab (T_laws_big_ctx N) T_laws_big_ann N (T_laws_big_sg N) Try.f9 (code1, ()) some =
    (some (α := ODen (T_laws_big_sg N).ps × RDen (T_laws_big_sg N).rs) ((), (decide ((ilen code1) > (1048576 : Int)), ()))) := by kernel_rfl

theorem T_laws_big_ok (N : Nat) : chkBody Try.f9 (T_laws_big_sg N).ps = true := by kernel_rfl

theorem T_laws_big_callable : Callable Try.prog 9 := callable_of Try.func9 (show chkFn Try.f9 = true by kernel_rfl)

theorem T_laws_big_good (N : Nat) : Good Try.prog 9 (T_laws_big_sg N) :=
  good_body mixedOk tabOk ctx_nil Try.func9 (T_laws_big_ok N) (fun d _ h => ⟨N, (T_laws_big_den N d.1).trans h⟩)

noncomputable def T_spec_l1New_sg (N : Nat) : Sig := Sig.of [.v (.slice (.int .u8)) false] [.box (.prod (.slice (.int .u8)) (.prod (.int .i64) (.int .i64)))] (fun d => T_spec_l1New N d.1)

def T_spec_l1New_ann : Nat → List Ghost
  | 3 => [.canon [0, 3, 4, 15]]
  | 4 => [.canon [0, 3, 4]]
  | 5 => [.canon [0, 3, 4]]
  | 100003 => [.canon [0, 3, 4]]
  | _ => []

noncomputable def T_spec_l1New_ctx (N : Nat) : Ctx := []

def T_spec_l1New_lp0_sh (code2 : List Int) (h3 : Int) (i4 : Int) : St := { env := [(0, .s (.one (.val (.slice (.int .u8)) (code2 : List Int)))), (3, .s (.one (.val (.int .i64) (h3 : Int)))), (4, .s (.one (.val (.int .i64) (i4 : Int))))], objs := [], nx := 0 }

def T_spec_l1New_lp0_e0 (code2 : List Int) (h5 : Int) (i6 : Int) (t7 : Bool) : St := { env := [(0, .s (.one (.val (.slice (.int .u8)) (code2 : List Int)))), (3, .s (.one (.val (.int .i64) (h5 : Int)))), (4, .s (.one (.val (.int .i64) (i6 : Int)))), (15, .s (.one (.val (.bool) (t7 : Bool))))], objs := [], nx := 0 }

noncomputable def T_spec_l1New_lp0_m (N : Nat) {R : Type} (n : Nat) (st : St) (K : Ex → St → Option R) : Option R := loopN (roundG (T_spec_l1New_ann 100003) fun st k => sx tab (T_spec_l1New_ctx N) T_spec_l1New_ann N (nthLoop Try.f53 0) st k) n st K

theorem T_spec_l1New_lp0_step (N : Nat) {R : Type} (n : Nat) (K : Ex → St → Option R) (code2 : List Int) (h3 : Int) (i4 : Int) :
    T_spec_l1New_lp0_m N (n + 1) (T_spec_l1New_lp0_sh code2 h3 i4) K =
    (bif decide (i4 < (ilen code2)) then
    (bif decide (i4 < (4000 : Int)) then
      (bif inb i4 (List.length code2) then
        (T_spec_l1New_lp0_m N n (T_spec_l1New_lp0_sh code2 (iand .i64 (iadd .i64 (iadd .i64 (imul .i64 h3 (131 : Int)) (IntKind.wrap .i64 (List.getD code2 (Int.toNat i4) (0 : Int)))) (7 : Int)) (1073741823 : Int)) (iadd .i64 i4 (1 : Int))) K) else none)
      else
      (K (.exit 0) (T_spec_l1New_lp0_e0 code2 h3 i4 (decide (i4 < (4000 : Int))))))
    else
    (K (.exit 0) (T_spec_l1New_lp0_e0 code2 h3 i4 false))) := by kernel_rfl

theorem T_spec_l1New_lp0_eq (N : Nat) {R : Type} (code2 : List Int) (K : Ex → St → Option R) : ∀ (n : Nat) (h3 : Int) (i4 : Int), T_spec_l1New_lp0_m N n (T_spec_l1New_lp0_sh code2 h3 i4) K = T_spec_l1New_lp0 N code2 (fun h5 i6 t7 => (K (.exit 0) (T_spec_l1New_lp0_e0 code2 h5 i6 t7))) n h3 i4
  | 0, _, _ => rfl
  | n + 1, h3, i4 => by rw [T_spec_l1New_lp0_step, T_spec_l1New_lp0]; (try simp only [T_spec_l1New_lp0_eq N code2 K n])

theorem T_spec_l1New_c1 (N : Nat) (code1 : List Int) (h8 : Int) (i9 : Int) (t10 : Bool) :
    ((ctxK (R := ODen (T_spec_l1New_sg N).ps × RDen (T_spec_l1New_sg N).rs) tab (T_spec_l1New_ctx N) T_spec_l1New_ann N (theCode Try.f53) [1, 1, 0, 1, 0] (retK tab (T_spec_l1New_sg N) Try.f53.results.toList some)) (.exit 0) (T_spec_l1New_lp0_e0 code1 h8 i9 t10)) =
    (some (α := ODen (T_spec_l1New_sg N).ps × RDen (T_spec_l1New_sg N).rs) ((), ((code1, ((0 : Int), h8)), ()))) := by kernel_rfl

theorem T_spec_l1New_den (N : Nat) (code1 : List Int) :
    den (R := ODen (T_spec_l1New_sg N).ps × RDen (T_spec_l1New_sg N).rs) tab (T_spec_l1New_ctx N) T_spec_l1New_ann N (T_spec_l1New_sg N) Try.f53 (code1, ()) some =
    (T_spec_l1New_lp0 N code1
    (fun h8 i9 t10 =>
      (some (α := ODen (T_spec_l1New_sg N).ps × RDen (T_spec_l1New_sg N).rs) ((), ((code1, ((0 : Int), h8)), ()))))
     N (iadd .i64 (10101 : Int) (ilen code1)) (0 : Int)) := by
  have h : den (R := ODen (T_spec_l1New_sg N).ps × RDen (T_spec_l1New_sg N).rs) tab (T_spec_l1New_ctx N) T_spec_l1New_ann N (T_spec_l1New_sg N) Try.f53 (code1, ()) some =
    (T_spec_l1New_lp0_m N N (T_spec_l1New_lp0_sh code1 (iadd .i64 (10101 : Int) (ilen code1)) (0 : Int)) (ctxK (R := ODen (T_spec_l1New_sg N).ps × RDen (T_spec_l1New_sg N).rs) tab (T_spec_l1New_ctx N) T_spec_l1New_ann N (theCode Try.f53) [1, 1, 0, 1, 0] (retK tab (T_spec_l1New_sg N) Try.f53.results.toList some))) := by kernel_rfl
  rw [h]
  (try simp only [T_spec_l1New_lp0_eq, T_spec_l1New_c1]) <;> rfl

theorem T_spec_l1New_ok (N : Nat) : chkBody Try.f53 (T_spec_l1New_sg N).ps = true := by kernel_rfl

theorem T_spec_l1New_callable : Callable Try.prog 53 := callable_of Try.func53 (show chkFn Try.f53 = true by kernel_rfl)

theorem T_spec_l1New_good (N : Nat) : Good Try.prog 53 (T_spec_l1New_sg N) :=
  good_body mixedOk tabOk ctx_nil Try.func53 (T_spec_l1New_ok N) (fun d _ h => ⟨N, (T_spec_l1New_den N d.1).trans h⟩)

noncomputable def T_spec_l1Byte_sg (N : Nat) : Sig := Sig.of [.box (.prod (.slice (.int .u8)) (.prod (.int .i64) (.int .i64)))] [.v (.int .i64) false] (fun d => T_spec_l1Byte N d.1)

def T_spec_l1Byte_ann : Nat → List Ghost
  | _ => []

noncomputable def T_spec_l1Byte_ctx (N : Nat) : Ctx := []

theorem T_spec_l1Byte_den (N : Nat) (c1 : List Int × Int × Int) :
    den (R := ODen (T_spec_l1Byte_sg N).ps × RDen (T_spec_l1Byte_sg N).rs) tab (T_spec_l1Byte_ctx N) T_spec_l1Byte_ann N (T_spec_l1Byte_sg N) Try.f142 (c1, ()) some =
    (bif inn (33 : Int) then
    (bif inn (45 : Int) then
      (bif decide (c1.2.1 < (ilen c1.1)) then
        (bif inb c1.2.1 (List.length c1.1) then
          (some (α := ODen (T_spec_l1Byte_sg N).ps × RDen (T_spec_l1Byte_sg N).rs) (((c1.1, (iadd .i64 c1.2.1 (1 : Int), iadd .i64 (imul .i64 c1.2.2 (6364136223846793005 : Int)) (1442695040888963407 : Int))), ()), (iand .i64 (iadd .i64 (iand .i64 (ixor .i64 (ishr .i64 (iadd .i64 (imul .i64 c1.2.2 (6364136223846793005 : Int)) (1442695040888963407 : Int)) (33 : Int)) (ishr .i64 (iadd .i64 (imul .i64 c1.2.2 (6364136223846793005 : Int)) (1442695040888963407 : Int)) (45 : Int))) (255 : Int)) (IntKind.wrap .i64 (List.getD c1.1 (Int.toNat c1.2.1) (0 : Int)))) (255 : Int), ()))) else none)
        else
        (some (α := ODen (T_spec_l1Byte_sg N).ps × RDen (T_spec_l1Byte_sg N).rs) (((c1.1, (c1.2.1, iadd .i64 (imul .i64 c1.2.2 (6364136223846793005 : Int)) (1442695040888963407 : Int))), ()), (iand .i64 (ixor .i64 (ishr .i64 (iadd .i64 (imul .i64 c1.2.2 (6364136223846793005 : Int)) (1442695040888963407 : Int)) (33 : Int)) (ishr .i64 (iadd .i64 (imul .i64 c1.2.2 (6364136223846793005 : Int)) (1442695040888963407 : Int)) (45 : Int))) (255 : Int), ())))) else none) else none) := by kernel_rfl

theorem T_spec_l1Byte_ok (N : Nat) : chkBody Try.f142 (T_spec_l1Byte_sg N).ps = true := by kernel_rfl

theorem T_spec_l1Byte_callable : Callable Try.prog 142 := callable_of Try.func142 (show chkFn Try.f142 = true by kernel_rfl)

theorem T_spec_l1Byte_good (N : Nat) : Good Try.prog 142 (T_spec_l1Byte_sg N) :=
  good_body mixedOk tabOk ctx_nil Try.func142 (T_spec_l1Byte_ok N) (fun d _ h => ⟨N, (T_spec_l1Byte_den N d.1).trans h⟩)

noncomputable def T_spec_l1Below_sg (N : Nat) : Sig := Sig.of [.box (.prod (.slice (.int .u8)) (.prod (.int .i64) (.int .i64))), .v (.int .i64) false] [.v (.int .i64) false] (fun d => T_spec_l1Below N d.1 d.2.1)

def T_spec_l1Below_ann : Nat → List Ghost
  | _ => []

noncomputable def T_spec_l1Below_ctx (N : Nat) : Ctx := [(142, T_spec_l1Byte_sg N)]

theorem T_spec_l1Below_den (N : Nat) (c1 : List Int × Int × Int) (n2 : Int) :
    den (R := ODen (T_spec_l1Below_sg N).ps × RDen (T_spec_l1Below_sg N).rs) tab (T_spec_l1Below_ctx N) T_spec_l1Below_ann N (T_spec_l1Below_sg N) Try.f90 (c1, n2, ()) some =
    (bif decide (n2 ≤ (0 : Int)) then
    (some (α := ODen (T_spec_l1Below_sg N).ps × RDen (T_spec_l1Below_sg N).rs) ((c1, ()), ((0 : Int), ())))
    else
    (bif decide (n2 ≤ (256 : Int)) then
      ((T_spec_l1Byte N c1).bind fun o3 =>
        (bif inz n2 then
          (some (α := ODen (T_spec_l1Below_sg N).ps × RDen (T_spec_l1Below_sg N).rs) ((o3.1.1, ()), (irem o3.2.1 n2, ()))) else none))
      else
      ((T_spec_l1Byte N c1).bind fun o4 =>
        ((T_spec_l1Byte N o4.1.1).bind fun o5 =>
          ((T_spec_l1Byte N o5.1.1).bind fun o6 =>
            ((T_spec_l1Byte N o6.1.1).bind fun o7 =>
              (bif inz n2 then
                (some (α := ODen (T_spec_l1Below_sg N).ps × RDen (T_spec_l1Below_sg N).rs) ((o7.1.1, ()), (irem (iadd .i64 (iadd .i64 (iadd .i64 (imul .i64 o4.2.1 (16777216 : Int)) (imul .i64 o5.2.1 (65536 : Int))) (imul .i64 o6.2.1 (256 : Int))) o7.2.1) n2, ()))) else none))))))) := by kernel_rfl

theorem T_spec_l1Below_ok (N : Nat) : chkBody Try.f90 (T_spec_l1Below_sg N).ps = true := by kernel_rfl

theorem T_spec_l1Below_callable : Callable Try.prog 90 := callable_of Try.func90 (show chkFn Try.f90 = true by kernel_rfl)

theorem T_spec_l1Below_good (N : Nat) : Good Try.prog 90 (T_spec_l1Below_sg N) :=
  good_body mixedOk tabOk (ctx_cons (T_spec_l1Byte_good N) T_spec_l1Byte_callable ctx_nil) Try.func90 (T_spec_l1Below_ok N) (fun d _ h => ⟨N, (T_spec_l1Below_den N d.1 d.2.1).trans h⟩)

noncomputable def T_spec_l26Acts_sg (N : Nat) : Sig := Sig.of [.box (.prod (.slice (.int .u8)) (.prod (.int .i64) (.int .i64))), .v (.int .i64) false] [.v (.own (.prod (.int .i64) (.prod (.int .i64) (.int .i64)))) false] (fun d => T_spec_l26Acts N d.1 d.2.1)

def T_spec_l26Acts_ann : Nat → List Ghost
  | 3 => [.canon [0, 5, 6, 13]]
  | 4 => [.canon [0, 5, 6]]
  | 5 => [.canon [0, 5, 6]]
  | 100003 => [.canon [0, 5, 6]]
  | _ => []

noncomputable def T_spec_l26Acts_ctx (N : Nat) : Ctx := [(90, T_spec_l1Below_sg N)]

def T_spec_l26Acts_lp0_sh (n4 : Int) (b5 : List Int × Int × Int) (l6 : List (Int × Int × Int)) : St := { env := [(0, .s (.one (.ptr 0 0))), (5, .s (.one (.own 1))), (6, .s (.one (.val (.int .i64) (n4 : Int))))], objs := [(0, .box [.val (.slice (.int .u8)) (b5.1 : List Int), .val (.int .i64) (b5.2.1 : Int), .val (.int .i64) (b5.2.2 : Int)]), (1, .arr (.prod (.int .i64) (.prod (.int .i64) (.int .i64))) (l6 : List (Int × Int × Int)))], nx := 2 }

def T_spec_l26Acts_lp0_e0 (n10 : Int) (t11 : Bool) (b12 : List Int × Int × Int) (l13 : List (Int × Int × Int)) : St := { env := [(0, .s (.one (.ptr 0 0))), (5, .s (.one (.own 1))), (6, .s (.one (.val (.int .i64) (n10 : Int)))), (13, .s (.one (.val (.bool) (t11 : Bool))))], objs := [(0, .box [.val (.slice (.int .u8)) (b12.1 : List Int), .val (.int .i64) (b12.2.1 : Int), .val (.int .i64) (b12.2.2 : Int)]), (1, .arr (.prod (.int .i64) (.prod (.int .i64) (.int .i64))) (l13 : List (Int × Int × Int)))], nx := 2 }

noncomputable def T_spec_l26Acts_lp0_m (N : Nat) {R : Type} (n : Nat) (st : St) (K : Ex → St → Option R) : Option R := loopN (roundG (T_spec_l26Acts_ann 100003) fun st k => sx tab (T_spec_l26Acts_ctx N) T_spec_l26Acts_ann N (nthLoop Try.f115 0) st k) n st K

theorem T_spec_l26Acts_lp0_step (N : Nat) {R : Type} (n : Nat) (K : Ex → St → Option R) (n4 : Int) (b5 : List Int × Int × Int) (l6 : List (Int × Int × Int)) :
    T_spec_l26Acts_lp0_m N (n + 1) (T_spec_l26Acts_lp0_sh n4 b5 l6) K =
    (bif decide (n4 > (0 : Int)) then
    ((T_spec_l1Below N b5 (5 : Int)).bind fun o14 =>
      ((T_spec_l1Below N o14.1.1 (3 : Int)).bind fun o15 =>
        ((T_spec_l1Below N o15.1.1 (10 : Int)).bind fun o16 =>
          (bif room ((List.length l6) + (List.length ([(iadd .i64 (1 : Int) o14.2.1, (o15.2.1, o16.2.1))]))) then
            (T_spec_l26Acts_lp0_m N n (T_spec_l26Acts_lp0_sh (isub .i64 n4 (1 : Int)) o16.1.1 (List.append l6 ([(iadd .i64 (1 : Int) o14.2.1, (o15.2.1, o16.2.1))]))) K) else none))))
    else
    (K (.exit 0) (T_spec_l26Acts_lp0_e0 n4 (decide (n4 > (0 : Int))) b5 l6))) := by kernel_rfl

theorem T_spec_l26Acts_lp0_eq (N : Nat) {R : Type} (K : Ex → St → Option R) : ∀ (n : Nat) (n4 : Int) (b5 : List Int × Int × Int) (l6 : List (Int × Int × Int)), T_spec_l26Acts_lp0_m N n (T_spec_l26Acts_lp0_sh n4 b5 l6) K = T_spec_l26Acts_lp0 N (fun n10 t11 b12 l13 => (K (.exit 0) (T_spec_l26Acts_lp0_e0 n10 t11 b12 l13))) n n4 b5 l6
  | 0, _, _, _ => rfl
  | n + 1, n4, b5, l6 => by rw [T_spec_l26Acts_lp0_step, T_spec_l26Acts_lp0]; (try simp only [T_spec_l26Acts_lp0_eq N K n])

theorem T_spec_l26Acts_c1 (N : Nat) (n17 : Int) (t18 : Bool) (b19 : List Int × Int × Int) (l20 : List (Int × Int × Int)) :
    ((ctxK (R := ODen (T_spec_l26Acts_sg N).ps × RDen (T_spec_l26Acts_sg N).rs) tab (T_spec_l26Acts_ctx N) T_spec_l26Acts_ann N (theCode Try.f115) [1, 1, 0, 1, 0] (retK tab (T_spec_l26Acts_sg N) Try.f115.results.toList some)) (.exit 0) (T_spec_l26Acts_lp0_e0 n17 t18 b19 l20)) =
    (some (α := ODen (T_spec_l26Acts_sg N).ps × RDen (T_spec_l26Acts_sg N).rs) ((b19, ()), (l20, ()))) := by kernel_rfl

theorem T_spec_l26Acts_den (N : Nat) (c1 : List Int × Int × Int) (most2 : Int) :
    den (R := ODen (T_spec_l26Acts_sg N).ps × RDen (T_spec_l26Acts_sg N).rs) tab (T_spec_l26Acts_ctx N) T_spec_l26Acts_ann N (T_spec_l26Acts_sg N) Try.f115 (c1, most2, ()) some =
    ((T_spec_l1Below N c1 (iadd .i64 most2 (1 : Int))).bind fun o3 =>
    (T_spec_l26Acts_lp0 N
      (fun n17 t18 b19 l20 =>
        (some (α := ODen (T_spec_l26Acts_sg N).ps × RDen (T_spec_l26Acts_sg N).rs) ((b19, ()), (l20, ()))))
       N o3.2.1 o3.1.1 ([] : List (Int × Int × Int)))) := by
  have h : den (R := ODen (T_spec_l26Acts_sg N).ps × RDen (T_spec_l26Acts_sg N).rs) tab (T_spec_l26Acts_ctx N) T_spec_l26Acts_ann N (T_spec_l26Acts_sg N) Try.f115 (c1, most2, ()) some =
    ((T_spec_l1Below N c1 (iadd .i64 most2 (1 : Int))).bind fun o3 =>
    (T_spec_l26Acts_lp0_m N N (T_spec_l26Acts_lp0_sh o3.2.1 o3.1.1 ([] : List (Int × Int × Int))) (ctxK (R := ODen (T_spec_l26Acts_sg N).ps × RDen (T_spec_l26Acts_sg N).rs) tab (T_spec_l26Acts_ctx N) T_spec_l26Acts_ann N (theCode Try.f115) [1, 1, 0, 1, 0] (retK tab (T_spec_l26Acts_sg N) Try.f115.results.toList some)))) := by kernel_rfl
  rw [h]
  (try simp only [T_spec_l26Acts_lp0_eq, T_spec_l26Acts_c1]) <;> rfl

theorem T_spec_l26Acts_ok (N : Nat) : chkBody Try.f115 (T_spec_l26Acts_sg N).ps = true := by kernel_rfl

theorem T_spec_l26Acts_callable : Callable Try.prog 115 := callable_of Try.func115 (show chkFn Try.f115 = true by kernel_rfl)

theorem T_spec_l26Acts_good (N : Nat) : Good Try.prog 115 (T_spec_l26Acts_sg N) :=
  good_body mixedOk tabOk (ctx_cons (T_spec_l1Below_good N) T_spec_l1Below_callable ctx_nil) Try.func115 (T_spec_l26Acts_ok N) (fun d _ h => ⟨N, (T_spec_l26Acts_den N d.1 d.2.1).trans h⟩)

noncomputable def T_spec_l26Any_sg (N : Nat) : Sig := Sig.of [.box (.prod (.slice (.int .u8)) (.prod (.int .i64) (.int .i64)))] [.v (.own (.prod (.int .i64) (.prod (.int .i64) (.int .i64)))) false] (fun d => T_spec_l26Any N d.1)

def T_spec_l26Any_ann : Nat → List Ghost
  | 6 => [.canon [0, 3, 24]]
  | 7 => [.canon [0, 3]]
  | 100006 => [.canon [0, 3]]
  | _ => []

noncomputable def T_spec_l26Any_ctx (N : Nat) : Ctx := [(115, T_spec_l26Acts_sg N), (90, T_spec_l1Below_sg N)]

def T_spec_l26Any_lp0_sh (b4 : List Int × Int × Int) (l5 : List (Int × Int × Int)) : St := { env := [(0, .s (.one (.ptr 0 0))), (3, .s (.one (.own 1)))], objs := [(0, .box [.val (.slice (.int .u8)) (b4.1 : List Int), .val (.int .i64) (b4.2.1 : Int), .val (.int .i64) (b4.2.2 : Int)]), (1, .arr (.prod (.int .i64) (.prod (.int .i64) (.int .i64))) (l5 : List (Int × Int × Int)))], nx := 2 }

def T_spec_l26Any_lp0_e0 (t7 : Bool) (b8 : List Int × Int × Int) (l9 : List (Int × Int × Int)) : St := { env := [(0, .s (.one (.ptr 0 0))), (3, .s (.one (.own 1))), (24, .s (.one (.val (.bool) (t7 : Bool))))], objs := [(0, .box [.val (.slice (.int .u8)) (b8.1 : List Int), .val (.int .i64) (b8.2.1 : Int), .val (.int .i64) (b8.2.2 : Int)]), (1, .arr (.prod (.int .i64) (.prod (.int .i64) (.int .i64))) (l9 : List (Int × Int × Int)))], nx := 2 }

noncomputable def T_spec_l26Any_lp0_m (N : Nat) {R : Type} (n : Nat) (st : St) (K : Ex → St → Option R) : Option R := loopN (roundG (T_spec_l26Any_ann 100006) fun st k => sx tab (T_spec_l26Any_ctx N) T_spec_l26Any_ann N (nthLoop Try.f54 0) st k) n st K

theorem T_spec_l26Any_lp0_step (N : Nat) {R : Type} (n : Nat) (K : Ex → St → Option R) (b4 : List Int × Int × Int) (l5 : List (Int × Int × Int)) :
    T_spec_l26Any_lp0_m N (n + 1) (T_spec_l26Any_lp0_sh b4 l5) K =
    ((T_spec_l1Below N b4 (2 : Int)).bind fun o10 =>
    (bif decide ((ilen l5) < (iadd .i64 (200 : Int) o10.2.1)) then
      (bif room ((List.length l5) + (List.length ([((5 : Int), ((0 : Int), (0 : Int)))]))) then
        (T_spec_l26Any_lp0_m N n (T_spec_l26Any_lp0_sh o10.1.1 (List.append l5 ([((5 : Int), ((0 : Int), (0 : Int)))]))) K) else none)
      else
      (K (.exit 1) (T_spec_l26Any_lp0_e0 (decide ((ilen l5) < (iadd .i64 (200 : Int) o10.2.1))) o10.1.1 l5)))) := by kernel_rfl

theorem T_spec_l26Any_lp0_eq (N : Nat) {R : Type} (K : Ex → St → Option R) : ∀ (n : Nat) (b4 : List Int × Int × Int) (l5 : List (Int × Int × Int)), T_spec_l26Any_lp0_m N n (T_spec_l26Any_lp0_sh b4 l5) K = T_spec_l26Any_lp0 N (fun t7 b8 l9 => (K (.exit 1) (T_spec_l26Any_lp0_e0 t7 b8 l9))) n b4 l5
  | 0, _, _ => rfl
  | n + 1, b4, l5 => by rw [T_spec_l26Any_lp0_step, T_spec_l26Any_lp0]; (try simp only [T_spec_l26Any_lp0_eq N K n])

theorem T_spec_l26Any_c1 (N : Nat) (t11 : Bool) (b12 : List Int × Int × Int) (l13 : List (Int × Int × Int)) :
    ((ctxK (R := ODen (T_spec_l26Any_sg N).ps × RDen (T_spec_l26Any_sg N).rs) tab (T_spec_l26Any_ctx N) T_spec_l26Any_ann N (theCode Try.f54) [1, 1, 0, 1, 0, 1, 1, 1, 0, 0] (retK tab (T_spec_l26Any_sg N) Try.f54.results.toList some)) (.exit 1) (T_spec_l26Any_lp0_e0 t11 b12 l13)) =
    (some (α := ODen (T_spec_l26Any_sg N).ps × RDen (T_spec_l26Any_sg N).rs) ((b12, ()), (l13, ()))) := by kernel_rfl

theorem T_spec_l26Any_den (N : Nat) (c1 : List Int × Int × Int) :
    den (R := ODen (T_spec_l26Any_sg N).ps × RDen (T_spec_l26Any_sg N).rs) tab (T_spec_l26Any_ctx N) T_spec_l26Any_ann N (T_spec_l26Any_sg N) Try.f54 (c1, ()) some =
    ((T_spec_l26Acts N c1 (80 : Int)).bind fun o2 =>
    ((T_spec_l1Below N o2.1.1 (20 : Int)).bind fun o3 =>
      (bif o3.2.1 == (0 : Int) then
        (bif room ((List.length o2.2.1) + (List.length ([((0 : Int), ((0 : Int), (0 : Int))), ((1 : Int), ((3 : Int), (0 : Int))), ((3 : Int), ((0 : Int), (10 : Int))), ((6 : Int), ((-1 : Int), (0 : Int)))]))) then
          (some (α := ODen (T_spec_l26Any_sg N).ps × RDen (T_spec_l26Any_sg N).rs) ((o3.1.1, ()), (List.append o2.2.1 ([((0 : Int), ((0 : Int), (0 : Int))), ((1 : Int), ((3 : Int), (0 : Int))), ((3 : Int), ((0 : Int), (10 : Int))), ((6 : Int), ((-1 : Int), (0 : Int)))]), ()))) else none)
        else
        (bif o3.2.1 == (1 : Int) then
          (T_spec_l26Any_lp0 N
            (fun t11 b12 l13 =>
              (some (α := ODen (T_spec_l26Any_sg N).ps × RDen (T_spec_l26Any_sg N).rs) ((b12, ()), (l13, ()))))
             N o3.1.1 o2.2.1)
          else
          (some (α := ODen (T_spec_l26Any_sg N).ps × RDen (T_spec_l26Any_sg N).rs) ((o3.1.1, ()), (o2.2.1, ()))))))) := by
  have h : den (R := ODen (T_spec_l26Any_sg N).ps × RDen (T_spec_l26Any_sg N).rs) tab (T_spec_l26Any_ctx N) T_spec_l26Any_ann N (T_spec_l26Any_sg N) Try.f54 (c1, ()) some =
    ((T_spec_l26Acts N c1 (80 : Int)).bind fun o2 =>
    ((T_spec_l1Below N o2.1.1 (20 : Int)).bind fun o3 =>
      (bif o3.2.1 == (0 : Int) then
        (bif room ((List.length o2.2.1) + (List.length ([((0 : Int), ((0 : Int), (0 : Int))), ((1 : Int), ((3 : Int), (0 : Int))), ((3 : Int), ((0 : Int), (10 : Int))), ((6 : Int), ((-1 : Int), (0 : Int)))]))) then
          (some (α := ODen (T_spec_l26Any_sg N).ps × RDen (T_spec_l26Any_sg N).rs) ((o3.1.1, ()), (List.append o2.2.1 ([((0 : Int), ((0 : Int), (0 : Int))), ((1 : Int), ((3 : Int), (0 : Int))), ((3 : Int), ((0 : Int), (10 : Int))), ((6 : Int), ((-1 : Int), (0 : Int)))]), ()))) else none)
        else
        (bif o3.2.1 == (1 : Int) then
          (T_spec_l26Any_lp0_m N N (T_spec_l26Any_lp0_sh o3.1.1 o2.2.1) (ctxK (R := ODen (T_spec_l26Any_sg N).ps × RDen (T_spec_l26Any_sg N).rs) tab (T_spec_l26Any_ctx N) T_spec_l26Any_ann N (theCode Try.f54) [1, 1, 0, 1, 0, 1, 1, 1, 0, 0] (retK tab (T_spec_l26Any_sg N) Try.f54.results.toList some)))
          else
          (some (α := ODen (T_spec_l26Any_sg N).ps × RDen (T_spec_l26Any_sg N).rs) ((o3.1.1, ()), (o2.2.1, ()))))))) := by kernel_rfl
  rw [h]
  (try simp only [T_spec_l26Any_lp0_eq, T_spec_l26Any_c1]) <;> rfl

theorem T_spec_l26Any_ok (N : Nat) : chkBody Try.f54 (T_spec_l26Any_sg N).ps = true := by kernel_rfl

theorem T_spec_l26Any_callable : Callable Try.prog 54 := callable_of Try.func54 (show chkFn Try.f54 = true by kernel_rfl)

theorem T_spec_l26Any_good (N : Nat) : Good Try.prog 54 (T_spec_l26Any_sg N) :=
  good_body mixedOk tabOk (ctx_cons (T_spec_l26Acts_good N) T_spec_l26Acts_callable (ctx_cons (T_spec_l1Below_good N) T_spec_l1Below_callable ctx_nil)) Try.func54 (T_spec_l26Any_ok N) (fun d _ h => ⟨N, (T_spec_l26Any_den N d.1).trans h⟩)

noncomputable def T_spec_DrawEpochPlay_sg (N : Nat) : Sig := Sig.of [.v (.slice (.int .u8)) false] [.v (.own (.prod (.int .i64) (.prod (.int .i64) (.int .i64)))) false] (fun d => T_spec_DrawEpochPlay N d.1)

def T_spec_DrawEpochPlay_ann : Nat → List Ghost
  | _ => []

noncomputable def T_spec_DrawEpochPlay_ctx (N : Nat) : Ctx := [(53, T_spec_l1New_sg N), (54, T_spec_l26Any_sg N)]

theorem T_spec_DrawEpochPlay_den (N : Nat) (code1 : List Int) :
    den (R := ODen (T_spec_DrawEpochPlay_sg N).ps × RDen (T_spec_DrawEpochPlay_sg N).rs) tab (T_spec_DrawEpochPlay_ctx N) T_spec_DrawEpochPlay_ann N (T_spec_DrawEpochPlay_sg N) Try.f10 (code1, ()) some =
    ((T_spec_l1New N code1).bind fun o2 =>
    ((T_spec_l26Any N o2.2.1).bind fun o3 =>
      (some (α := ODen (T_spec_DrawEpochPlay_sg N).ps × RDen (T_spec_DrawEpochPlay_sg N).rs) ((), (o3.2.1, ()))))) := by kernel_rfl

theorem T_spec_DrawEpochPlay_ok (N : Nat) : chkBody Try.f10 (T_spec_DrawEpochPlay_sg N).ps = true := by kernel_rfl

theorem T_spec_DrawEpochPlay_callable : Callable Try.prog 10 := callable_of Try.func10 (show chkFn Try.f10 = true by kernel_rfl)

theorem T_spec_DrawEpochPlay_good (N : Nat) : Good Try.prog 10 (T_spec_DrawEpochPlay_sg N) :=
  good_body mixedOk tabOk (ctx_cons (T_spec_l1New_good N) T_spec_l1New_callable (ctx_cons (T_spec_l26Any_good N) T_spec_l26Any_callable ctx_nil)) Try.func10 (T_spec_DrawEpochPlay_ok N) (fun d _ h => ⟨N, (T_spec_DrawEpochPlay_den N d.1).trans h⟩)

noncomputable def T_impl_Epochs_move_sg (N : Nat) : Sig := Sig.of [.box (.prod (.int .i64) (.prod (.own (.int .i64)) (.prod (.own (.bool)) (.prod (.own (.prod (.int .i64) (.int .i64))) (.prod (.own (.prod (.int .i64) (.int .i64))) (.own (.int .i64)))))))] [] (fun d => T_impl_Epochs_move N d.1)

def T_impl_Epochs_move_ann : Nat → List Ghost
  | 1 => [.canon [0, 10, 11, 12, 13]]
  | 2 => [.canon [0, 3, 10, 11, 12]]
  | 3 => [.canon [0, 10, 11, 12, 25]]
  | 4 => [.canon [0, 10, 11, 12]]
  | 8 => [.canon [0, 4, 38, 39, 40, 41]]
  | 9 => [.canon [0, 4, 6, 38, 39, 40]]
  | 10 => [.canon [0, 4, 6, 38, 39, 40, 51]]
  | 11 => [.canon [0, 4, 38, 39, 40]]
  | 12 => [.canon [0, 4, 38, 39, 40]]
  | 13 => [.canon [0, 4, 38, 39, 40]]
  | 100001 => [.canon [0, 10, 11, 12]]
  | 100008 => [.canon [0, 4, 38, 39, 40]]
  | _ => []

noncomputable def T_impl_Epochs_move_ctx (N : Nat) : Ctx := []

def T_impl_Epochs_move_lp0_sh (t2 : Int) (t3 : Int) (b4 : Int) (l5 : List Int) (l6 : List Bool) (l7 : List (Int × Int)) (l8 : List (Int × Int)) (l9 : List Int) : St := { env := [(0, .s (.one (.ptr 0 0))), (10, .s (.one (.own 1))), (11, .s (.one (.val (.int .i64) (t2 : Int)))), (12, .s (.one (.val (.int .i64) (t3 : Int))))], objs := [(0, .box [.val (.int .i64) (b4 : Int), .own 1, .own 2, .own 3, .own 4, .own 5]), (1, .arr (.int .i64) (l5 : List Int)), (2, .arr (.bool) (l6 : List Bool)), (3, .arr (.prod (.int .i64) (.int .i64)) (l7 : List (Int × Int))), (4, .arr (.prod (.int .i64) (.int .i64)) (l8 : List (Int × Int))), (5, .arr (.int .i64) (l9 : List Int))], nx := 6 }

def T_impl_Epochs_move_lp0_e0 (t2 : Int) (b4 : Int) (l5 : List Int) (l6 : List Bool) (l7 : List (Int × Int)) (l8 : List (Int × Int)) (l9 : List Int) (t10 : Int) (t11 : Bool) : St := { env := [(0, .s (.one (.ptr 0 0))), (10, .s (.one (.own 1))), (11, .s (.one (.val (.int .i64) (t2 : Int)))), (12, .s (.one (.val (.int .i64) (t10 : Int)))), (25, .s (.one (.val (.bool) (t11 : Bool))))], objs := [(0, .box [.val (.int .i64) (b4 : Int), .own 1, .own 2, .own 3, .own 4, .own 5]), (1, .arr (.int .i64) (l5 : List Int)), (2, .arr (.bool) (l6 : List Bool)), (3, .arr (.prod (.int .i64) (.int .i64)) (l7 : List (Int × Int))), (4, .arr (.prod (.int .i64) (.int .i64)) (l8 : List (Int × Int))), (5, .arr (.int .i64) (l9 : List Int))], nx := 6 }

def T_impl_Epochs_move_lp0_e1 (t2 : Int) (b4 : Int) (l5 : List Int) (l6 : List Bool) (l7 : List (Int × Int)) (l8 : List (Int × Int)) (l9 : List Int) (t12 : Int) (t13 : Bool) : St := { env := [(0, .s (.one (.ptr 0 0))), (10, .s (.one (.own 1))), (11, .s (.one (.val (.int .i64) (t2 : Int)))), (12, .s (.one (.val (.int .i64) (t12 : Int)))), (13, .s (.one (.val (.bool) (t13 : Bool))))], objs := [(0, .box [.val (.int .i64) (b4 : Int), .own 1, .own 2, .own 3, .own 4, .own 5]), (1, .arr (.int .i64) (l5 : List Int)), (2, .arr (.bool) (l6 : List Bool)), (3, .arr (.prod (.int .i64) (.int .i64)) (l7 : List (Int × Int))), (4, .arr (.prod (.int .i64) (.int .i64)) (l8 : List (Int × Int))), (5, .arr (.int .i64) (l9 : List Int))], nx := 6 }

noncomputable def T_impl_Epochs_move_lp0_m (N : Nat) {R : Type} (n : Nat) (st : St) (K : Ex → St → Option R) : Option R := loopN (roundG (T_impl_Epochs_move_ann 100001) fun st k => sx tab (T_impl_Epochs_move_ctx N) T_impl_Epochs_move_ann N (nthLoop Try.f56 0) st k) n st K

theorem T_impl_Epochs_move_lp0_step (N : Nat) {R : Type} (n : Nat) (K : Ex → St → Option R) (t2 : Int) (t3 : Int) (b4 : Int) (l5 : List Int) (l6 : List Bool) (l7 : List (Int × Int)) (l8 : List (Int × Int)) (l9 : List Int) :
    T_impl_Epochs_move_lp0_m N (n + 1) (T_impl_Epochs_move_lp0_sh t2 t3 b4 l5 l6 l7 l8 l9) K =
    (bif decide (t3 < t2) then
    (bif inb t3 (List.length l5) then
      (bif decide ((List.getD l5 (Int.toNat t3) (0 : Int)) ≥ (0 : Int)) then
        (bif (List.getD l5 (Int.toNat t3) (0 : Int)) != b4 then
          (K .ret (T_impl_Epochs_move_lp0_e0 t2 b4 l5 l6 l7 l8 l9 t3 ((List.getD l5 (Int.toNat t3) (0 : Int)) != b4)))
          else
          (T_impl_Epochs_move_lp0_m N n (T_impl_Epochs_move_lp0_sh t2 (iadd .i64 t3 (1 : Int)) b4 l5 l6 l7 l8 l9) K))
        else
        (T_impl_Epochs_move_lp0_m N n (T_impl_Epochs_move_lp0_sh t2 (iadd .i64 t3 (1 : Int)) b4 l5 l6 l7 l8 l9) K)) else none)
    else
    (K (.exit 0) (T_impl_Epochs_move_lp0_e1 t2 b4 l5 l6 l7 l8 l9 t3 (decide (t3 < t2))))) := by kernel_rfl

theorem T_impl_Epochs_move_lp0_eq (N : Nat) {R : Type} (t2 : Int) (b4 : Int) (l5 : List Int) (l6 : List Bool) (l7 : List (Int × Int)) (l8 : List (Int × Int)) (l9 : List Int) (K : Ex → St → Option R) : ∀ (n : Nat) (t3 : Int), T_impl_Epochs_move_lp0_m N n (T_impl_Epochs_move_lp0_sh t2 t3 b4 l5 l6 l7 l8 l9) K = T_impl_Epochs_move_lp0 N t2 b4 l5 l6 l7 l8 l9 (fun t10 t11 => (K .ret (T_impl_Epochs_move_lp0_e0 t2 b4 l5 l6 l7 l8 l9 t10 t11))) (fun t12 t13 => (K (.exit 0) (T_impl_Epochs_move_lp0_e1 t2 b4 l5 l6 l7 l8 l9 t12 t13))) n t3
  | 0, _ => rfl
  | n + 1, t3 => by rw [T_impl_Epochs_move_lp0_step, T_impl_Epochs_move_lp0]; (try simp only [T_impl_Epochs_move_lp0_eq N t2 b4 l5 l6 l7 l8 l9 K n])

def T_impl_Epochs_move_lp1_sh (t18 : Int) (t19 : Int) (b20 : Int) (l21 : List (Int × Int)) (l22 : List (Int × Int)) (l23 : List Int) (l24 : List Bool) (l25 : List (Int × Int)) (l26 : List Int) : St := { env := [(0, .s (.one (.ptr 0 0))), (4, .s (.one (.own 1))), (38, .s (.one (.own 2))), (39, .s (.one (.val (.int .i64) (t18 : Int)))), (40, .s (.one (.val (.int .i64) (t19 : Int))))], objs := [(0, .box [.val (.int .i64) (b20 : Int), .own 3, .own 4, .own 2, .own 5, .own 6]), (1, .arr (.prod (.int .i64) (.int .i64)) (l21 : List (Int × Int))), (2, .arr (.prod (.int .i64) (.int .i64)) (l22 : List (Int × Int))), (3, .arr (.int .i64) (l23 : List Int)), (4, .arr (.bool) (l24 : List Bool)), (5, .arr (.prod (.int .i64) (.int .i64)) (l25 : List (Int × Int))), (6, .arr (.int .i64) (l26 : List Int))], nx := 7 }

def T_impl_Epochs_move_lp1_e0 (t18 : Int) (b20 : Int) (l22 : List (Int × Int)) (l23 : List Int) (l24 : List Bool) (l25 : List (Int × Int)) (t27 : Int) (t28 : Bool) (l29 : List (Int × Int)) (l30 : List Int) : St := { env := [(0, .s (.one (.ptr 0 0))), (4, .s (.one (.own 1))), (38, .s (.one (.own 2))), (39, .s (.one (.val (.int .i64) (t18 : Int)))), (40, .s (.one (.val (.int .i64) (t27 : Int)))), (41, .s (.one (.val (.bool) (t28 : Bool))))], objs := [(0, .box [.val (.int .i64) (b20 : Int), .own 3, .own 4, .own 2, .own 5, .own 6]), (1, .arr (.prod (.int .i64) (.int .i64)) (l29 : List (Int × Int))), (2, .arr (.prod (.int .i64) (.int .i64)) (l22 : List (Int × Int))), (3, .arr (.int .i64) (l23 : List Int)), (4, .arr (.bool) (l24 : List Bool)), (5, .arr (.prod (.int .i64) (.int .i64)) (l25 : List (Int × Int))), (6, .arr (.int .i64) (l30 : List Int))], nx := 7 }

noncomputable def T_impl_Epochs_move_lp1_m (N : Nat) {R : Type} (n : Nat) (st : St) (K : Ex → St → Option R) : Option R := loopN (roundG (T_impl_Epochs_move_ann 100008) fun st k => sx tab (T_impl_Epochs_move_ctx N) T_impl_Epochs_move_ann N (nthLoop Try.f56 1) st k) n st K

theorem T_impl_Epochs_move_lp1_step (N : Nat) {R : Type} (n : Nat) (K : Ex → St → Option R) (t18 : Int) (t19 : Int) (b20 : Int) (l21 : List (Int × Int)) (l22 : List (Int × Int)) (l23 : List Int) (l24 : List Bool) (l25 : List (Int × Int)) (l26 : List Int) :
    T_impl_Epochs_move_lp1_m N (n + 1) (T_impl_Epochs_move_lp1_sh t18 t19 b20 l21 l22 l23 l24 l25 l26) K =
    (bif decide (t19 < t18) then
    (bif inb t19 (List.length l22) then
      (bif decide ((List.getD l22 (Int.toNat t19) ((0 : Int), (0 : Int))).2 ≤ (isub .i64 b20 (2 : Int))) then
        (bif room ((List.length l26) + (List.length ([(List.getD l22 (Int.toNat t19) ((0 : Int), (0 : Int))).1]))) then
          (T_impl_Epochs_move_lp1_m N n (T_impl_Epochs_move_lp1_sh t18 (iadd .i64 t19 (1 : Int)) b20 l21 l22 l23 l24 l25 (List.append l26 ([(List.getD l22 (Int.toNat t19) ((0 : Int), (0 : Int))).1]))) K) else none)
        else
        (bif room ((List.length l21) + (List.length ([(List.getD l22 (Int.toNat t19) ((0 : Int), (0 : Int)))]))) then
          (T_impl_Epochs_move_lp1_m N n (T_impl_Epochs_move_lp1_sh t18 (iadd .i64 t19 (1 : Int)) b20 (List.append l21 ([(List.getD l22 (Int.toNat t19) ((0 : Int), (0 : Int)))])) l22 l23 l24 l25 l26) K) else none)) else none)
    else
    (K (.exit 2) (T_impl_Epochs_move_lp1_e0 t18 b20 l22 l23 l24 l25 t19 (decide (t19 < t18)) l21 l26))) := by kernel_rfl

theorem T_impl_Epochs_move_lp1_eq (N : Nat) {R : Type} (t18 : Int) (b20 : Int) (l22 : List (Int × Int)) (l23 : List Int) (l24 : List Bool) (l25 : List (Int × Int)) (K : Ex → St → Option R) : ∀ (n : Nat) (t19 : Int) (l21 : List (Int × Int)) (l26 : List Int), T_impl_Epochs_move_lp1_m N n (T_impl_Epochs_move_lp1_sh t18 t19 b20 l21 l22 l23 l24 l25 l26) K = T_impl_Epochs_move_lp1 N t18 b20 l22 l23 l24 l25 (fun t27 t28 l29 l30 => (K (.exit 2) (T_impl_Epochs_move_lp1_e0 t18 b20 l22 l23 l24 l25 t27 t28 l29 l30))) n t19 l21 l26
  | 0, _, _, _ => rfl
  | n + 1, t19, l21, l26 => by rw [T_impl_Epochs_move_lp1_step, T_impl_Epochs_move_lp1]; (try simp only [T_impl_Epochs_move_lp1_eq N t18 b20 l22 l23 l24 l25 K n])

theorem T_impl_Epochs_move_c1 (N : Nat) (e1 : Int × List Int × List Bool × List (Int × Int) × List (Int × Int) × List Int) (t14 : Int) (t15 : Bool) :
    ((ctxK (R := ODen (T_impl_Epochs_move_sg N).ps × RDen (T_impl_Epochs_move_sg N).rs) tab (T_impl_Epochs_move_ctx N) T_impl_Epochs_move_ann N (theCode Try.f56) [0, 1, 0] (retK tab (T_impl_Epochs_move_sg N) Try.f56.results.toList some)) .ret (T_impl_Epochs_move_lp0_e0 (ilen e1.2.1) e1.1 e1.2.1 e1.2.2.1 e1.2.2.2.1 e1.2.2.2.2.1 e1.2.2.2.2.2 t14 t15)) =
    (some (α := ODen (T_impl_Epochs_move_sg N).ps × RDen (T_impl_Epochs_move_sg N).rs) ((e1, ()), ())) := by kernel_rfl

theorem T_impl_Epochs_move_c3 (N : Nat) (e1 : Int × List Int × List Bool × List (Int × Int) × List (Int × Int) × List Int) (t31 : Int) (t32 : Bool) (l33 : List (Int × Int)) (l34 : List Int) :
    ((ctxK (R := ODen (T_impl_Epochs_move_sg N).ps × RDen (T_impl_Epochs_move_sg N).rs) tab (T_impl_Epochs_move_ctx N) T_impl_Epochs_move_ann N (theCode Try.f56) [1, 1, 1, 0, 1, 0] (retK tab (T_impl_Epochs_move_sg N) Try.f56.results.toList some)) (.exit 2) (T_impl_Epochs_move_lp1_e0 (ilen e1.2.2.2.1) (iadd .i64 e1.1 (1 : Int)) e1.2.2.2.1 e1.2.1 e1.2.2.1 e1.2.2.2.2.1 t31 t32 l33 l34)) =
    (some (α := ODen (T_impl_Epochs_move_sg N).ps × RDen (T_impl_Epochs_move_sg N).rs) (((iadd .i64 e1.1 (1 : Int), (e1.2.1, (e1.2.2.1, (l33, (e1.2.2.2.2.1, l34))))), ()), ())) := by kernel_rfl

theorem T_impl_Epochs_move_c2 (N : Nat) (e1 : Int × List Int × List Bool × List (Int × Int) × List (Int × Int) × List Int) (t16 : Int) (t17 : Bool) :
    ((ctxK (R := ODen (T_impl_Epochs_move_sg N).ps × RDen (T_impl_Epochs_move_sg N).rs) tab (T_impl_Epochs_move_ctx N) T_impl_Epochs_move_ann N (theCode Try.f56) [0, 1, 0] (retK tab (T_impl_Epochs_move_sg N) Try.f56.results.toList some)) (.exit 0) (T_impl_Epochs_move_lp0_e1 (ilen e1.2.1) e1.1 e1.2.1 e1.2.2.1 e1.2.2.2.1 e1.2.2.2.2.1 e1.2.2.2.2.2 t16 t17)) =
    (T_impl_Epochs_move_lp1 N (ilen e1.2.2.2.1) (iadd .i64 e1.1 (1 : Int)) e1.2.2.2.1 e1.2.1 e1.2.2.1 e1.2.2.2.2.1
    (fun t31 t32 l33 l34 =>
      (some (α := ODen (T_impl_Epochs_move_sg N).ps × RDen (T_impl_Epochs_move_sg N).rs) (((iadd .i64 e1.1 (1 : Int), (e1.2.1, (e1.2.2.1, (l33, (e1.2.2.2.2.1, l34))))), ()), ())))
     N (0 : Int) ([] : List (Int × Int)) e1.2.2.2.2.2) := by
  have h : ((ctxK (R := ODen (T_impl_Epochs_move_sg N).ps × RDen (T_impl_Epochs_move_sg N).rs) tab (T_impl_Epochs_move_ctx N) T_impl_Epochs_move_ann N (theCode Try.f56) [0, 1, 0] (retK tab (T_impl_Epochs_move_sg N) Try.f56.results.toList some)) (.exit 0) (T_impl_Epochs_move_lp0_e1 (ilen e1.2.1) e1.1 e1.2.1 e1.2.2.1 e1.2.2.2.1 e1.2.2.2.2.1 e1.2.2.2.2.2 t16 t17)) =
    (T_impl_Epochs_move_lp1_m N N (T_impl_Epochs_move_lp1_sh (ilen e1.2.2.2.1) (0 : Int) (iadd .i64 e1.1 (1 : Int)) ([] : List (Int × Int)) e1.2.2.2.1 e1.2.1 e1.2.2.1 e1.2.2.2.2.1 e1.2.2.2.2.2) (ctxK (R := ODen (T_impl_Epochs_move_sg N).ps × RDen (T_impl_Epochs_move_sg N).rs) tab (T_impl_Epochs_move_ctx N) T_impl_Epochs_move_ann N (theCode Try.f56) [1, 1, 1, 0, 1, 0] (retK tab (T_impl_Epochs_move_sg N) Try.f56.results.toList some))) := by kernel_rfl
  rw [h]
  (try simp only [T_impl_Epochs_move_lp1_eq, T_impl_Epochs_move_c3]) <;> rfl

theorem T_impl_Epochs_move_den (N : Nat) (e1 : Int × List Int × List Bool × List (Int × Int) × List (Int × Int) × List Int) :
    den (R := ODen (T_impl_Epochs_move_sg N).ps × RDen (T_impl_Epochs_move_sg N).rs) tab (T_impl_Epochs_move_ctx N) T_impl_Epochs_move_ann N (T_impl_Epochs_move_sg N) Try.f56 (e1, ()) some =
    (T_impl_Epochs_move_lp0 N (ilen e1.2.1) e1.1 e1.2.1 e1.2.2.1 e1.2.2.2.1 e1.2.2.2.2.1 e1.2.2.2.2.2
    (fun t14 t15 =>
      (some (α := ODen (T_impl_Epochs_move_sg N).ps × RDen (T_impl_Epochs_move_sg N).rs) ((e1, ()), ())))
    (fun t16 t17 =>
      (T_impl_Epochs_move_lp1 N (ilen e1.2.2.2.1) (iadd .i64 e1.1 (1 : Int)) e1.2.2.2.1 e1.2.1 e1.2.2.1 e1.2.2.2.2.1
        (fun t31 t32 l33 l34 =>
          (some (α := ODen (T_impl_Epochs_move_sg N).ps × RDen (T_impl_Epochs_move_sg N).rs) (((iadd .i64 e1.1 (1 : Int), (e1.2.1, (e1.2.2.1, (l33, (e1.2.2.2.2.1, l34))))), ()), ())))
         N (0 : Int) ([] : List (Int × Int)) e1.2.2.2.2.2))
     N (0 : Int)) := by
  have h : den (R := ODen (T_impl_Epochs_move_sg N).ps × RDen (T_impl_Epochs_move_sg N).rs) tab (T_impl_Epochs_move_ctx N) T_impl_Epochs_move_ann N (T_impl_Epochs_move_sg N) Try.f56 (e1, ()) some =
    (T_impl_Epochs_move_lp0_m N N (T_impl_Epochs_move_lp0_sh (ilen e1.2.1) (0 : Int) e1.1 e1.2.1 e1.2.2.1 e1.2.2.2.1 e1.2.2.2.2.1 e1.2.2.2.2.2) (ctxK (R := ODen (T_impl_Epochs_move_sg N).ps × RDen (T_impl_Epochs_move_sg N).rs) tab (T_impl_Epochs_move_ctx N) T_impl_Epochs_move_ann N (theCode Try.f56) [0, 1, 0] (retK tab (T_impl_Epochs_move_sg N) Try.f56.results.toList some))) := by kernel_rfl
  rw [h]
  (try simp only [T_impl_Epochs_move_lp0_eq, T_impl_Epochs_move_c1, T_impl_Epochs_move_c2]) <;> rfl

theorem T_impl_Epochs_move_ok (N : Nat) : chkBody Try.f56 (T_impl_Epochs_move_sg N).ps = true := by kernel_rfl

theorem T_impl_Epochs_move_callable : Callable Try.prog 56 := callable_of Try.func56 (show chkFn Try.f56 = true by kernel_rfl)

theorem T_impl_Epochs_move_good (N : Nat) : Good Try.prog 56 (T_impl_Epochs_move_sg N) :=
  good_body mixedOk tabOk ctx_nil Try.func56 (T_impl_Epochs_move_ok N) (fun d _ h => ⟨N, (T_impl_Epochs_move_den N d.1).trans h⟩)

noncomputable def T_impl_within_sg (N : Nat) : Sig := Sig.of [.v (.int .i64) false, .v (.int .i64) false, .v (.int .i64) false] [.v (.bool) false] (fun d => T_impl_within N d.1 d.2.1 d.2.2.1)

def T_impl_within_ann : Nat → List Ghost
  | _ => []

noncomputable def T_impl_within_ctx (N : Nat) : Ctx := []

theorem T_impl_within_den (N : Nat) (x1 : Int) (lo2 : Int) (hi3 : Int) :
    den (R := ODen (T_impl_within_sg N).ps × RDen (T_impl_within_sg N).rs) tab (T_impl_within_ctx N) T_impl_within_ann N (T_impl_within_sg N) Try.f61 (x1, lo2, hi3, ()) some =
    (bif decide (x1 ≥ lo2) then
    (some (α := ODen (T_impl_within_sg N).ps × RDen (T_impl_within_sg N).rs) ((), (decide (x1 ≤ hi3), ())))
    else
    (some (α := ODen (T_impl_within_sg N).ps × RDen (T_impl_within_sg N).rs) ((), (false, ())))) := by kernel_rfl

theorem T_impl_within_ok (N : Nat) : chkBody Try.f61 (T_impl_within_sg N).ps = true := by kernel_rfl

theorem T_impl_within_callable : Callable Try.prog 61 := callable_of Try.func61 (show chkFn Try.f61 = true by kernel_rfl)

theorem T_impl_within_good (N : Nat) : Good Try.prog 61 (T_impl_within_sg N) :=
  good_body mixedOk tabOk ctx_nil Try.func61 (T_impl_within_ok N) (fun d _ h => ⟨N, (T_impl_within_den N d.1 d.2.1 d.2.2.1).trans h⟩)

noncomputable def T_impl_Epochs_act_1_sg (N : Nat) : Sig := Sig.of [.v (.prod (.int .i64) (.int .i64)) true, .box (.prod (.int .i64) (.prod (.int .i64) (.int .i64)))] [.v (.bool) false] (fun d => T_impl_Epochs_act_1 N d.1 d.2.1)

def T_impl_Epochs_act_1_ann : Nat → List Ghost
  | _ => []

noncomputable def T_impl_Epochs_act_1_ctx (N : Nat) : Ctx := []

theorem T_impl_Epochs_act_1_den (N : Nat) (x1 : Int × Int) (a2 : Int × Int × Int) :
    den (R := ODen (T_impl_Epochs_act_1_sg N).ps × RDen (T_impl_Epochs_act_1_sg N).rs) tab (T_impl_Epochs_act_1_ctx N) T_impl_Epochs_act_1_ann N (T_impl_Epochs_act_1_sg N) Try.f117 (x1, a2, ()) some =
    (some (α := ODen (T_impl_Epochs_act_1_sg N).ps × RDen (T_impl_Epochs_act_1_sg N).rs) ((a2, ()), (x1.1 == a2.2.1, ()))) := by kernel_rfl

theorem T_impl_Epochs_act_1_ok (N : Nat) : chkBody Try.f117 (T_impl_Epochs_act_1_sg N).ps = true := by kernel_rfl

theorem T_impl_Epochs_act_1_callable : Callable Try.prog 117 := callable_of Try.func117 (show chkFn Try.f117 = true by kernel_rfl)

theorem T_impl_Epochs_act_1_good (N : Nat) : Good Try.prog 117 (T_impl_Epochs_act_1_sg N) :=
  good_body mixedOk tabOk ctx_nil Try.func117 (T_impl_Epochs_act_1_ok N) (fun d _ h => ⟨N, (T_impl_Epochs_act_1_den N d.1 d.2.1).trans h⟩)

noncomputable def T_slices_IndexFunc___impl_EpHold_impl_EpHold___impl_Epochs_act_1_sg (N : Nat) : Sig := Sig.of [.v (.slice (.prod (.int .i64) (.int .i64))) false, .clos 117 1, .box (.prod (.int .i64) (.prod (.int .i64) (.int .i64)))] [.v (.int .i64) false] (fun d => T_slices_IndexFunc___impl_EpHold_impl_EpHold___impl_Epochs_act_1 N d.1 d.2.1)

def T_slices_IndexFunc___impl_EpHold_impl_EpHold___impl_Epochs_act_1_ann : Nat → List Ghost
  | 2 => [.canon [0, 1, 7, 8, 9]]
  | 3 => [.canon [0, 1, 5, 7, 8]]
  | 4 => [.canon [0, 1, 5, 7, 8, 16]]
  | 5 => [.canon [1, 4]]
  | 6 => [.canon [0, 1, 7, 8]]
  | 100002 => [.canon [0, 1, 7, 8]]
  | _ => []

noncomputable def T_slices_IndexFunc___impl_EpHold_impl_EpHold___impl_Epochs_act_1_ctx (N : Nat) : Ctx := [(117, T_impl_Epochs_act_1_sg N)]

def T_slices_IndexFunc___impl_EpHold_impl_EpHold___impl_Epochs_act_1_lp0_sh (s3 : List (Int × Int)) (t5 : Int) (b6 : Int × Int × Int) : St := { env := [(0, .s (.one (.val (.slice (.prod (.int .i64) (.int .i64))) (s3 : List (Int × Int))))), (1, .s (.one (.clos 117 [0]))), (7, .s (.one (.val (.int .i64) (ilen s3 : Int)))), (8, .s (.one (.val (.int .i64) (t5 : Int))))], objs := [(0, .box [.val (.int .i64) (b6.1 : Int), .val (.int .i64) (b6.2.1 : Int), .val (.int .i64) (b6.2.2 : Int)])], nx := 1 }

def T_slices_IndexFunc___impl_EpHold_impl_EpHold___impl_Epochs_act_1_lp0_e0 (s3 : List (Int × Int)) (t9 : Int) (b10 : Int × Int × Int) : St := { env := [(1, .s (.one (.clos 117 [0]))), (4, .s (.one (.val (.int .i64) (t9 : Int))))], objs := [(0, .box [.val (.int .i64) (b10.1 : Int), .val (.int .i64) (b10.2.1 : Int), .val (.int .i64) (b10.2.2 : Int)])], nx := 1 }

def T_slices_IndexFunc___impl_EpHold_impl_EpHold___impl_Epochs_act_1_lp0_e1 (s3 : List (Int × Int)) (t11 : Int) (t12 : Bool) (b13 : Int × Int × Int) : St := { env := [(0, .s (.one (.val (.slice (.prod (.int .i64) (.int .i64))) (s3 : List (Int × Int))))), (1, .s (.one (.clos 117 [0]))), (7, .s (.one (.val (.int .i64) (ilen s3 : Int)))), (8, .s (.one (.val (.int .i64) (t11 : Int)))), (9, .s (.one (.val (.bool) (t12 : Bool))))], objs := [(0, .box [.val (.int .i64) (b13.1 : Int), .val (.int .i64) (b13.2.1 : Int), .val (.int .i64) (b13.2.2 : Int)])], nx := 1 }

noncomputable def T_slices_IndexFunc___impl_EpHold_impl_EpHold___impl_Epochs_act_1_lp0_m (N : Nat) {R : Type} (n : Nat) (st : St) (K : Ex → St → Option R) : Option R := loopN (roundG (T_slices_IndexFunc___impl_EpHold_impl_EpHold___impl_Epochs_act_1_ann 100002) fun st k => sx tab (T_slices_IndexFunc___impl_EpHold_impl_EpHold___impl_Epochs_act_1_ctx N) T_slices_IndexFunc___impl_EpHold_impl_EpHold___impl_Epochs_act_1_ann N (nthLoop Try.f119 0) st k) n st K

theorem T_slices_IndexFunc___impl_EpHold_impl_EpHold___impl_Epochs_act_1_lp0_step (N : Nat) {R : Type} (n : Nat) (K : Ex → St → Option R) (s3 : List (Int × Int)) (t5 : Int) (b6 : Int × Int × Int) :
    T_slices_IndexFunc___impl_EpHold_impl_EpHold___impl_Epochs_act_1_lp0_m N (n + 1) (T_slices_IndexFunc___impl_EpHold_impl_EpHold___impl_Epochs_act_1_lp0_sh s3 t5 b6) K =
    (bif decide (t5 < (ilen s3)) then
    (bif inb t5 (List.length s3) then
      ((T_impl_Epochs_act_1 N (List.getD s3 (Int.toNat t5) ((0 : Int), (0 : Int))) b6).bind fun o14 =>
        (bif o14.2.1 then
          (K .ret (T_slices_IndexFunc___impl_EpHold_impl_EpHold___impl_Epochs_act_1_lp0_e0 s3 t5 o14.1.1))
          else
          (T_slices_IndexFunc___impl_EpHold_impl_EpHold___impl_Epochs_act_1_lp0_m N n (T_slices_IndexFunc___impl_EpHold_impl_EpHold___impl_Epochs_act_1_lp0_sh s3 (iadd .i64 t5 (1 : Int)) o14.1.1) K))) else none)
    else
    (K (.exit 0) (T_slices_IndexFunc___impl_EpHold_impl_EpHold___impl_Epochs_act_1_lp0_e1 s3 t5 (decide (t5 < (ilen s3))) b6))) := by kernel_rfl

theorem T_slices_IndexFunc___impl_EpHold_impl_EpHold___impl_Epochs_act_1_lp0_eq (N : Nat) {R : Type} (s3 : List (Int × Int)) (K : Ex → St → Option R) : ∀ (n : Nat) (t5 : Int) (b6 : Int × Int × Int), T_slices_IndexFunc___impl_EpHold_impl_EpHold___impl_Epochs_act_1_lp0_m N n (T_slices_IndexFunc___impl_EpHold_impl_EpHold___impl_Epochs_act_1_lp0_sh s3 t5 b6) K = T_slices_IndexFunc___impl_EpHold_impl_EpHold___impl_Epochs_act_1_lp0 N s3 (fun t9 b10 => (K .ret (T_slices_IndexFunc___impl_EpHold_impl_EpHold___impl_Epochs_act_1_lp0_e0 s3 t9 b10))) (fun t11 t12 b13 => (K (.exit 0) (T_slices_IndexFunc___impl_EpHold_impl_EpHold___impl_Epochs_act_1_lp0_e1 s3 t11 t12 b13))) n t5 b6
  | 0, _, _ => rfl
  | n + 1, t5, b6 => by rw [T_slices_IndexFunc___impl_EpHold_impl_EpHold___impl_Epochs_act_1_lp0_step, T_slices_IndexFunc___impl_EpHold_impl_EpHold___impl_Epochs_act_1_lp0]; (try simp only [T_slices_IndexFunc___impl_EpHold_impl_EpHold___impl_Epochs_act_1_lp0_eq N s3 K n])

theorem T_slices_IndexFunc___impl_EpHold_impl_EpHold___impl_Epochs_act_1_c1 (N : Nat) (s1 : List (Int × Int)) (t15 : Int) (b16 : Int × Int × Int) :
    ((ctxK (R := ODen (T_slices_IndexFunc___impl_EpHold_impl_EpHold___impl_Epochs_act_1_sg N).ps × RDen (T_slices_IndexFunc___impl_EpHold_impl_EpHold___impl_Epochs_act_1_sg N).rs) tab (T_slices_IndexFunc___impl_EpHold_impl_EpHold___impl_Epochs_act_1_ctx N) T_slices_IndexFunc___impl_EpHold_impl_EpHold___impl_Epochs_act_1_ann N (theCode Try.f119) [1, 0, 1, 0] (retK tab (T_slices_IndexFunc___impl_EpHold_impl_EpHold___impl_Epochs_act_1_sg N) Try.f119.results.toList some)) .ret (T_slices_IndexFunc___impl_EpHold_impl_EpHold___impl_Epochs_act_1_lp0_e0 s1 t15 b16)) =
    (some (α := ODen (T_slices_IndexFunc___impl_EpHold_impl_EpHold___impl_Epochs_act_1_sg N).ps × RDen (T_slices_IndexFunc___impl_EpHold_impl_EpHold___impl_Epochs_act_1_sg N).rs) ((b16, ()), (t15, ()))) := by kernel_rfl

theorem T_slices_IndexFunc___impl_EpHold_impl_EpHold___impl_Epochs_act_1_c2 (N : Nat) (s1 : List (Int × Int)) (t17 : Int) (t18 : Bool) (b19 : Int × Int × Int) :
    ((ctxK (R := ODen (T_slices_IndexFunc___impl_EpHold_impl_EpHold___impl_Epochs_act_1_sg N).ps × RDen (T_slices_IndexFunc___impl_EpHold_impl_EpHold___impl_Epochs_act_1_sg N).rs) tab (T_slices_IndexFunc___impl_EpHold_impl_EpHold___impl_Epochs_act_1_ctx N) T_slices_IndexFunc___impl_EpHold_impl_EpHold___impl_Epochs_act_1_ann N (theCode Try.f119) [1, 0, 1, 0] (retK tab (T_slices_IndexFunc___impl_EpHold_impl_EpHold___impl_Epochs_act_1_sg N) Try.f119.results.toList some)) (.exit 0) (T_slices_IndexFunc___impl_EpHold_impl_EpHold___impl_Epochs_act_1_lp0_e1 s1 t17 t18 b19)) =
    (some (α := ODen (T_slices_IndexFunc___impl_EpHold_impl_EpHold___impl_Epochs_act_1_sg N).ps × RDen (T_slices_IndexFunc___impl_EpHold_impl_EpHold___impl_Epochs_act_1_sg N).rs) ((b19, ()), ((-1 : Int), ()))) := by kernel_rfl

theorem T_slices_IndexFunc___impl_EpHold_impl_EpHold___impl_Epochs_act_1_den (N : Nat) (s1 : List (Int × Int)) (cap2 : Int × Int × Int) :
    den (R := ODen (T_slices_IndexFunc___impl_EpHold_impl_EpHold___impl_Epochs_act_1_sg N).ps × RDen (T_slices_IndexFunc___impl_EpHold_impl_EpHold___impl_Epochs_act_1_sg N).rs) tab (T_slices_IndexFunc___impl_EpHold_impl_EpHold___impl_Epochs_act_1_ctx N) T_slices_IndexFunc___impl_EpHold_impl_EpHold___impl_Epochs_act_1_ann N (T_slices_IndexFunc___impl_EpHold_impl_EpHold___impl_Epochs_act_1_sg N) Try.f119 (s1, cap2, ()) some =
    (T_slices_IndexFunc___impl_EpHold_impl_EpHold___impl_Epochs_act_1_lp0 N s1
    (fun t15 b16 =>
      (some (α := ODen (T_slices_IndexFunc___impl_EpHold_impl_EpHold___impl_Epochs_act_1_sg N).ps × RDen (T_slices_IndexFunc___impl_EpHold_impl_EpHold___impl_Epochs_act_1_sg N).rs) ((b16, ()), (t15, ()))))
    (fun t17 t18 b19 =>
      (some (α := ODen (T_slices_IndexFunc___impl_EpHold_impl_EpHold___impl_Epochs_act_1_sg N).ps × RDen (T_slices_IndexFunc___impl_EpHold_impl_EpHold___impl_Epochs_act_1_sg N).rs) ((b19, ()), ((-1 : Int), ()))))
     N (0 : Int) cap2) := by
  have h : den (R := ODen (T_slices_IndexFunc___impl_EpHold_impl_EpHold___impl_Epochs_act_1_sg N).ps × RDen (T_slices_IndexFunc___impl_EpHold_impl_EpHold___impl_Epochs_act_1_sg N).rs) tab (T_slices_IndexFunc___impl_EpHold_impl_EpHold___impl_Epochs_act_1_ctx N) T_slices_IndexFunc___impl_EpHold_impl_EpHold___impl_Epochs_act_1_ann N (T_slices_IndexFunc___impl_EpHold_impl_EpHold___impl_Epochs_act_1_sg N) Try.f119 (s1, cap2, ()) some =
    (T_slices_IndexFunc___impl_EpHold_impl_EpHold___impl_Epochs_act_1_lp0_m N N (T_slices_IndexFunc___impl_EpHold_impl_EpHold___impl_Epochs_act_1_lp0_sh s1 (0 : Int) cap2) (ctxK (R := ODen (T_slices_IndexFunc___impl_EpHold_impl_EpHold___impl_Epochs_act_1_sg N).ps × RDen (T_slices_IndexFunc___impl_EpHold_impl_EpHold___impl_Epochs_act_1_sg N).rs) tab (T_slices_IndexFunc___impl_EpHold_impl_EpHold___impl_Epochs_act_1_ctx N) T_slices_IndexFunc___impl_EpHold_impl_EpHold___impl_Epochs_act_1_ann N (theCode Try.f119) [1, 0, 1, 0] (retK tab (T_slices_IndexFunc___impl_EpHold_impl_EpHold___impl_Epochs_act_1_sg N) Try.f119.results.toList some))) := by kernel_rfl
  rw [h]
  (try simp only [T_slices_IndexFunc___impl_EpHold_impl_EpHold___impl_Epochs_act_1_lp0_eq, T_slices_IndexFunc___impl_EpHold_impl_EpHold___impl_Epochs_act_1_c1, T_slices_IndexFunc___impl_EpHold_impl_EpHold___impl_Epochs_act_1_c2]) <;> rfl

theorem T_slices_IndexFunc___impl_EpHold_impl_EpHold___impl_Epochs_act_1_ok (N : Nat) : chkBody Try.f119 (T_slices_IndexFunc___impl_EpHold_impl_EpHold___impl_Epochs_act_1_sg N).ps = true := by kernel_rfl

theorem T_slices_IndexFunc___impl_EpHold_impl_EpHold___impl_Epochs_act_1_callable : Callable Try.prog 119 := callable_of Try.func119 (show chkFn Try.f119 = true by kernel_rfl)

theorem T_slices_IndexFunc___impl_EpHold_impl_EpHold___impl_Epochs_act_1_good (N : Nat) : Good Try.prog 119 (T_slices_IndexFunc___impl_EpHold_impl_EpHold___impl_Epochs_act_1_sg N) :=
  good_body mixedOk tabOk (ctx_cons (T_impl_Epochs_act_1_good N) T_impl_Epochs_act_1_callable ctx_nil) Try.func119 (T_slices_IndexFunc___impl_EpHold_impl_EpHold___impl_Epochs_act_1_ok N) (fun d _ h => ⟨N, (T_slices_IndexFunc___impl_EpHold_impl_EpHold___impl_Epochs_act_1_den N d.1 d.2.1).trans h⟩)

noncomputable def T_slices_DeleteFunc___impl_EpHold_impl_EpHold___impl_Epochs_act_1_sg (N : Nat) : Sig := Sig.of [.v (.own (.prod (.int .i64) (.int .i64))) false, .clos 117 1, .box (.prod (.int .i64) (.prod (.int .i64) (.int .i64)))] [.v (.own (.prod (.int .i64) (.int .i64))) false] (fun d => T_slices_DeleteFunc___impl_EpHold_impl_EpHold___impl_Epochs_act_1 N d.1 d.2.1)

def T_slices_DeleteFunc___impl_EpHold_impl_EpHold___impl_Epochs_act_1_ann : Nat → List Ghost
  | 5 => [.canon [0, 1, 5, 6, 19]]
  | 6 => [.canon [0, 1, 5, 6]]
  | 7 => [.canon [0, 1, 5, 6, 7]]
  | 8 => [.canon [0, 1, 5, 6, 7, 29]]
  | 9 => [.canon [0, 1, 5, 6]]
  | 10 => [.canon [0, 1, 5, 6]]
  | 11 => [.view 38]
  | 100005 => [.canon [0, 1, 5, 6]]
  | _ => []

noncomputable def T_slices_DeleteFunc___impl_EpHold_impl_EpHold___impl_Epochs_act_1_ctx (N : Nat) : Ctx := [(119, T_slices_IndexFunc___impl_EpHold_impl_EpHold___impl_Epochs_act_1_sg N), (117, T_impl_Epochs_act_1_sg N)]

def T_slices_DeleteFunc___impl_EpHold_impl_EpHold___impl_Epochs_act_1_lp0_sh (i4 : Int) (j5 : Int) (l6 : List (Int × Int)) (b7 : Int × Int × Int) : St := { env := [(0, .s (.one (.own 0))), (1, .s (.one (.clos 117 [1]))), (5, .s (.one (.val (.int .i64) (i4 : Int)))), (6, .s (.one (.val (.int .i64) (j5 : Int))))], objs := [(0, .arr (.prod (.int .i64) (.int .i64)) (l6 : List (Int × Int))), (1, .box [.val (.int .i64) (b7.1 : Int), .val (.int .i64) (b7.2.1 : Int), .val (.int .i64) (b7.2.2 : Int)])], nx := 2 }

def T_slices_DeleteFunc___impl_EpHold_impl_EpHold___impl_Epochs_act_1_lp0_e0 (i9 : Int) (j10 : Int) (t11 : Bool) (l12 : List (Int × Int)) (b13 : Int × Int × Int) : St := { env := [(0, .s (.one (.own 0))), (1, .s (.one (.clos 117 [1]))), (5, .s (.one (.val (.int .i64) (i9 : Int)))), (6, .s (.one (.val (.int .i64) (j10 : Int)))), (19, .s (.one (.val (.bool) (t11 : Bool))))], objs := [(0, .arr (.prod (.int .i64) (.int .i64)) (l12 : List (Int × Int))), (1, .box [.val (.int .i64) (b13.1 : Int), .val (.int .i64) (b13.2.1 : Int), .val (.int .i64) (b13.2.2 : Int)])], nx := 2 }

noncomputable def T_slices_DeleteFunc___impl_EpHold_impl_EpHold___impl_Epochs_act_1_lp0_m (N : Nat) {R : Type} (n : Nat) (st : St) (K : Ex → St → Option R) : Option R := loopN (roundG (T_slices_DeleteFunc___impl_EpHold_impl_EpHold___impl_Epochs_act_1_ann 100005) fun st k => sx tab (T_slices_DeleteFunc___impl_EpHold_impl_EpHold___impl_Epochs_act_1_ctx N) T_slices_DeleteFunc___impl_EpHold_impl_EpHold___impl_Epochs_act_1_ann N (nthLoop Try.f116 0) st k) n st K

theorem T_slices_DeleteFunc___impl_EpHold_impl_EpHold___impl_Epochs_act_1_lp0_step (N : Nat) {R : Type} (n : Nat) (K : Ex → St → Option R) (i4 : Int) (j5 : Int) (l6 : List (Int × Int)) (b7 : Int × Int × Int) :
    T_slices_DeleteFunc___impl_EpHold_impl_EpHold___impl_Epochs_act_1_lp0_m N (n + 1) (T_slices_DeleteFunc___impl_EpHold_impl_EpHold___impl_Epochs_act_1_lp0_sh i4 j5 l6 b7) K =
    (bif decide (j5 < (ilen l6)) then
    (bif inb j5 (List.length l6) then
      ((T_impl_Epochs_act_1 N (List.getD l6 (Int.toNat j5) ((0 : Int), (0 : Int))) b7).bind fun o14 =>
        (bif !o14.2.1 then
          (bif inb i4 (List.length l6) then
            (T_slices_DeleteFunc___impl_EpHold_impl_EpHold___impl_Epochs_act_1_lp0_m N n (T_slices_DeleteFunc___impl_EpHold_impl_EpHold___impl_Epochs_act_1_lp0_sh (iadd .i64 i4 (1 : Int)) (iadd .i64 j5 (1 : Int)) (List.set l6 (Int.toNat i4) (List.getD l6 (Int.toNat j5) ((0 : Int), (0 : Int)))) o14.1.1) K) else none)
          else
          (T_slices_DeleteFunc___impl_EpHold_impl_EpHold___impl_Epochs_act_1_lp0_m N n (T_slices_DeleteFunc___impl_EpHold_impl_EpHold___impl_Epochs_act_1_lp0_sh i4 (iadd .i64 j5 (1 : Int)) l6 o14.1.1) K))) else none)
    else
    (K (.exit 0) (T_slices_DeleteFunc___impl_EpHold_impl_EpHold___impl_Epochs_act_1_lp0_e0 i4 j5 (decide (j5 < (ilen l6))) l6 b7))) := by kernel_rfl

theorem T_slices_DeleteFunc___impl_EpHold_impl_EpHold___impl_Epochs_act_1_lp0_eq (N : Nat) {R : Type} (K : Ex → St → Option R) : ∀ (n : Nat) (i4 : Int) (j5 : Int) (l6 : List (Int × Int)) (b7 : Int × Int × Int), T_slices_DeleteFunc___impl_EpHold_impl_EpHold___impl_Epochs_act_1_lp0_m N n (T_slices_DeleteFunc___impl_EpHold_impl_EpHold___impl_Epochs_act_1_lp0_sh i4 j5 l6 b7) K = T_slices_DeleteFunc___impl_EpHold_impl_EpHold___impl_Epochs_act_1_lp0 N (fun i9 j10 t11 l12 b13 => (K (.exit 0) (T_slices_DeleteFunc___impl_EpHold_impl_EpHold___impl_Epochs_act_1_lp0_e0 i9 j10 t11 l12 b13))) n i4 j5 l6 b7
  | 0, _, _, _, _ => rfl
  | n + 1, i4, j5, l6, b7 => by rw [T_slices_DeleteFunc___impl_EpHold_impl_EpHold___impl_Epochs_act_1_lp0_step, T_slices_DeleteFunc___impl_EpHold_impl_EpHold___impl_Epochs_act_1_lp0]; (try simp only [T_slices_DeleteFunc___impl_EpHold_impl_EpHold___impl_Epochs_act_1_lp0_eq N K n])

theorem T_slices_DeleteFunc___impl_EpHold_impl_EpHold___impl_Epochs_act_1_c1 (N : Nat) (i15 : Int) (j16 : Int) (t17 : Bool) (l18 : List (Int × Int)) (b19 : Int × Int × Int) :
    ((ctxK (R := ODen (T_slices_DeleteFunc___impl_EpHold_impl_EpHold___impl_Epochs_act_1_sg N).ps × RDen (T_slices_DeleteFunc___impl_EpHold_impl_EpHold___impl_Epochs_act_1_sg N).rs) tab (T_slices_DeleteFunc___impl_EpHold_impl_EpHold___impl_Epochs_act_1_ctx N) T_slices_DeleteFunc___impl_EpHold_impl_EpHold___impl_Epochs_act_1_ann N (theCode Try.f116) [1, 1, 1, 0, 1, 0] (retK tab (T_slices_DeleteFunc___impl_EpHold_impl_EpHold___impl_Epochs_act_1_sg N) Try.f116.results.toList some)) (.exit 0) (T_slices_DeleteFunc___impl_EpHold_impl_EpHold___impl_Epochs_act_1_lp0_e0 i15 j16 t17 l18 b19)) =
    (bif (decide ((0 : Int) ≤ i15)) && (decide (i15 ≤ ((List.length l18) : Int))) then
    (bif (decide ((0 : Int) ≤ i15)) && (decide (i15 ≤ ((List.length ((List.take (Int.toNat i15) l18) ++ List.replicate ((List.length l18) - (Int.toNat i15)) ((0 : Int), (0 : Int)) ++ (List.drop (List.length l18) l18))) : Int))) then
      (some (α := ODen (T_slices_DeleteFunc___impl_EpHold_impl_EpHold___impl_Epochs_act_1_sg N).ps × RDen (T_slices_DeleteFunc___impl_EpHold_impl_EpHold___impl_Epochs_act_1_sg N).rs) ((b19, ()), (List.take (Int.toNat i15) ((List.take (Int.toNat i15) l18) ++ List.replicate ((List.length l18) - (Int.toNat i15)) ((0 : Int), (0 : Int)) ++ (List.drop (List.length l18) l18)), ()))) else none) else none) := by kernel_rfl

theorem T_slices_DeleteFunc___impl_EpHold_impl_EpHold___impl_Epochs_act_1_den (N : Nat) (s1 : List (Int × Int)) (cap2 : Int × Int × Int) :
    den (R := ODen (T_slices_DeleteFunc___impl_EpHold_impl_EpHold___impl_Epochs_act_1_sg N).ps × RDen (T_slices_DeleteFunc___impl_EpHold_impl_EpHold___impl_Epochs_act_1_sg N).rs) tab (T_slices_DeleteFunc___impl_EpHold_impl_EpHold___impl_Epochs_act_1_ctx N) T_slices_DeleteFunc___impl_EpHold_impl_EpHold___impl_Epochs_act_1_ann N (T_slices_DeleteFunc___impl_EpHold_impl_EpHold___impl_Epochs_act_1_sg N) Try.f116 (s1, cap2, ()) some =
    ((T_slices_IndexFunc___impl_EpHold_impl_EpHold___impl_Epochs_act_1 N s1 cap2).bind fun o3 =>
    (bif o3.2.1 == (-1 : Int) then
      (some (α := ODen (T_slices_DeleteFunc___impl_EpHold_impl_EpHold___impl_Epochs_act_1_sg N).ps × RDen (T_slices_DeleteFunc___impl_EpHold_impl_EpHold___impl_Epochs_act_1_sg N).rs) ((o3.1.1, ()), (s1, ())))
      else
      (T_slices_DeleteFunc___impl_EpHold_impl_EpHold___impl_Epochs_act_1_lp0 N
        (fun i15 j16 t17 l18 b19 =>
          (bif (decide ((0 : Int) ≤ i15)) && (decide (i15 ≤ ((List.length l18) : Int))) then
            (bif (decide ((0 : Int) ≤ i15)) && (decide (i15 ≤ ((List.length ((List.take (Int.toNat i15) l18) ++ List.replicate ((List.length l18) - (Int.toNat i15)) ((0 : Int), (0 : Int)) ++ (List.drop (List.length l18) l18))) : Int))) then
              (some (α := ODen (T_slices_DeleteFunc___impl_EpHold_impl_EpHold___impl_Epochs_act_1_sg N).ps × RDen (T_slices_DeleteFunc___impl_EpHold_impl_EpHold___impl_Epochs_act_1_sg N).rs) ((b19, ()), (List.take (Int.toNat i15) ((List.take (Int.toNat i15) l18) ++ List.replicate ((List.length l18) - (Int.toNat i15)) ((0 : Int), (0 : Int)) ++ (List.drop (List.length l18) l18)), ()))) else none) else none))
         N o3.2.1 (iadd .i64 o3.2.1 (1 : Int)) s1 o3.1.1))) := by
  have h : den (R := ODen (T_slices_DeleteFunc___impl_EpHold_impl_EpHold___impl_Epochs_act_1_sg N).ps × RDen (T_slices_DeleteFunc___impl_EpHold_impl_EpHold___impl_Epochs_act_1_sg N).rs) tab (T_slices_DeleteFunc___impl_EpHold_impl_EpHold___impl_Epochs_act_1_ctx N) T_slices_DeleteFunc___impl_EpHold_impl_EpHold___impl_Epochs_act_1_ann N (T_slices_DeleteFunc___impl_EpHold_impl_EpHold___impl_Epochs_act_1_sg N) Try.f116 (s1, cap2, ()) some =
    ((T_slices_IndexFunc___impl_EpHold_impl_EpHold___impl_Epochs_act_1 N s1 cap2).bind fun o3 =>
    (bif o3.2.1 == (-1 : Int) then
      (some (α := ODen (T_slices_DeleteFunc___impl_EpHold_impl_EpHold___impl_Epochs_act_1_sg N).ps × RDen (T_slices_DeleteFunc___impl_EpHold_impl_EpHold___impl_Epochs_act_1_sg N).rs) ((o3.1.1, ()), (s1, ())))
      else
      (T_slices_DeleteFunc___impl_EpHold_impl_EpHold___impl_Epochs_act_1_lp0_m N N (T_slices_DeleteFunc___impl_EpHold_impl_EpHold___impl_Epochs_act_1_lp0_sh o3.2.1 (iadd .i64 o3.2.1 (1 : Int)) s1 o3.1.1) (ctxK (R := ODen (T_slices_DeleteFunc___impl_EpHold_impl_EpHold___impl_Epochs_act_1_sg N).ps × RDen (T_slices_DeleteFunc___impl_EpHold_impl_EpHold___impl_Epochs_act_1_sg N).rs) tab (T_slices_DeleteFunc___impl_EpHold_impl_EpHold___impl_Epochs_act_1_ctx N) T_slices_DeleteFunc___impl_EpHold_impl_EpHold___impl_Epochs_act_1_ann N (theCode Try.f116) [1, 1, 1, 0, 1, 0] (retK tab (T_slices_DeleteFunc___impl_EpHold_impl_EpHold___impl_Epochs_act_1_sg N) Try.f116.results.toList some))))) := by kernel_rfl
  rw [h]
  (try simp only [T_slices_DeleteFunc___impl_EpHold_impl_EpHold___impl_Epochs_act_1_lp0_eq, T_slices_DeleteFunc___impl_EpHold_impl_EpHold___impl_Epochs_act_1_c1]) <;> rfl

theorem T_slices_DeleteFunc___impl_EpHold_impl_EpHold___impl_Epochs_act_1_ok (N : Nat) : chkBody Try.f116 (T_slices_DeleteFunc___impl_EpHold_impl_EpHold___impl_Epochs_act_1_sg N).ps = true := by kernel_rfl

theorem T_slices_DeleteFunc___impl_EpHold_impl_EpHold___impl_Epochs_act_1_callable : Callable Try.prog 116 := callable_of Try.func116 (show chkFn Try.f116 = true by kernel_rfl)

theorem T_slices_DeleteFunc___impl_EpHold_impl_EpHold___impl_Epochs_act_1_good (N : Nat) : Good Try.prog 116 (T_slices_DeleteFunc___impl_EpHold_impl_EpHold___impl_Epochs_act_1_sg N) :=
  good_body mixedOk tabOk (ctx_cons (T_slices_IndexFunc___impl_EpHold_impl_EpHold___impl_Epochs_act_1_good N) T_slices_IndexFunc___impl_EpHold_impl_EpHold___impl_Epochs_act_1_callable (ctx_cons (T_impl_Epochs_act_1_good N) T_impl_Epochs_act_1_callable ctx_nil)) Try.func116 (T_slices_DeleteFunc___impl_EpHold_impl_EpHold___impl_Epochs_act_1_ok N) (fun d _ h => ⟨N, (T_slices_DeleteFunc___impl_EpHold_impl_EpHold___impl_Epochs_act_1_den N d.1 d.2.1).trans h⟩)

noncomputable def T_slices_Index___impl_EpHold_impl_EpHold__sg (N : Nat) : Sig := Sig.of [.v (.slice (.prod (.int .i64) (.int .i64))) false, .v (.prod (.int .i64) (.int .i64)) true] [.v (.int .i64) false] (fun d => T_slices_Index___impl_EpHold_impl_EpHold_ N d.1 d.2.1)

def T_slices_Index___impl_EpHold_impl_EpHold__ann : Nat → List Ghost
  | 2 => [.canon [0, 3, 7, 8, 9]]
  | 3 => [.canon [0, 3, 5, 7, 8]]
  | 4 => [.canon [0, 3, 5, 7, 8, 16]]
  | 5 => [.canon [4]]
  | 6 => [.canon [0, 3, 7, 8]]
  | 100002 => [.canon [0, 3, 7, 8]]
  | _ => []

noncomputable def T_slices_Index___impl_EpHold_impl_EpHold__ctx (N : Nat) : Ctx := []

def T_slices_Index___impl_EpHold_impl_EpHold__lp0_sh (s3 : List (Int × Int)) (t5 : Int) (b6 : Int × Int) : St := { env := [(0, .s (.one (.val (.slice (.prod (.int .i64) (.int .i64))) (s3 : List (Int × Int))))), (3, .s (.one (.ptr 0 0))), (7, .s (.one (.val (.int .i64) (ilen s3 : Int)))), (8, .s (.one (.val (.int .i64) (t5 : Int))))], objs := [(0, .box [.val (.int .i64) (b6.1 : Int), .val (.int .i64) (b6.2 : Int)])], nx := 1 }

def T_slices_Index___impl_EpHold_impl_EpHold__lp0_e0 (s3 : List (Int × Int)) (b6 : Int × Int) (t7 : Int) : St := { env := [(4, .s (.one (.val (.int .i64) (t7 : Int))))], objs := [], nx := 0 }

def T_slices_Index___impl_EpHold_impl_EpHold__lp0_e1 (s3 : List (Int × Int)) (b6 : Int × Int) (t8 : Int) (t9 : Bool) : St := { env := [(0, .s (.one (.val (.slice (.prod (.int .i64) (.int .i64))) (s3 : List (Int × Int))))), (3, .s (.one (.ptr 0 0))), (7, .s (.one (.val (.int .i64) (ilen s3 : Int)))), (8, .s (.one (.val (.int .i64) (t8 : Int)))), (9, .s (.one (.val (.bool) (t9 : Bool))))], objs := [(0, .box [.val (.int .i64) (b6.1 : Int), .val (.int .i64) (b6.2 : Int)])], nx := 1 }

noncomputable def T_slices_Index___impl_EpHold_impl_EpHold__lp0_m (N : Nat) {R : Type} (n : Nat) (st : St) (K : Ex → St → Option R) : Option R := loopN (roundG (T_slices_Index___impl_EpHold_impl_EpHold__ann 100002) fun st k => sx tab (T_slices_Index___impl_EpHold_impl_EpHold__ctx N) T_slices_Index___impl_EpHold_impl_EpHold__ann N (nthLoop Try.f162 0) st k) n st K

theorem T_slices_Index___impl_EpHold_impl_EpHold__lp0_step (N : Nat) {R : Type} (n : Nat) (K : Ex → St → Option R) (s3 : List (Int × Int)) (t5 : Int) (b6 : Int × Int) :
    T_slices_Index___impl_EpHold_impl_EpHold__lp0_m N (n + 1) (T_slices_Index___impl_EpHold_impl_EpHold__lp0_sh s3 t5 b6) K =
    (bif decide (t5 < (ilen s3)) then
    (bif inb t5 (List.length s3) then
      (bif (ieq b6.1 (List.getD s3 (Int.toNat t5) ((0 : Int), (0 : Int))).1) && ((ieq b6.2 (List.getD s3 (Int.toNat t5) ((0 : Int), (0 : Int))).2) && true) then
        (K .ret (T_slices_Index___impl_EpHold_impl_EpHold__lp0_e0 s3 b6 t5))
        else
        (T_slices_Index___impl_EpHold_impl_EpHold__lp0_m N n (T_slices_Index___impl_EpHold_impl_EpHold__lp0_sh s3 (iadd .i64 t5 (1 : Int)) b6) K)) else none)
    else
    (K (.exit 0) (T_slices_Index___impl_EpHold_impl_EpHold__lp0_e1 s3 b6 t5 (decide (t5 < (ilen s3)))))) := by kernel_rfl

theorem T_slices_Index___impl_EpHold_impl_EpHold__lp0_eq (N : Nat) {R : Type} (s3 : List (Int × Int)) (b6 : Int × Int) (K : Ex → St → Option R) : ∀ (n : Nat) (t5 : Int), T_slices_Index___impl_EpHold_impl_EpHold__lp0_m N n (T_slices_Index___impl_EpHold_impl_EpHold__lp0_sh s3 t5 b6) K = T_slices_Index___impl_EpHold_impl_EpHold__lp0 N s3 b6 (fun t7 => (K .ret (T_slices_Index___impl_EpHold_impl_EpHold__lp0_e0 s3 b6 t7))) (fun t8 t9 => (K (.exit 0) (T_slices_Index___impl_EpHold_impl_EpHold__lp0_e1 s3 b6 t8 t9))) n t5
  | 0, _ => rfl
  | n + 1, t5 => by rw [T_slices_Index___impl_EpHold_impl_EpHold__lp0_step, T_slices_Index___impl_EpHold_impl_EpHold__lp0]; (try simp only [T_slices_Index___impl_EpHold_impl_EpHold__lp0_eq N s3 b6 K n])

theorem T_slices_Index___impl_EpHold_impl_EpHold__c1 (N : Nat) (s1 : List (Int × Int)) (v2 : Int × Int) (t10 : Int) :
    ((ctxK (R := ODen (T_slices_Index___impl_EpHold_impl_EpHold__sg N).ps × RDen (T_slices_Index___impl_EpHold_impl_EpHold__sg N).rs) tab (T_slices_Index___impl_EpHold_impl_EpHold__ctx N) T_slices_Index___impl_EpHold_impl_EpHold__ann N (theCode Try.f162) [1, 0, 1, 0] (retK tab (T_slices_Index___impl_EpHold_impl_EpHold__sg N) Try.f162.results.toList some)) .ret (T_slices_Index___impl_EpHold_impl_EpHold__lp0_e0 s1 v2 t10)) =
    (some (α := ODen (T_slices_Index___impl_EpHold_impl_EpHold__sg N).ps × RDen (T_slices_Index___impl_EpHold_impl_EpHold__sg N).rs) ((), (t10, ()))) := by kernel_rfl

theorem T_slices_Index___impl_EpHold_impl_EpHold__c2 (N : Nat) (s1 : List (Int × Int)) (v2 : Int × Int) (t11 : Int) (t12 : Bool) :
    ((ctxK (R := ODen (T_slices_Index___impl_EpHold_impl_EpHold__sg N).ps × RDen (T_slices_Index___impl_EpHold_impl_EpHold__sg N).rs) tab (T_slices_Index___impl_EpHold_impl_EpHold__ctx N) T_slices_Index___impl_EpHold_impl_EpHold__ann N (theCode Try.f162) [1, 0, 1, 0] (retK tab (T_slices_Index___impl_EpHold_impl_EpHold__sg N) Try.f162.results.toList some)) (.exit 0) (T_slices_Index___impl_EpHold_impl_EpHold__lp0_e1 s1 v2 t11 t12)) =
    (some (α := ODen (T_slices_Index___impl_EpHold_impl_EpHold__sg N).ps × RDen (T_slices_Index___impl_EpHold_impl_EpHold__sg N).rs) ((), ((-1 : Int), ()))) := by kernel_rfl

theorem T_slices_Index___impl_EpHold_impl_EpHold__den (N : Nat) (s1 : List (Int × Int)) (v2 : Int × Int) :
    den (R := ODen (T_slices_Index___impl_EpHold_impl_EpHold__sg N).ps × RDen (T_slices_Index___impl_EpHold_impl_EpHold__sg N).rs) tab (T_slices_Index___impl_EpHold_impl_EpHold__ctx N) T_slices_Index___impl_EpHold_impl_EpHold__ann N (T_slices_Index___impl_EpHold_impl_EpHold__sg N) Try.f162 (s1, v2, ()) some =
    (T_slices_Index___impl_EpHold_impl_EpHold__lp0 N s1 v2
    (fun t10 =>
      (some (α := ODen (T_slices_Index___impl_EpHold_impl_EpHold__sg N).ps × RDen (T_slices_Index___impl_EpHold_impl_EpHold__sg N).rs) ((), (t10, ()))))
    (fun t11 t12 =>
      (some (α := ODen (T_slices_Index___impl_EpHold_impl_EpHold__sg N).ps × RDen (T_slices_Index___impl_EpHold_impl_EpHold__sg N).rs) ((), ((-1 : Int), ()))))
     N (0 : Int)) := by
  have h : den (R := ODen (T_slices_Index___impl_EpHold_impl_EpHold__sg N).ps × RDen (T_slices_Index___impl_EpHold_impl_EpHold__sg N).rs) tab (T_slices_Index___impl_EpHold_impl_EpHold__ctx N) T_slices_Index___impl_EpHold_impl_EpHold__ann N (T_slices_Index___impl_EpHold_impl_EpHold__sg N) Try.f162 (s1, v2, ()) some =
    (T_slices_Index___impl_EpHold_impl_EpHold__lp0_m N N (T_slices_Index___impl_EpHold_impl_EpHold__lp0_sh s1 (0 : Int) v2) (ctxK (R := ODen (T_slices_Index___impl_EpHold_impl_EpHold__sg N).ps × RDen (T_slices_Index___impl_EpHold_impl_EpHold__sg N).rs) tab (T_slices_Index___impl_EpHold_impl_EpHold__ctx N) T_slices_Index___impl_EpHold_impl_EpHold__ann N (theCode Try.f162) [1, 0, 1, 0] (retK tab (T_slices_Index___impl_EpHold_impl_EpHold__sg N) Try.f162.results.toList some))) := by kernel_rfl
  rw [h]
  (try simp only [T_slices_Index___impl_EpHold_impl_EpHold__lp0_eq, T_slices_Index___impl_EpHold_impl_EpHold__c1, T_slices_Index___impl_EpHold_impl_EpHold__c2]) <;> rfl

theorem T_slices_Index___impl_EpHold_impl_EpHold__ok (N : Nat) : chkBody Try.f162 (T_slices_Index___impl_EpHold_impl_EpHold__sg N).ps = true := by kernel_rfl

theorem T_slices_Index___impl_EpHold_impl_EpHold__callable : Callable Try.prog 162 := callable_of Try.func162 (show chkFn Try.f162 = true by kernel_rfl)

theorem T_slices_Index___impl_EpHold_impl_EpHold__good (N : Nat) : Good Try.prog 162 (T_slices_Index___impl_EpHold_impl_EpHold__sg N) :=
  good_body mixedOk tabOk ctx_nil Try.func162 (T_slices_Index___impl_EpHold_impl_EpHold__ok N) (fun d _ h => ⟨N, (T_slices_Index___impl_EpHold_impl_EpHold__den N d.1 d.2.1).trans h⟩)

noncomputable def T_slices_Contains___impl_EpHold_impl_EpHold__sg (N : Nat) : Sig := Sig.of [.v (.slice (.prod (.int .i64) (.int .i64))) false, .v (.prod (.int .i64) (.int .i64)) true] [.v (.bool) false] (fun d => T_slices_Contains___impl_EpHold_impl_EpHold_ N d.1 d.2.1)

def T_slices_Contains___impl_EpHold_impl_EpHold__ann : Nat → List Ghost
  | _ => []

noncomputable def T_slices_Contains___impl_EpHold_impl_EpHold__ctx (N : Nat) : Ctx := [(162, T_slices_Index___impl_EpHold_impl_EpHold__sg N)]

theorem T_slices_Contains___impl_EpHold_impl_EpHold__den (N : Nat) (s1 : List (Int × Int)) (v2 : Int × Int) :
    den (R := ODen (T_slices_Contains___impl_EpHold_impl_EpHold__sg N).ps × RDen (T_slices_Contains___impl_EpHold_impl_EpHold__sg N).rs) tab (T_slices_Contains___impl_EpHold_impl_EpHold__ctx N) T_slices_Contains___impl_EpHold_impl_EpHold__ann N (T_slices_Contains___impl_EpHold_impl_EpHold__sg N) Try.f118 (s1, v2, ()) some =
    ((T_slices_Index___impl_EpHold_impl_EpHold_ N s1 v2).bind fun o3 =>
    (some (α := ODen (T_slices_Contains___impl_EpHold_impl_EpHold__sg N).ps × RDen (T_slices_Contains___impl_EpHold_impl_EpHold__sg N).rs) ((), (decide (o3.2.1 ≥ (0 : Int)), ())))) := by kernel_rfl

theorem T_slices_Contains___impl_EpHold_impl_EpHold__ok (N : Nat) : chkBody Try.f118 (T_slices_Contains___impl_EpHold_impl_EpHold__sg N).ps = true := by kernel_rfl

theorem T_slices_Contains___impl_EpHold_impl_EpHold__callable : Callable Try.prog 118 := callable_of Try.func118 (show chkFn Try.f118 = true by kernel_rfl)

theorem T_slices_Contains___impl_EpHold_impl_EpHold__good (N : Nat) : Good Try.prog 118 (T_slices_Contains___impl_EpHold_impl_EpHold__sg N) :=
  good_body mixedOk tabOk (ctx_cons (T_slices_Index___impl_EpHold_impl_EpHold__good N) T_slices_Index___impl_EpHold_impl_EpHold__callable ctx_nil) Try.func118 (T_slices_Contains___impl_EpHold_impl_EpHold__ok N) (fun d _ h => ⟨N, (T_slices_Contains___impl_EpHold_impl_EpHold__den N d.1 d.2.1).trans h⟩)

noncomputable def T_impl_Epochs_act_sg (N : Nat) : Sig := Sig.of [.box (.prod (.int .i64) (.prod (.own (.int .i64)) (.prod (.own (.bool)) (.prod (.own (.prod (.int .i64) (.int .i64))) (.prod (.own (.prod (.int .i64) (.int .i64))) (.own (.int .i64))))))), .v (.prod (.int .i64) (.prod (.int .i64) (.int .i64))) true] [] (fun d => T_impl_Epochs_act N d.1 d.2.1)

def T_impl_Epochs_act_ann : Nat → List Ghost
  | _ => []

noncomputable def T_impl_Epochs_act_ctx (N : Nat) : Ctx := [(56, T_impl_Epochs_move_sg N), (61, T_impl_within_sg N), (116, T_slices_DeleteFunc___impl_EpHold_impl_EpHold___impl_Epochs_act_1_sg N), (118, T_slices_Contains___impl_EpHold_impl_EpHold__sg N)]

theorem T_impl_Epochs_act_den (N : Nat) (e1 : Int × List Int × List Bool × List (Int × Int) × List (Int × Int) × List Int) (a2 : Int × Int × Int) :
    den (R := ODen (T_impl_Epochs_act_sg N).ps × RDen (T_impl_Epochs_act_sg N).rs) tab (T_impl_Epochs_act_ctx N) T_impl_Epochs_act_ann N (T_impl_Epochs_act_sg N) Try.f55 (e1, a2, ()) some =
    (bif a2.1 == (5 : Int) then
    ((T_impl_Epochs_move N e1).bind fun o3 =>
      (some (α := ODen (T_impl_Epochs_act_sg N).ps × RDen (T_impl_Epochs_act_sg N).rs) ((o3.1.1, ()), ())))
    else
    ((T_impl_within N a2.2.1 (0 : Int) (2 : Int)).bind fun o4 =>
      (bif !o4.2.1 then
        (some (α := ODen (T_impl_Epochs_act_sg N).ps × RDen (T_impl_Epochs_act_sg N).rs) ((e1, ()), ()))
        else
        ((T_impl_within N a2.2.2 (0 : Int) (9 : Int)).bind fun o5 =>
          (bif !o5.2.1 then
            (some (α := ODen (T_impl_Epochs_act_sg N).ps × RDen (T_impl_Epochs_act_sg N).rs) ((e1, ()), ()))
            else
            (bif inb a2.2.1 (List.length e1.2.1) then
              (bif a2.1 == (1 : Int) then
                (bif (List.getD e1.2.1 (Int.toNat a2.2.1) (0 : Int)) == (-1 : Int) then
                  (bif inb a2.2.1 (List.length e1.2.1) then
                    (some (α := ODen (T_impl_Epochs_act_sg N).ps × RDen (T_impl_Epochs_act_sg N).rs) (((e1.1, (List.set e1.2.1 (Int.toNat a2.2.1) e1.1, e1.2.2)), ()), ())) else none)
                  else
                  (some (α := ODen (T_impl_Epochs_act_sg N).ps × RDen (T_impl_Epochs_act_sg N).rs) ((e1, ()), ())))
                else
                (bif a2.1 == (2 : Int) then
                  (bif inb a2.2.1 (List.length e1.2.1) then
                    ((T_slices_DeleteFunc___impl_EpHold_impl_EpHold___impl_Epochs_act_1 N e1.2.2.2.2.1 a2).bind fun o6 =>
                      (some (α := ODen (T_impl_Epochs_act_sg N).ps × RDen (T_impl_Epochs_act_sg N).rs) (((e1.1, (List.set e1.2.1 (Int.toNat a2.2.1) (-1 : Int), (e1.2.2.1, (e1.2.2.2.1, (o6.2.1, e1.2.2.2.2.2))))), ()), ()))) else none)
                  else
                  (bif a2.1 == (3 : Int) then
                    (bif (List.getD e1.2.1 (Int.toNat a2.2.1) (0 : Int)) != (-1 : Int) then
                      (bif inb a2.2.2 (List.length e1.2.2.1) then
                        (bif List.getD e1.2.2.1 (Int.toNat a2.2.2) false then
                          ((T_slices_Contains___impl_EpHold_impl_EpHold_ N e1.2.2.2.2.1 a2.2).bind fun o7 =>
                            (bif !o7.2.1 then
                              (bif room ((List.length e1.2.2.2.2.1) + (List.length ([a2.2]))) then
                                (some (α := ODen (T_impl_Epochs_act_sg N).ps × RDen (T_impl_Epochs_act_sg N).rs) (((e1.1, (e1.2.1, (e1.2.2.1, (e1.2.2.2.1, (List.append e1.2.2.2.2.1 ([a2.2]), e1.2.2.2.2.2))))), ()), ())) else none)
                              else
                              (some (α := ODen (T_impl_Epochs_act_sg N).ps × RDen (T_impl_Epochs_act_sg N).rs) ((e1, ()), ()))))
                          else
                          (some (α := ODen (T_impl_Epochs_act_sg N).ps × RDen (T_impl_Epochs_act_sg N).rs) ((e1, ()), ()))) else none)
                      else
                      (some (α := ODen (T_impl_Epochs_act_sg N).ps × RDen (T_impl_Epochs_act_sg N).rs) ((e1, ()), ())))
                    else
                    (bif a2.1 == (4 : Int) then
                      (bif (List.getD e1.2.1 (Int.toNat a2.2.1) (0 : Int)) != (-1 : Int) then
                        (bif inb a2.2.2 (List.length e1.2.2.1) then
                          (bif List.getD e1.2.2.1 (Int.toNat a2.2.2) false then
                            (bif inb a2.2.2 (List.length e1.2.2.1) then
                              (bif room ((List.length e1.2.2.2.1) + (List.length ([(a2.2.2, e1.1)]))) then
                                (some (α := ODen (T_impl_Epochs_act_sg N).ps × RDen (T_impl_Epochs_act_sg N).rs) (((e1.1, (e1.2.1, (List.set e1.2.2.1 (Int.toNat a2.2.2) false, (List.append e1.2.2.2.1 ([(a2.2.2, e1.1)]), e1.2.2.2.2)))), ()), ())) else none) else none)
                            else
                            (some (α := ODen (T_impl_Epochs_act_sg N).ps × RDen (T_impl_Epochs_act_sg N).rs) ((e1, ()), ()))) else none)
                        else
                        (some (α := ODen (T_impl_Epochs_act_sg N).ps × RDen (T_impl_Epochs_act_sg N).rs) ((e1, ()), ())))
                      else
                      (some (α := ODen (T_impl_Epochs_act_sg N).ps × RDen (T_impl_Epochs_act_sg N).rs) ((e1, ()), ())))))) else none)))))) := by kernel_rfl

theorem T_impl_Epochs_act_ok (N : Nat) : chkBody Try.f55 (T_impl_Epochs_act_sg N).ps = true := by kernel_rfl

theorem T_impl_Epochs_act_callable : Callable Try.prog 55 := callable_of Try.func55 (show chkFn Try.f55 = true by kernel_rfl)

theorem T_impl_Epochs_act_good (N : Nat) : Good Try.prog 55 (T_impl_Epochs_act_sg N) :=
  good_body mixedOk tabOk (ctx_cons (T_impl_Epochs_move_good N) T_impl_Epochs_move_callable (ctx_cons (T_impl_within_good N) T_impl_within_callable (ctx_cons (T_slices_DeleteFunc___impl_EpHold_impl_EpHold___impl_Epochs_act_1_good N) T_slices_DeleteFunc___impl_EpHold_impl_EpHold___impl_Epochs_act_1_callable (ctx_cons (T_slices_Contains___impl_EpHold_impl_EpHold__good N) T_slices_Contains___impl_EpHold_impl_EpHold__callable ctx_nil)))) Try.func55 (T_impl_Epochs_act_ok N) (fun d _ h => ⟨N, (T_impl_Epochs_act_den N d.1 d.2.1).trans h⟩)

noncomputable def T_impl_EpochPlay_sg (N : Nat) : Sig := Sig.of [.v (.slice (.prod (.int .i64) (.prod (.int .i64) (.int .i64)))) false] [.v (.prod (.int .i64) (.prod (.own (.int .i64)) (.prod (.own (.bool)) (.prod (.own (.prod (.int .i64) (.int .i64))) (.prod (.own (.prod (.int .i64) (.int .i64))) (.own (.int .i64))))))) true] (fun d => T_impl_EpochPlay N d.1)

def T_impl_EpochPlay_ann : Nat → List Ghost
  | 5 => [.canon [0, 2, 3, 11, 12]]
  | 6 => [.canon [0, 2, 3, 11]]
  | 7 => [.canon [0, 2, 3, 11]]
  | 9 => [.canon [0, 2, 3, 19, 20]]
  | 10 => [.canon [0, 2, 3, 19]]
  | 11 => [.canon [0, 2, 3, 19]]
  | 13 => [.canon [2, 3, 27, 28, 29, 30]]
  | 14 => [.canon [2, 3, 5, 27, 28, 29]]
  | 15 => [.canon [2, 3, 27, 28, 29]]
  | 16 => [.canon [2, 3, 27, 28, 29]]
  | 100005 => [.adoptC 3 1 (.int .i64), .canon [0, 2, 3, 11]]
  | 100009 => [.adoptC 3 2 (.bool), .canon [0, 2, 3, 19]]
  | 100013 => [.adoptC 3 3 (.prod (.int .i64) (.int .i64)), .adoptC 3 4 (.prod (.int .i64) (.int .i64)), .adoptC 3 5 (.int .i64), .canon [2, 3, 27, 28, 29]]
  | _ => []

noncomputable def T_impl_EpochPlay_ctx (N : Nat) : Ctx := [(55, T_impl_Epochs_act_sg N)]

def T_impl_EpochPlay_lp0_sh (acts2 : List (Int × Int × Int)) (t3 : Int) (l6 : List Int) : St := { env := [(0, .s (.one (.val (.slice (.prod (.int .i64) (.prod (.int .i64) (.int .i64)))) (acts2 : List (Int × Int × Int))))), (2, .s (.one (.ptr 0 0))), (3, .s (.one (.ptr 1 0))), (11, .s (.one (.val (.int .i64) (t3 : Int))))], objs := [(0, .box [.val (.int .i64) ((0 : Int) : Int), .nils, .nils, .nils, .nils, .nils]), (1, .box [.val (.int .i64) ((0 : Int) : Int), .own 2, .nils, .nils, .nils, .nils]), (2, .arr (.int .i64) (l6 : List Int))], nx := 3 }

def T_impl_EpochPlay_lp0_e0 (acts2 : List (Int × Int × Int)) (t7 : Int) (t8 : Bool) (l9 : List Int) : St := { env := [(0, .s (.one (.val (.slice (.prod (.int .i64) (.prod (.int .i64) (.int .i64)))) (acts2 : List (Int × Int × Int))))), (2, .s (.one (.ptr 0 0))), (3, .s (.one (.ptr 1 0))), (11, .s (.one (.val (.int .i64) (t7 : Int)))), (12, .s (.one (.val (.bool) (t8 : Bool))))], objs := [(0, .box [.val (.int .i64) ((0 : Int) : Int), .nils, .nils, .nils, .nils, .nils]), (1, .box [.val (.int .i64) ((0 : Int) : Int), .own 2, .nils, .nils, .nils, .nils]), (2, .arr (.int .i64) (l9 : List Int))], nx := 3 }

noncomputable def T_impl_EpochPlay_lp0_m (N : Nat) {R : Type} (n : Nat) (st : St) (K : Ex → St → Option R) : Option R := loopN (roundG (T_impl_EpochPlay_ann 100005) fun st k => sx tab (T_impl_EpochPlay_ctx N) T_impl_EpochPlay_ann N (nthLoop Try.f11 0) st k) n st K

theorem T_impl_EpochPlay_lp0_step (N : Nat) {R : Type} (n : Nat) (K : Ex → St → Option R) (acts2 : List (Int × Int × Int)) (t3 : Int) (l6 : List Int) :
    T_impl_EpochPlay_lp0_m N (n + 1) (T_impl_EpochPlay_lp0_sh acts2 t3 l6) K =
    (bif decide (t3 < (3 : Int)) then
    (bif room ((List.length l6) + (List.length ([(-1 : Int)]))) then
      (T_impl_EpochPlay_lp0_m N n (T_impl_EpochPlay_lp0_sh acts2 (iadd .i64 t3 (1 : Int)) (List.append l6 ([(-1 : Int)]))) K) else none)
    else
    (K (.exit 0) (T_impl_EpochPlay_lp0_e0 acts2 t3 (decide (t3 < (3 : Int))) l6))) := by kernel_rfl

theorem T_impl_EpochPlay_lp0_eq (N : Nat) {R : Type} (acts2 : List (Int × Int × Int)) (K : Ex → St → Option R) : ∀ (n : Nat) (t3 : Int) (l6 : List Int), T_impl_EpochPlay_lp0_m N n (T_impl_EpochPlay_lp0_sh acts2 t3 l6) K = T_impl_EpochPlay_lp0 N acts2 (fun t7 t8 l9 => (K (.exit 0) (T_impl_EpochPlay_lp0_e0 acts2 t7 t8 l9))) n t3 l6
  | 0, _, _ => rfl
  | n + 1, t3, l6 => by rw [T_impl_EpochPlay_lp0_step, T_impl_EpochPlay_lp0]; (try simp only [T_impl_EpochPlay_lp0_eq N acts2 K n])

def T_impl_EpochPlay_lp1_sh (acts13 : List (Int × Int × Int)) (t14 : Int) (l17 : List Int) (l18 : List Bool) : St := { env := [(0, .s (.one (.val (.slice (.prod (.int .i64) (.prod (.int .i64) (.int .i64)))) (acts13 : List (Int × Int × Int))))), (2, .s (.one (.ptr 0 0))), (3, .s (.one (.ptr 1 0))), (19, .s (.one (.val (.int .i64) (t14 : Int))))], objs := [(0, .box [.val (.int .i64) ((0 : Int) : Int), .nils, .nils, .nils, .nils, .nils]), (1, .box [.val (.int .i64) ((0 : Int) : Int), .own 2, .own 3, .nils, .nils, .nils]), (2, .arr (.int .i64) (l17 : List Int)), (3, .arr (.bool) (l18 : List Bool))], nx := 4 }

def T_impl_EpochPlay_lp1_e0 (acts13 : List (Int × Int × Int)) (l17 : List Int) (t19 : Int) (t20 : Bool) (l21 : List Bool) : St := { env := [(0, .s (.one (.val (.slice (.prod (.int .i64) (.prod (.int .i64) (.int .i64)))) (acts13 : List (Int × Int × Int))))), (2, .s (.one (.ptr 0 0))), (3, .s (.one (.ptr 1 0))), (19, .s (.one (.val (.int .i64) (t19 : Int)))), (20, .s (.one (.val (.bool) (t20 : Bool))))], objs := [(0, .box [.val (.int .i64) ((0 : Int) : Int), .nils, .nils, .nils, .nils, .nils]), (1, .box [.val (.int .i64) ((0 : Int) : Int), .own 2, .own 3, .nils, .nils, .nils]), (2, .arr (.int .i64) (l17 : List Int)), (3, .arr (.bool) (l21 : List Bool))], nx := 4 }

noncomputable def T_impl_EpochPlay_lp1_m (N : Nat) {R : Type} (n : Nat) (st : St) (K : Ex → St → Option R) : Option R := loopN (roundG (T_impl_EpochPlay_ann 100009) fun st k => sx tab (T_impl_EpochPlay_ctx N) T_impl_EpochPlay_ann N (nthLoop Try.f11 1) st k) n st K

theorem T_impl_EpochPlay_lp1_step (N : Nat) {R : Type} (n : Nat) (K : Ex → St → Option R) (acts13 : List (Int × Int × Int)) (t14 : Int) (l17 : List Int) (l18 : List Bool) :
    T_impl_EpochPlay_lp1_m N (n + 1) (T_impl_EpochPlay_lp1_sh acts13 t14 l17 l18) K =
    (bif decide (t14 < (10 : Int)) then
    (bif room ((List.length l18) + (List.length ([true]))) then
      (T_impl_EpochPlay_lp1_m N n (T_impl_EpochPlay_lp1_sh acts13 (iadd .i64 t14 (1 : Int)) l17 (List.append l18 ([true]))) K) else none)
    else
    (K (.exit 2) (T_impl_EpochPlay_lp1_e0 acts13 l17 t14 (decide (t14 < (10 : Int))) l18))) := by kernel_rfl

theorem T_impl_EpochPlay_lp1_eq (N : Nat) {R : Type} (acts13 : List (Int × Int × Int)) (l17 : List Int) (K : Ex → St → Option R) : ∀ (n : Nat) (t14 : Int) (l18 : List Bool), T_impl_EpochPlay_lp1_m N n (T_impl_EpochPlay_lp1_sh acts13 t14 l17 l18) K = T_impl_EpochPlay_lp1 N acts13 l17 (fun t19 t20 l21 => (K (.exit 2) (T_impl_EpochPlay_lp1_e0 acts13 l17 t19 t20 l21))) n t14 l18
  | 0, _, _ => rfl
  | n + 1, t14, l18 => by rw [T_impl_EpochPlay_lp1_step, T_impl_EpochPlay_lp1]; (try simp only [T_impl_EpochPlay_lp1_eq N acts13 l17 K n])

def T_impl_EpochPlay_lp2_sh (t25 : List (Int × Int × Int)) (t27 : Int) (b29 : Int) (l30 : List Int) (l31 : List Bool) (l32 : List (Int × Int)) (l33 : List (Int × Int)) (l34 : List Int) : St := { env := [(2, .s (.one (.ptr 0 0))), (3, .s (.one (.ptr 1 0))), (27, .s (.one (.val (.slice (.prod (.int .i64) (.prod (.int .i64) (.int .i64)))) (t25 : List (Int × Int × Int))))), (28, .s (.one (.val (.int .i64) (ilen t25 : Int)))), (29, .s (.one (.val (.int .i64) (t27 : Int))))], objs := [(0, .box [.val (.int .i64) ((0 : Int) : Int), .nils, .nils, .nils, .nils, .nils]), (1, .box [.val (.int .i64) (b29 : Int), .own 2, .own 3, .own 4, .own 5, .own 6]), (2, .arr (.int .i64) (l30 : List Int)), (3, .arr (.bool) (l31 : List Bool)), (4, .arr (.prod (.int .i64) (.int .i64)) (l32 : List (Int × Int))), (5, .arr (.prod (.int .i64) (.int .i64)) (l33 : List (Int × Int))), (6, .arr (.int .i64) (l34 : List Int))], nx := 7 }

def T_impl_EpochPlay_lp2_e0 (t25 : List (Int × Int × Int)) (t37 : Int) (t38 : Bool) (b39 : Int) (l40 : List Int) (l41 : List Bool) (l42 : List (Int × Int)) (l43 : List (Int × Int)) (l44 : List Int) : St := { env := [(2, .s (.one (.ptr 0 0))), (3, .s (.one (.ptr 1 0))), (27, .s (.one (.val (.slice (.prod (.int .i64) (.prod (.int .i64) (.int .i64)))) (t25 : List (Int × Int × Int))))), (28, .s (.one (.val (.int .i64) (ilen t25 : Int)))), (29, .s (.one (.val (.int .i64) (t37 : Int)))), (30, .s (.one (.val (.bool) (t38 : Bool))))], objs := [(0, .box [.val (.int .i64) ((0 : Int) : Int), .nils, .nils, .nils, .nils, .nils]), (1, .box [.val (.int .i64) (b39 : Int), .own 2, .own 3, .own 4, .own 5, .own 6]), (2, .arr (.int .i64) (l40 : List Int)), (3, .arr (.bool) (l41 : List Bool)), (4, .arr (.prod (.int .i64) (.int .i64)) (l42 : List (Int × Int))), (5, .arr (.prod (.int .i64) (.int .i64)) (l43 : List (Int × Int))), (6, .arr (.int .i64) (l44 : List Int))], nx := 7 }

noncomputable def T_impl_EpochPlay_lp2_m (N : Nat) {R : Type} (n : Nat) (st : St) (K : Ex → St → Option R) : Option R := loopN (roundG (T_impl_EpochPlay_ann 100013) fun st k => sx tab (T_impl_EpochPlay_ctx N) T_impl_EpochPlay_ann N (nthLoop Try.f11 2) st k) n st K

theorem T_impl_EpochPlay_lp2_step (N : Nat) {R : Type} (n : Nat) (K : Ex → St → Option R) (t25 : List (Int × Int × Int)) (t27 : Int) (b29 : Int) (l30 : List Int) (l31 : List Bool) (l32 : List (Int × Int)) (l33 : List (Int × Int)) (l34 : List Int) :
    T_impl_EpochPlay_lp2_m N (n + 1) (T_impl_EpochPlay_lp2_sh t25 t27 b29 l30 l31 l32 l33 l34) K =
    (bif decide (t27 < (ilen t25)) then
    (bif inb t27 (List.length t25) then
      ((T_impl_Epochs_act N (b29, (l30, (l31, (l32, (l33, l34))))) (List.getD t25 (Int.toNat t27) ((0 : Int), ((0 : Int), (0 : Int))))).bind fun o45 =>
        (T_impl_EpochPlay_lp2_m N n (T_impl_EpochPlay_lp2_sh t25 (iadd .i64 t27 (1 : Int)) o45.1.1.1 o45.1.1.2.1 o45.1.1.2.2.1 o45.1.1.2.2.2.1 o45.1.1.2.2.2.2.1 o45.1.1.2.2.2.2.2) K)) else none)
    else
    (K (.exit 4) (T_impl_EpochPlay_lp2_e0 t25 t27 (decide (t27 < (ilen t25))) b29 l30 l31 l32 l33 l34))) := by kernel_rfl

theorem T_impl_EpochPlay_lp2_eq (N : Nat) {R : Type} (t25 : List (Int × Int × Int)) (K : Ex → St → Option R) : ∀ (n : Nat) (t27 : Int) (b29 : Int) (l30 : List Int) (l31 : List Bool) (l32 : List (Int × Int)) (l33 : List (Int × Int)) (l34 : List Int), T_impl_EpochPlay_lp2_m N n (T_impl_EpochPlay_lp2_sh t25 t27 b29 l30 l31 l32 l33 l34) K = T_impl_EpochPlay_lp2 N t25 (fun t37 t38 b39 l40 l41 l42 l43 l44 => (K (.exit 4) (T_impl_EpochPlay_lp2_e0 t25 t37 t38 b39 l40 l41 l42 l43 l44))) n t27 b29 l30 l31 l32 l33 l34
  | 0, _, _, _, _, _, _, _ => rfl
  | n + 1, t27, b29, l30, l31, l32, l33, l34 => by rw [T_impl_EpochPlay_lp2_step, T_impl_EpochPlay_lp2]; (try simp only [T_impl_EpochPlay_lp2_eq N t25 K n])

theorem T_impl_EpochPlay_c3 (N : Nat) (acts1 : List (Int × Int × Int)) (t46 : Int) (t47 : Bool) (b48 : Int) (l49 : List Int) (l50 : List Bool) (l51 : List (Int × Int)) (l52 : List (Int × Int)) (l53 : List Int) :
    ((ctxK (R := ODen (T_impl_EpochPlay_sg N).ps × RDen (T_impl_EpochPlay_sg N).rs) tab (T_impl_EpochPlay_ctx N) T_impl_EpochPlay_ann N (theCode Try.f11) [1, 1, 1, 1, 1, 0, 1, 0] (retK tab (T_impl_EpochPlay_sg N) Try.f11.results.toList some)) (.exit 4) (T_impl_EpochPlay_lp2_e0 acts1 t46 t47 b48 l49 l50 l51 l52 l53)) =
    (some (α := ODen (T_impl_EpochPlay_sg N).ps × RDen (T_impl_EpochPlay_sg N).rs) ((), ((b48, (l49, (l50, (l51, (l52, l53))))), ()))) := by kernel_rfl

theorem T_impl_EpochPlay_c2 (N : Nat) (acts1 : List (Int × Int × Int)) (l12 : List Int) (t22 : Int) (t23 : Bool) (l24 : List Bool) :
    ((ctxK (R := ODen (T_impl_EpochPlay_sg N).ps × RDen (T_impl_EpochPlay_sg N).rs) tab (T_impl_EpochPlay_ctx N) T_impl_EpochPlay_ann N (theCode Try.f11) [1, 1, 1, 1, 0, 1, 0] (retK tab (T_impl_EpochPlay_sg N) Try.f11.results.toList some)) (.exit 2) (T_impl_EpochPlay_lp1_e0 acts1 l12 t22 t23 l24)) =
    (T_impl_EpochPlay_lp2 N acts1
    (fun t46 t47 b48 l49 l50 l51 l52 l53 =>
      (some (α := ODen (T_impl_EpochPlay_sg N).ps × RDen (T_impl_EpochPlay_sg N).rs) ((), ((b48, (l49, (l50, (l51, (l52, l53))))), ()))))
     N (0 : Int) (0 : Int) l12 l24 ([] : List (Int × Int)) ([] : List (Int × Int)) ([] : List Int)) := by
  have h : ((ctxK (R := ODen (T_impl_EpochPlay_sg N).ps × RDen (T_impl_EpochPlay_sg N).rs) tab (T_impl_EpochPlay_ctx N) T_impl_EpochPlay_ann N (theCode Try.f11) [1, 1, 1, 1, 0, 1, 0] (retK tab (T_impl_EpochPlay_sg N) Try.f11.results.toList some)) (.exit 2) (T_impl_EpochPlay_lp1_e0 acts1 l12 t22 t23 l24)) =
    (T_impl_EpochPlay_lp2_m N N (T_impl_EpochPlay_lp2_sh acts1 (0 : Int) (0 : Int) l12 l24 ([] : List (Int × Int)) ([] : List (Int × Int)) ([] : List Int)) (ctxK (R := ODen (T_impl_EpochPlay_sg N).ps × RDen (T_impl_EpochPlay_sg N).rs) tab (T_impl_EpochPlay_ctx N) T_impl_EpochPlay_ann N (theCode Try.f11) [1, 1, 1, 1, 1, 0, 1, 0] (retK tab (T_impl_EpochPlay_sg N) Try.f11.results.toList some))) := by kernel_rfl
  rw [h]
  (try simp only [T_impl_EpochPlay_lp2_eq, T_impl_EpochPlay_c3]) <;> rfl

theorem T_impl_EpochPlay_c1 (N : Nat) (acts1 : List (Int × Int × Int)) (t10 : Int) (t11 : Bool) (l12 : List Int) :
    ((ctxK (R := ODen (T_impl_EpochPlay_sg N).ps × RDen (T_impl_EpochPlay_sg N).rs) tab (T_impl_EpochPlay_ctx N) T_impl_EpochPlay_ann N (theCode Try.f11) [1, 1, 1, 0, 1, 0] (retK tab (T_impl_EpochPlay_sg N) Try.f11.results.toList some)) (.exit 0) (T_impl_EpochPlay_lp0_e0 acts1 t10 t11 l12)) =
    (T_impl_EpochPlay_lp1 N acts1 l12
    (fun t22 t23 l24 =>
      (T_impl_EpochPlay_lp2 N acts1
        (fun t46 t47 b48 l49 l50 l51 l52 l53 =>
          (some (α := ODen (T_impl_EpochPlay_sg N).ps × RDen (T_impl_EpochPlay_sg N).rs) ((), ((b48, (l49, (l50, (l51, (l52, l53))))), ()))))
         N (0 : Int) (0 : Int) l12 l24 ([] : List (Int × Int)) ([] : List (Int × Int)) ([] : List Int)))
     N (0 : Int) ([] : List Bool)) := by
  have h : ((ctxK (R := ODen (T_impl_EpochPlay_sg N).ps × RDen (T_impl_EpochPlay_sg N).rs) tab (T_impl_EpochPlay_ctx N) T_impl_EpochPlay_ann N (theCode Try.f11) [1, 1, 1, 0, 1, 0] (retK tab (T_impl_EpochPlay_sg N) Try.f11.results.toList some)) (.exit 0) (T_impl_EpochPlay_lp0_e0 acts1 t10 t11 l12)) =
    (T_impl_EpochPlay_lp1_m N N (T_impl_EpochPlay_lp1_sh acts1 (0 : Int) l12 ([] : List Bool)) (ctxK (R := ODen (T_impl_EpochPlay_sg N).ps × RDen (T_impl_EpochPlay_sg N).rs) tab (T_impl_EpochPlay_ctx N) T_impl_EpochPlay_ann N (theCode Try.f11) [1, 1, 1, 1, 0, 1, 0] (retK tab (T_impl_EpochPlay_sg N) Try.f11.results.toList some))) := by kernel_rfl
  rw [h]
  (try simp only [T_impl_EpochPlay_lp1_eq, T_impl_EpochPlay_c2]) <;> rfl

theorem T_impl_EpochPlay_den (N : Nat) (acts1 : List (Int × Int × Int)) :
    den (R := ODen (T_impl_EpochPlay_sg N).ps × RDen (T_impl_EpochPlay_sg N).rs) tab (T_impl_EpochPlay_ctx N) T_impl_EpochPlay_ann N (T_impl_EpochPlay_sg N) Try.f11 (acts1, ()) some =
    (bif decide ((ilen acts1) > (200 : Int)) then
    (some (α := ODen (T_impl_EpochPlay_sg N).ps × RDen (T_impl_EpochPlay_sg N).rs) ((), (((0 : Int), (([] : List Int), (([] : List Bool), (([] : List (Int × Int)), (([] : List (Int × Int)), ([] : List Int)))))), ())))
    else
    (T_impl_EpochPlay_lp0 N acts1
      (fun t10 t11 l12 =>
        (T_impl_EpochPlay_lp1 N acts1 l12
          (fun t22 t23 l24 =>
            (T_impl_EpochPlay_lp2 N acts1
              (fun t46 t47 b48 l49 l50 l51 l52 l53 =>
                (some (α := ODen (T_impl_EpochPlay_sg N).ps × RDen (T_impl_EpochPlay_sg N).rs) ((), ((b48, (l49, (l50, (l51, (l52, l53))))), ()))))
               N (0 : Int) (0 : Int) l12 l24 ([] : List (Int × Int)) ([] : List (Int × Int)) ([] : List Int)))
           N (0 : Int) ([] : List Bool)))
       N (0 : Int) ([] : List Int))) := by
  have h : den (R := ODen (T_impl_EpochPlay_sg N).ps × RDen (T_impl_EpochPlay_sg N).rs) tab (T_impl_EpochPlay_ctx N) T_impl_EpochPlay_ann N (T_impl_EpochPlay_sg N) Try.f11 (acts1, ()) some =
    (bif decide ((ilen acts1) > (200 : Int)) then
    (some (α := ODen (T_impl_EpochPlay_sg N).ps × RDen (T_impl_EpochPlay_sg N).rs) ((), (((0 : Int), (([] : List Int), (([] : List Bool), (([] : List (Int × Int)), (([] : List (Int × Int)), ([] : List Int)))))), ())))
    else
    (T_impl_EpochPlay_lp0_m N N (T_impl_EpochPlay_lp0_sh acts1 (0 : Int) ([] : List Int)) (ctxK (R := ODen (T_impl_EpochPlay_sg N).ps × RDen (T_impl_EpochPlay_sg N).rs) tab (T_impl_EpochPlay_ctx N) T_impl_EpochPlay_ann N (theCode Try.f11) [1, 1, 1, 0, 1, 0] (retK tab (T_impl_EpochPlay_sg N) Try.f11.results.toList some)))) := by kernel_rfl
  rw [h]
  (try simp only [T_impl_EpochPlay_lp0_eq, T_impl_EpochPlay_c1]) <;> rfl

theorem T_impl_EpochPlay_ok (N : Nat) : chkBody Try.f11 (T_impl_EpochPlay_sg N).ps = true := by kernel_rfl

theorem T_impl_EpochPlay_callable : Callable Try.prog 11 := callable_of Try.func11 (show chkFn Try.f11 = true by kernel_rfl)

theorem T_impl_EpochPlay_good (N : Nat) : Good Try.prog 11 (T_impl_EpochPlay_sg N) :=
  good_body mixedOk tabOk (ctx_cons (T_impl_Epochs_act_good N) T_impl_Epochs_act_callable ctx_nil) Try.func11 (T_impl_EpochPlay_ok N) (fun d _ h => ⟨N, (T_impl_EpochPlay_den N d.1).trans h⟩)

noncomputable def T_impl_EpochFlush_sg (N : Nat) : Sig := Sig.of [.v (.slice (.prod (.int .i64) (.prod (.int .i64) (.int .i64)))) false] [.v (.prod (.int .i64) (.prod (.own (.int .i64)) (.prod (.own (.bool)) (.prod (.own (.prod (.int .i64) (.int .i64))) (.prod (.own (.prod (.int .i64) (.int .i64))) (.own (.int .i64))))))) true] (fun d => T_impl_EpochFlush N d.1)

def T_impl_EpochFlush_ann : Nat → List Ghost
  | 5 => [.canon [2, 3, 11, 12]]
  | 6 => [.canon [2, 3, 4, 11]]
  | 7 => [.canon [2, 3, 11]]
  | 8 => [.canon [2, 3, 11]]
  | 100005 => [.canon [2, 3, 11]]
  | _ => []

noncomputable def T_impl_EpochFlush_ctx (N : Nat) : Ctx := [(11, T_impl_EpochPlay_sg N), (55, T_impl_Epochs_act_sg N), (56, T_impl_Epochs_move_sg N)]

def T_impl_EpochFlush_lp0_sh (t3 : Int) (b5 : Int) (l6 : List Int) (l7 : List Bool) (l8 : List (Int × Int)) (l9 : List (Int × Int)) (l10 : List Int) : St := { env := [(2, .s (.one (.ptr 0 0))), (3, .s (.one (.ptr 1 0))), (11, .s (.one (.val (.int .i64) (t3 : Int))))], objs := [(0, .box [.val (.int .i64) ((0 : Int) : Int), .nils, .nils, .nils, .nils, .nils]), (1, .box [.val (.int .i64) (b5 : Int), .own 2, .own 3, .own 4, .own 5, .own 6]), (2, .arr (.int .i64) (l6 : List Int)), (3, .arr (.bool) (l7 : List Bool)), (4, .arr (.prod (.int .i64) (.int .i64)) (l8 : List (Int × Int))), (5, .arr (.prod (.int .i64) (.int .i64)) (l9 : List (Int × Int))), (6, .arr (.int .i64) (l10 : List Int))], nx := 7 }

def T_impl_EpochFlush_lp0_e0 (t13 : Int) (t14 : Bool) (b15 : Int) (l16 : List Int) (l17 : List Bool) (l18 : List (Int × Int)) (l19 : List (Int × Int)) (l20 : List Int) : St := { env := [(2, .s (.one (.ptr 0 0))), (3, .s (.one (.ptr 1 0))), (11, .s (.one (.val (.int .i64) (t13 : Int)))), (12, .s (.one (.val (.bool) (t14 : Bool))))], objs := [(0, .box [.val (.int .i64) ((0 : Int) : Int), .nils, .nils, .nils, .nils, .nils]), (1, .box [.val (.int .i64) (b15 : Int), .own 2, .own 3, .own 4, .own 5, .own 6]), (2, .arr (.int .i64) (l16 : List Int)), (3, .arr (.bool) (l17 : List Bool)), (4, .arr (.prod (.int .i64) (.int .i64)) (l18 : List (Int × Int))), (5, .arr (.prod (.int .i64) (.int .i64)) (l19 : List (Int × Int))), (6, .arr (.int .i64) (l20 : List Int))], nx := 7 }

noncomputable def T_impl_EpochFlush_lp0_m (N : Nat) {R : Type} (n : Nat) (st : St) (K : Ex → St → Option R) : Option R := loopN (roundG (T_impl_EpochFlush_ann 100005) fun st k => sx tab (T_impl_EpochFlush_ctx N) T_impl_EpochFlush_ann N (nthLoop Try.f12 0) st k) n st K

theorem T_impl_EpochFlush_lp0_step (N : Nat) {R : Type} (n : Nat) (K : Ex → St → Option R) (t3 : Int) (b5 : Int) (l6 : List Int) (l7 : List Bool) (l8 : List (Int × Int)) (l9 : List (Int × Int)) (l10 : List Int) :
    T_impl_EpochFlush_lp0_m N (n + 1) (T_impl_EpochFlush_lp0_sh t3 b5 l6 l7 l8 l9 l10) K =
    (bif decide (t3 < (3 : Int)) then
    ((T_impl_Epochs_act N (b5, (l6, (l7, (l8, (l9, l10))))) ((2 : Int), (t3, (0 : Int)))).bind fun o21 =>
      (T_impl_EpochFlush_lp0_m N n (T_impl_EpochFlush_lp0_sh (iadd .i64 t3 (1 : Int)) o21.1.1.1 o21.1.1.2.1 o21.1.1.2.2.1 o21.1.1.2.2.2.1 o21.1.1.2.2.2.2.1 o21.1.1.2.2.2.2.2) K))
    else
    (K (.exit 0) (T_impl_EpochFlush_lp0_e0 t3 (decide (t3 < (3 : Int))) b5 l6 l7 l8 l9 l10))) := by kernel_rfl

theorem T_impl_EpochFlush_lp0_eq (N : Nat) {R : Type} (K : Ex → St → Option R) : ∀ (n : Nat) (t3 : Int) (b5 : Int) (l6 : List Int) (l7 : List Bool) (l8 : List (Int × Int)) (l9 : List (Int × Int)) (l10 : List Int), T_impl_EpochFlush_lp0_m N n (T_impl_EpochFlush_lp0_sh t3 b5 l6 l7 l8 l9 l10) K = T_impl_EpochFlush_lp0 N (fun t13 t14 b15 l16 l17 l18 l19 l20 => (K (.exit 0) (T_impl_EpochFlush_lp0_e0 t13 t14 b15 l16 l17 l18 l19 l20))) n t3 b5 l6 l7 l8 l9 l10
  | 0, _, _, _, _, _, _, _ => rfl
  | n + 1, t3, b5, l6, l7, l8, l9, l10 => by rw [T_impl_EpochFlush_lp0_step, T_impl_EpochFlush_lp0]; (try simp only [T_impl_EpochFlush_lp0_eq N K n])

theorem T_impl_EpochFlush_c1 (N : Nat) (t22 : Int) (t23 : Bool) (b24 : Int) (l25 : List Int) (l26 : List Bool) (l27 : List (Int × Int)) (l28 : List (Int × Int)) (l29 : List Int) :
    ((ctxK (R := ODen (T_impl_EpochFlush_sg N).ps × RDen (T_impl_EpochFlush_sg N).rs) tab (T_impl_EpochFlush_ctx N) T_impl_EpochFlush_ann N (theCode Try.f12) [1, 1, 1, 0, 1, 0] (retK tab (T_impl_EpochFlush_sg N) Try.f12.results.toList some)) (.exit 0) (T_impl_EpochFlush_lp0_e0 t22 t23 b24 l25 l26 l27 l28 l29)) =
    ((T_impl_Epochs_move N (b24, (l25, (l26, (l27, (l28, l29)))))).bind fun o30 =>
    ((T_impl_Epochs_move N o30.1.1).bind fun o31 =>
      (some (α := ODen (T_impl_EpochFlush_sg N).ps × RDen (T_impl_EpochFlush_sg N).rs) ((), (o31.1.1, ()))))) := by kernel_rfl

theorem T_impl_EpochFlush_den (N : Nat) (acts1 : List (Int × Int × Int)) :
    den (R := ODen (T_impl_EpochFlush_sg N).ps × RDen (T_impl_EpochFlush_sg N).rs) tab (T_impl_EpochFlush_ctx N) T_impl_EpochFlush_ann N (T_impl_EpochFlush_sg N) Try.f12 (acts1, ()) some =
    (bif decide ((ilen acts1) > (200 : Int)) then
    (some (α := ODen (T_impl_EpochFlush_sg N).ps × RDen (T_impl_EpochFlush_sg N).rs) ((), (((0 : Int), (([] : List Int), (([] : List Bool), (([] : List (Int × Int)), (([] : List (Int × Int)), ([] : List Int)))))), ())))
    else
    ((T_impl_EpochPlay N acts1).bind fun o2 =>
      (T_impl_EpochFlush_lp0 N
        (fun t22 t23 b24 l25 l26 l27 l28 l29 =>
          ((T_impl_Epochs_move N (b24, (l25, (l26, (l27, (l28, l29)))))).bind fun o30 =>
            ((T_impl_Epochs_move N o30.1.1).bind fun o31 =>
              (some (α := ODen (T_impl_EpochFlush_sg N).ps × RDen (T_impl_EpochFlush_sg N).rs) ((), (o31.1.1, ()))))))
         N (0 : Int) o2.2.1.1 o2.2.1.2.1 o2.2.1.2.2.1 o2.2.1.2.2.2.1 o2.2.1.2.2.2.2.1 o2.2.1.2.2.2.2.2))) := by
  have h : den (R := ODen (T_impl_EpochFlush_sg N).ps × RDen (T_impl_EpochFlush_sg N).rs) tab (T_impl_EpochFlush_ctx N) T_impl_EpochFlush_ann N (T_impl_EpochFlush_sg N) Try.f12 (acts1, ()) some =
    (bif decide ((ilen acts1) > (200 : Int)) then
    (some (α := ODen (T_impl_EpochFlush_sg N).ps × RDen (T_impl_EpochFlush_sg N).rs) ((), (((0 : Int), (([] : List Int), (([] : List Bool), (([] : List (Int × Int)), (([] : List (Int × Int)), ([] : List Int)))))), ())))
    else
    ((T_impl_EpochPlay N acts1).bind fun o2 =>
      (T_impl_EpochFlush_lp0_m N N (T_impl_EpochFlush_lp0_sh (0 : Int) o2.2.1.1 o2.2.1.2.1 o2.2.1.2.2.1 o2.2.1.2.2.2.1 o2.2.1.2.2.2.2.1 o2.2.1.2.2.2.2.2) (ctxK (R := ODen (T_impl_EpochFlush_sg N).ps × RDen (T_impl_EpochFlush_sg N).rs) tab (T_impl_EpochFlush_ctx N) T_impl_EpochFlush_ann N (theCode Try.f12) [1, 1, 1, 0, 1, 0] (retK tab (T_impl_EpochFlush_sg N) Try.f12.results.toList some))))) := by kernel_rfl
  rw [h]
  (try simp only [T_impl_EpochFlush_lp0_eq, T_impl_EpochFlush_c1]) <;> rfl

theorem T_impl_EpochFlush_ok (N : Nat) : chkBody Try.f12 (T_impl_EpochFlush_sg N).ps = true := by kernel_rfl

theorem T_impl_EpochFlush_callable : Callable Try.prog 12 := callable_of Try.func12 (show chkFn Try.f12 = true by kernel_rfl)

theorem T_impl_EpochFlush_good (N : Nat) : Good Try.prog 12 (T_impl_EpochFlush_sg N) :=
  good_body mixedOk tabOk (ctx_cons (T_impl_EpochPlay_good N) T_impl_EpochPlay_callable (ctx_cons (T_impl_Epochs_act_good N) T_impl_Epochs_act_callable (ctx_cons (T_impl_Epochs_move_good N) T_impl_Epochs_move_callable ctx_nil))) Try.func12 (T_impl_EpochFlush_ok N) (fun d _ h => ⟨N, (T_impl_EpochFlush_den N d.1).trans h⟩)

noncomputable def T_spec_EpochSafe_sg (N : Nat) : Sig := Sig.of [.v (.prod (.int .i64) (.prod (.slice (.int .i64)) (.prod (.slice (.bool)) (.prod (.slice (.prod (.int .i64) (.int .i64))) (.prod (.slice (.prod (.int .i64) (.int .i64))) (.slice (.int .i64))))))) true] [.v (.bool) false] (fun d => T_spec_EpochSafe N d.1)

def T_spec_EpochSafe_ann : Nat → List Ghost
  | 2 => [.canon [1, 3, 9]]
  | 3 => [.canon [1, 3]]
  | 4 => [.canon [1, 3, 4]]
  | 5 => [.canon [1, 3, 4, 16]]
  | 6 => [.canon [1, 3, 4]]
  | 7 => [.canon [1, 3, 4, 30]]
  | 8 => [.canon [2]]
  | 100002 => [.canon [1, 3]]
  | 100005 => [.canon [1, 3, 4]]
  | _ => []

noncomputable def T_spec_EpochSafe_ctx (N : Nat) : Ctx := []

def T_spec_EpochSafe_lp1_sh (i4 : Int) (k5 : Int) (b6 : Int × List Int × List Bool × List (Int × Int) × List (Int × Int) × List Int) : St := { env := [(1, .s (.one (.ptr 0 0))), (3, .s (.one (.val (.int .i64) (i4 : Int)))), (4, .s (.one (.val (.int .i64) (k5 : Int))))], objs := [(0, .box [.val (.int .i64) (b6.1 : Int), .val (.slice (.int .i64)) (b6.2.1 : List Int), .val (.slice (.bool)) (b6.2.2.1 : List Bool), .val (.slice (.prod (.int .i64) (.int .i64))) (b6.2.2.2.1 : List (Int × Int)), .val (.slice (.prod (.int .i64) (.int .i64))) (b6.2.2.2.2.1 : List (Int × Int)), .val (.slice (.int .i64)) (b6.2.2.2.2.2 : List Int)])], nx := 1 }

def T_spec_EpochSafe_lp1_e0 (i4 : Int) (b6 : Int × List Int × List Bool × List (Int × Int) × List (Int × Int) × List Int) : St := { env := [(2, .s (.one (.val (.bool) (false : Bool))))], objs := [], nx := 0 }

def T_spec_EpochSafe_lp1_e1 (i4 : Int) (b6 : Int × List Int × List Bool × List (Int × Int) × List (Int × Int) × List Int) (k7 : Int) (t8 : Bool) : St := { env := [(1, .s (.one (.ptr 0 0))), (3, .s (.one (.val (.int .i64) (i4 : Int)))), (4, .s (.one (.val (.int .i64) (k7 : Int)))), (16, .s (.one (.val (.bool) (t8 : Bool))))], objs := [(0, .box [.val (.int .i64) (b6.1 : Int), .val (.slice (.int .i64)) (b6.2.1 : List Int), .val (.slice (.bool)) (b6.2.2.1 : List Bool), .val (.slice (.prod (.int .i64) (.int .i64))) (b6.2.2.2.1 : List (Int × Int)), .val (.slice (.prod (.int .i64) (.int .i64))) (b6.2.2.2.2.1 : List (Int × Int)), .val (.slice (.int .i64)) (b6.2.2.2.2.2 : List Int)])], nx := 1 }

noncomputable def T_spec_EpochSafe_lp1_m (N : Nat) {R : Type} (n : Nat) (st : St) (K : Ex → St → Option R) : Option R := loopN (roundG (T_spec_EpochSafe_ann 100005) fun st k => sx tab (T_spec_EpochSafe_ctx N) T_spec_EpochSafe_ann N (nthLoop Try.f13 1) st k) n st K

theorem T_spec_EpochSafe_lp1_step (N : Nat) {R : Type} (n : Nat) (K : Ex → St → Option R) (i4 : Int) (k5 : Int) (b6 : Int × List Int × List Bool × List (Int × Int) × List (Int × Int) × List Int) :
    T_spec_EpochSafe_lp1_m N (n + 1) (T_spec_EpochSafe_lp1_sh i4 k5 b6) K =
    (bif decide (k5 < (ilen b6.2.2.2.2.1)) then
    (bif inb k5 (List.length b6.2.2.2.2.1) then
      (bif inb i4 (List.length b6.2.2.2.2.2) then
        (bif (List.getD b6.2.2.2.2.1 (Int.toNat k5) ((0 : Int), (0 : Int))).2 == (List.getD b6.2.2.2.2.2 (Int.toNat i4) (0 : Int)) then
          (K .ret (T_spec_EpochSafe_lp1_e0 i4 b6))
          else
          (T_spec_EpochSafe_lp1_m N n (T_spec_EpochSafe_lp1_sh i4 (iadd .i64 k5 (1 : Int)) b6) K)) else none) else none)
    else
    (K (.exit 2) (T_spec_EpochSafe_lp1_e1 i4 b6 k5 (decide (k5 < (ilen b6.2.2.2.2.1)))))) := by kernel_rfl

theorem T_spec_EpochSafe_lp1_eq (N : Nat) {R : Type} (i4 : Int) (b6 : Int × List Int × List Bool × List (Int × Int) × List (Int × Int) × List Int) (K : Ex → St → Option R) : ∀ (n : Nat) (k5 : Int), T_spec_EpochSafe_lp1_m N n (T_spec_EpochSafe_lp1_sh i4 k5 b6) K = T_spec_EpochSafe_lp1 N i4 b6 (K .ret (T_spec_EpochSafe_lp1_e0 i4 b6)) (fun k7 t8 => (K (.exit 2) (T_spec_EpochSafe_lp1_e1 i4 b6 k7 t8))) n k5
  | 0, _ => rfl
  | n + 1, k5 => by rw [T_spec_EpochSafe_lp1_step, T_spec_EpochSafe_lp1]; (try simp only [T_spec_EpochSafe_lp1_eq N i4 b6 K n])

def T_spec_EpochSafe_lp0_sh (i2 : Int) (b3 : Int × List Int × List Bool × List (Int × Int) × List (Int × Int) × List Int) : St := { env := [(1, .s (.one (.ptr 0 0))), (3, .s (.one (.val (.int .i64) (i2 : Int))))], objs := [(0, .box [.val (.int .i64) (b3.1 : Int), .val (.slice (.int .i64)) (b3.2.1 : List Int), .val (.slice (.bool)) (b3.2.2.1 : List Bool), .val (.slice (.prod (.int .i64) (.int .i64))) (b3.2.2.2.1 : List (Int × Int)), .val (.slice (.prod (.int .i64) (.int .i64))) (b3.2.2.2.2.1 : List (Int × Int)), .val (.slice (.int .i64)) (b3.2.2.2.2.2 : List Int)])], nx := 1 }

def T_spec_EpochSafe_lp0_e0 (b3 : Int × List Int × List Bool × List (Int × Int) × List (Int × Int) × List Int) : St := { env := [(2, .s (.one (.val (.bool) (false : Bool))))], objs := [], nx := 0 }

def T_spec_EpochSafe_lp0_e1 (b3 : Int × List Int × List Bool × List (Int × Int) × List (Int × Int) × List Int) (i11 : Int) (t12 : Bool) : St := { env := [(1, .s (.one (.ptr 0 0))), (3, .s (.one (.val (.int .i64) (i11 : Int)))), (9, .s (.one (.val (.bool) (t12 : Bool))))], objs := [(0, .box [.val (.int .i64) (b3.1 : Int), .val (.slice (.int .i64)) (b3.2.1 : List Int), .val (.slice (.bool)) (b3.2.2.1 : List Bool), .val (.slice (.prod (.int .i64) (.int .i64))) (b3.2.2.2.1 : List (Int × Int)), .val (.slice (.prod (.int .i64) (.int .i64))) (b3.2.2.2.2.1 : List (Int × Int)), .val (.slice (.int .i64)) (b3.2.2.2.2.2 : List Int)])], nx := 1 }

noncomputable def T_spec_EpochSafe_lp0_m (N : Nat) {R : Type} (n : Nat) (st : St) (K : Ex → St → Option R) : Option R := loopN (roundG (T_spec_EpochSafe_ann 100002) fun st k => sx tab (T_spec_EpochSafe_ctx N) T_spec_EpochSafe_ann N (nthLoop Try.f13 0) st k) n st K

theorem T_spec_EpochSafe_c1 (N : Nat) {R : Type} (n : Nat) (K : Ex → St → Option R) (i2 : Int) (b3 : Int × List Int × List Bool × List (Int × Int) × List (Int × Int) × List Int) :
    ((ctxK tab (T_spec_EpochSafe_ctx N) T_spec_EpochSafe_ann N (nthLoop Try.f13 0) [1, 0, 0, 1, 0] (backK (T_spec_EpochSafe_ann 100002) (T_spec_EpochSafe_lp0_m N n) K)) .ret (T_spec_EpochSafe_lp1_e0 i2 b3)) =
    (K .ret (T_spec_EpochSafe_lp0_e0 b3)) := by kernel_rfl

theorem T_spec_EpochSafe_c2 (N : Nat) {R : Type} (n : Nat) (K : Ex → St → Option R) (i2 : Int) (b3 : Int × List Int × List Bool × List (Int × Int) × List (Int × Int) × List Int) (k13 : Int) (t14 : Bool) :
    ((ctxK tab (T_spec_EpochSafe_ctx N) T_spec_EpochSafe_ann N (nthLoop Try.f13 0) [1, 0, 0, 1, 0] (backK (T_spec_EpochSafe_ann 100002) (T_spec_EpochSafe_lp0_m N n) K)) (.exit 2) (T_spec_EpochSafe_lp1_e1 i2 b3 k13 t14)) =
    (T_spec_EpochSafe_lp0_m N n (T_spec_EpochSafe_lp0_sh (iadd .i64 i2 (1 : Int)) b3) K) := by kernel_rfl

theorem T_spec_EpochSafe_lp0_step (N : Nat) {R : Type} (n : Nat) (K : Ex → St → Option R) (i2 : Int) (b3 : Int × List Int × List Bool × List (Int × Int) × List (Int × Int) × List Int) :
    T_spec_EpochSafe_lp0_m N (n + 1) (T_spec_EpochSafe_lp0_sh i2 b3) K =
    (bif decide (i2 < (ilen b3.2.2.2.2.2)) then
    (T_spec_EpochSafe_lp1 N i2 b3
      (K .ret (T_spec_EpochSafe_lp0_e0 b3))
      (fun k13 t14 =>
        (T_spec_EpochSafe_lp0_m N n (T_spec_EpochSafe_lp0_sh (iadd .i64 i2 (1 : Int)) b3) K))
       N (0 : Int))
    else
    (K (.exit 0) (T_spec_EpochSafe_lp0_e1 b3 i2 (decide (i2 < (ilen b3.2.2.2.2.2)))))) := by
  have h : T_spec_EpochSafe_lp0_m N (n + 1) (T_spec_EpochSafe_lp0_sh i2 b3) K =
    (bif decide (i2 < (ilen b3.2.2.2.2.2)) then
    (T_spec_EpochSafe_lp1_m N N (T_spec_EpochSafe_lp1_sh i2 (0 : Int) b3) (ctxK tab (T_spec_EpochSafe_ctx N) T_spec_EpochSafe_ann N (nthLoop Try.f13 0) [1, 0, 0, 1, 0] (backK (T_spec_EpochSafe_ann 100002) (T_spec_EpochSafe_lp0_m N n) K)))
    else
    (K (.exit 0) (T_spec_EpochSafe_lp0_e1 b3 i2 (decide (i2 < (ilen b3.2.2.2.2.2)))))) := by kernel_rfl
  rw [h]
  (try simp only [T_spec_EpochSafe_lp1_eq, T_spec_EpochSafe_c1, T_spec_EpochSafe_c2]) <;> rfl

theorem T_spec_EpochSafe_lp0_eq (N : Nat) {R : Type} (b3 : Int × List Int × List Bool × List (Int × Int) × List (Int × Int) × List Int) (K : Ex → St → Option R) : ∀ (n : Nat) (i2 : Int), T_spec_EpochSafe_lp0_m N n (T_spec_EpochSafe_lp0_sh i2 b3) K = T_spec_EpochSafe_lp0 N b3 (K .ret (T_spec_EpochSafe_lp0_e0 b3)) (fun i11 t12 => (K (.exit 0) (T_spec_EpochSafe_lp0_e1 b3 i11 t12))) n i2
  | 0, _ => rfl
  | n + 1, i2 => by rw [T_spec_EpochSafe_lp0_step, T_spec_EpochSafe_lp0]; (try simp only [T_spec_EpochSafe_lp0_eq N b3 K n])

theorem T_spec_EpochSafe_c3 (N : Nat) (e1 : Int × List Int × List Bool × List (Int × Int) × List (Int × Int) × List Int) :
    ((ctxK (R := ODen (T_spec_EpochSafe_sg N).ps × RDen (T_spec_EpochSafe_sg N).rs) tab (T_spec_EpochSafe_ctx N) T_spec_EpochSafe_ann N (theCode Try.f13) [1, 0, 1, 0] (retK tab (T_spec_EpochSafe_sg N) Try.f13.results.toList some)) .ret (T_spec_EpochSafe_lp0_e0 e1)) =
    (some (α := ODen (T_spec_EpochSafe_sg N).ps × RDen (T_spec_EpochSafe_sg N).rs) ((), (false, ()))) := by kernel_rfl

theorem T_spec_EpochSafe_c4 (N : Nat) (e1 : Int × List Int × List Bool × List (Int × Int) × List (Int × Int) × List Int) (i15 : Int) (t16 : Bool) :
    ((ctxK (R := ODen (T_spec_EpochSafe_sg N).ps × RDen (T_spec_EpochSafe_sg N).rs) tab (T_spec_EpochSafe_ctx N) T_spec_EpochSafe_ann N (theCode Try.f13) [1, 0, 1, 0] (retK tab (T_spec_EpochSafe_sg N) Try.f13.results.toList some)) (.exit 0) (T_spec_EpochSafe_lp0_e1 e1 i15 t16)) =
    (some (α := ODen (T_spec_EpochSafe_sg N).ps × RDen (T_spec_EpochSafe_sg N).rs) ((), (true, ()))) := by kernel_rfl

theorem T_spec_EpochSafe_den (N : Nat) (e1 : Int × List Int × List Bool × List (Int × Int) × List (Int × Int) × List Int) :
    den (R := ODen (T_spec_EpochSafe_sg N).ps × RDen (T_spec_EpochSafe_sg N).rs) tab (T_spec_EpochSafe_ctx N) T_spec_EpochSafe_ann N (T_spec_EpochSafe_sg N) Try.f13 (e1, ()) some =
    (T_spec_EpochSafe_lp0 N e1
    (some (α := ODen (T_spec_EpochSafe_sg N).ps × RDen (T_spec_EpochSafe_sg N).rs) ((), (false, ())))
    (fun i15 t16 =>
      (some (α := ODen (T_spec_EpochSafe_sg N).ps × RDen (T_spec_EpochSafe_sg N).rs) ((), (true, ()))))
     N (0 : Int)) := by
  have h : den (R := ODen (T_spec_EpochSafe_sg N).ps × RDen (T_spec_EpochSafe_sg N).rs) tab (T_spec_EpochSafe_ctx N) T_spec_EpochSafe_ann N (T_spec_EpochSafe_sg N) Try.f13 (e1, ()) some =
    (T_spec_EpochSafe_lp0_m N N (T_spec_EpochSafe_lp0_sh (0 : Int) e1) (ctxK (R := ODen (T_spec_EpochSafe_sg N).ps × RDen (T_spec_EpochSafe_sg N).rs) tab (T_spec_EpochSafe_ctx N) T_spec_EpochSafe_ann N (theCode Try.f13) [1, 0, 1, 0] (retK tab (T_spec_EpochSafe_sg N) Try.f13.results.toList some))) := by kernel_rfl
  rw [h]
  (try simp only [T_spec_EpochSafe_lp0_eq, T_spec_EpochSafe_c3, T_spec_EpochSafe_c4]) <;> rfl

theorem T_spec_EpochSafe_ok (N : Nat) : chkBody Try.f13 (T_spec_EpochSafe_sg N).ps = true := by kernel_rfl

theorem T_spec_EpochSafe_callable : Callable Try.prog 13 := callable_of Try.func13 (show chkFn Try.f13 = true by kernel_rfl)

theorem T_spec_EpochSafe_good (N : Nat) : Good Try.prog 13 (T_spec_EpochSafe_sg N) :=
  good_body mixedOk tabOk ctx_nil Try.func13 (T_spec_EpochSafe_ok N) (fun d _ h => ⟨N, (T_spec_EpochSafe_den N d.1).trans h⟩)

noncomputable def T_spec_l1In_sg (N : Nat) : Sig := Sig.of [.v (.int .i64) false, .v (.int .i64) false, .v (.int .i64) false] [.v (.bool) false] (fun d => T_spec_l1In N d.1 d.2.1 d.2.2.1)

def T_spec_l1In_ann : Nat → List Ghost
  | _ => []

noncomputable def T_spec_l1In_ctx (N : Nat) : Ctx := []

theorem T_spec_l1In_den (N : Nat) (x1 : Int) (low2 : Int) (high3 : Int) :
    den (R := ODen (T_spec_l1In_sg N).ps × RDen (T_spec_l1In_sg N).rs) tab (T_spec_l1In_ctx N) T_spec_l1In_ann N (T_spec_l1In_sg N) Try.f57 (x1, low2, high3, ()) some =
    (bif decide (x1 ≥ low2) then
    (some (α := ODen (T_spec_l1In_sg N).ps × RDen (T_spec_l1In_sg N).rs) ((), (decide (x1 ≤ high3), ())))
    else
    (some (α := ODen (T_spec_l1In_sg N).ps × RDen (T_spec_l1In_sg N).rs) ((), (false, ())))) := by kernel_rfl

theorem T_spec_l1In_ok (N : Nat) : chkBody Try.f57 (T_spec_l1In_sg N).ps = true := by kernel_rfl

theorem T_spec_l1In_callable : Callable Try.prog 57 := callable_of Try.func57 (show chkFn Try.f57 = true by kernel_rfl)

theorem T_spec_l1In_good (N : Nat) : Good Try.prog 57 (T_spec_l1In_sg N) :=
  good_body mixedOk tabOk ctx_nil Try.func57 (T_spec_l1In_ok N) (fun d _ h => ⟨N, (T_spec_l1In_den N d.1 d.2.1 d.2.2.1).trans h⟩)

noncomputable def T_spec_EpochOk_sg (N : Nat) : Sig := Sig.of [.v (.prod (.int .i64) (.prod (.slice (.int .i64)) (.prod (.slice (.bool)) (.prod (.slice (.prod (.int .i64) (.int .i64))) (.prod (.slice (.prod (.int .i64) (.int .i64))) (.slice (.int .i64))))))) true] [.v (.bool) false] (fun d => T_spec_EpochOk N d.1)

def T_spec_EpochOk_ann : Nat → List Ghost
  | 4 => [.canon [1, 3, 31]]
  | 5 => [.canon [1, 3]]
  | 6 => [.canon [1, 3, 53]]
  | 7 => [.canon [2]]
  | 10 => [.canon [1, 4, 5, 56]]
  | 11 => [.canon [1, 4, 5]]
  | 12 => [.canon [1, 4, 5, 63]]
  | 13 => [.canon [1, 4, 5]]
  | 15 => [.canon [1, 4, 6, 71]]
  | 16 => [.canon [1, 4, 6]]
  | 17 => [.canon [1, 4, 6, 96]]
  | 18 => [.canon [2]]
  | 19 => [.canon [1, 4, 6]]
  | 21 => [.canon [1, 4, 7, 119]]
  | 22 => [.canon [1, 4, 7]]
  | 23 => [.canon [1, 4, 7, 128]]
  | 24 => [.canon [2]]
  | 25 => [.canon [1, 4, 7]]
  | 27 => [.canon [1, 4, 8, 146]]
  | 28 => [.canon [1, 4, 8]]
  | 29 => [.canon [1, 4, 8, 153]]
  | 30 => [.canon [2]]
  | 32 => [.canon [1, 9, 158]]
  | 33 => [.canon [1, 9]]
  | 34 => [.canon [1, 9, 10]]
  | 35 => [.canon [1, 9, 184]]
  | 36 => [.canon [2]]
  | 100004 => [.canon [1, 3]]
  | 100010 => [.canon [1, 4, 5]]
  | 100015 => [.canon [1, 4, 6]]
  | 100021 => [.canon [1, 4, 7]]
  | 100027 => [.canon [1, 4, 8]]
  | 100032 => [.canon [1, 9]]
  | _ => []

noncomputable def T_spec_EpochOk_ctx (N : Nat) : Ctx := [(57, T_spec_l1In_sg N)]

def T_spec_EpochOk_lp0_sh (i3 : Int) (b4 : Int × List Int × List Bool × List (Int × Int) × List (Int × Int) × List Int) : St := { env := [(1, .s (.one (.ptr 0 0))), (3, .s (.one (.val (.int .i64) (i3 : Int))))], objs := [(0, .box [.val (.int .i64) (b4.1 : Int), .val (.slice (.int .i64)) (b4.2.1 : List Int), .val (.slice (.bool)) (b4.2.2.1 : List Bool), .val (.slice (.prod (.int .i64) (.int .i64))) (b4.2.2.2.1 : List (Int × Int)), .val (.slice (.prod (.int .i64) (.int .i64))) (b4.2.2.2.2.1 : List (Int × Int)), .val (.slice (.int .i64)) (b4.2.2.2.2.2 : List Int)])], nx := 1 }

def T_spec_EpochOk_lp0_e0 (b4 : Int × List Int × List Bool × List (Int × Int) × List (Int × Int) × List Int) : St := { env := [(2, .s (.one (.val (.bool) (false : Bool))))], objs := [], nx := 0 }

def T_spec_EpochOk_lp0_e1 (b4 : Int × List Int × List Bool × List (Int × Int) × List (Int × Int) × List Int) (i6 : Int) (t7 : Bool) : St := { env := [(1, .s (.one (.ptr 0 0))), (3, .s (.one (.val (.int .i64) (i6 : Int)))), (31, .s (.one (.val (.bool) (t7 : Bool))))], objs := [(0, .box [.val (.int .i64) (b4.1 : Int), .val (.slice (.int .i64)) (b4.2.1 : List Int), .val (.slice (.bool)) (b4.2.2.1 : List Bool), .val (.slice (.prod (.int .i64) (.int .i64))) (b4.2.2.2.1 : List (Int × Int)), .val (.slice (.prod (.int .i64) (.int .i64))) (b4.2.2.2.2.1 : List (Int × Int)), .val (.slice (.int .i64)) (b4.2.2.2.2.2 : List Int)])], nx := 1 }

noncomputable def T_spec_EpochOk_lp0_m (N : Nat) {R : Type} (n : Nat) (st : St) (K : Ex → St → Option R) : Option R := loopN (roundG (T_spec_EpochOk_ann 100004) fun st k => sx tab (T_spec_EpochOk_ctx N) T_spec_EpochOk_ann N (nthLoop Try.f14 0) st k) n st K

theorem T_spec_EpochOk_lp0_step (N : Nat) {R : Type} (n : Nat) (K : Ex → St → Option R) (i3 : Int) (b4 : Int × List Int × List Bool × List (Int × Int) × List (Int × Int) × List Int) :
    T_spec_EpochOk_lp0_m N (n + 1) (T_spec_EpochOk_lp0_sh i3 b4) K =
    (bif decide (i3 < (ilen b4.2.1)) then
    (bif inb i3 (List.length b4.2.1) then
      (bif (List.getD b4.2.1 (Int.toNat i3) (0 : Int)) != (-1 : Int) then
        (bif inb i3 (List.length b4.2.1) then
          ((T_spec_l1In N (List.getD b4.2.1 (Int.toNat i3) (0 : Int)) (isub .i64 b4.1 (1 : Int)) b4.1).bind fun o8 =>
            (bif !o8.2.1 then
              (K .ret (T_spec_EpochOk_lp0_e0 b4))
              else
              (T_spec_EpochOk_lp0_m N n (T_spec_EpochOk_lp0_sh (iadd .i64 i3 (1 : Int)) b4) K))) else none)
        else
        (T_spec_EpochOk_lp0_m N n (T_spec_EpochOk_lp0_sh (iadd .i64 i3 (1 : Int)) b4) K)) else none)
    else
    (K (.exit 0) (T_spec_EpochOk_lp0_e1 b4 i3 (decide (i3 < (ilen b4.2.1)))))) := by kernel_rfl

theorem T_spec_EpochOk_lp0_eq (N : Nat) {R : Type} (b4 : Int × List Int × List Bool × List (Int × Int) × List (Int × Int) × List Int) (K : Ex → St → Option R) : ∀ (n : Nat) (i3 : Int), T_spec_EpochOk_lp0_m N n (T_spec_EpochOk_lp0_sh i3 b4) K = T_spec_EpochOk_lp0 N b4 (K .ret (T_spec_EpochOk_lp0_e0 b4)) (fun i6 t7 => (K (.exit 0) (T_spec_EpochOk_lp0_e1 b4 i6 t7))) n i3
  | 0, _ => rfl
  | n + 1, i3 => by rw [T_spec_EpochOk_lp0_step, T_spec_EpochOk_lp0]; (try simp only [T_spec_EpochOk_lp0_eq N b4 K n])

def T_spec_EpochOk_lp1_sh (i11 : Int) (b12 : Int × List Int × List Bool × List (Int × Int) × List (Int × Int) × List Int) (l13 : List Int) : St := { env := [(1, .s (.one (.ptr 0 0))), (4, .s (.one (.own 1))), (5, .s (.one (.val (.int .i64) (i11 : Int))))], objs := [(0, .box [.val (.int .i64) (b12.1 : Int), .val (.slice (.int .i64)) (b12.2.1 : List Int), .val (.slice (.bool)) (b12.2.2.1 : List Bool), .val (.slice (.prod (.int .i64) (.int .i64))) (b12.2.2.2.1 : List (Int × Int)), .val (.slice (.prod (.int .i64) (.int .i64))) (b12.2.2.2.2.1 : List (Int × Int)), .val (.slice (.int .i64)) (b12.2.2.2.2.2 : List Int)]), (1, .arr (.int .i64) (l13 : List Int))], nx := 2 }

def T_spec_EpochOk_lp1_e0 (b12 : Int × List Int × List Bool × List (Int × Int) × List (Int × Int) × List Int) (i14 : Int) (t15 : Bool) (l16 : List Int) : St := { env := [(1, .s (.one (.ptr 0 0))), (4, .s (.one (.own 1))), (5, .s (.one (.val (.int .i64) (i14 : Int)))), (56, .s (.one (.val (.bool) (t15 : Bool))))], objs := [(0, .box [.val (.int .i64) (b12.1 : Int), .val (.slice (.int .i64)) (b12.2.1 : List Int), .val (.slice (.bool)) (b12.2.2.1 : List Bool), .val (.slice (.prod (.int .i64) (.int .i64))) (b12.2.2.2.1 : List (Int × Int)), .val (.slice (.prod (.int .i64) (.int .i64))) (b12.2.2.2.2.1 : List (Int × Int)), .val (.slice (.int .i64)) (b12.2.2.2.2.2 : List Int)]), (1, .arr (.int .i64) (l16 : List Int))], nx := 2 }

noncomputable def T_spec_EpochOk_lp1_m (N : Nat) {R : Type} (n : Nat) (st : St) (K : Ex → St → Option R) : Option R := loopN (roundG (T_spec_EpochOk_ann 100010) fun st k => sx tab (T_spec_EpochOk_ctx N) T_spec_EpochOk_ann N (nthLoop Try.f14 1) st k) n st K

theorem T_spec_EpochOk_lp1_step (N : Nat) {R : Type} (n : Nat) (K : Ex → St → Option R) (i11 : Int) (b12 : Int × List Int × List Bool × List (Int × Int) × List (Int × Int) × List Int) (l13 : List Int) :
    T_spec_EpochOk_lp1_m N (n + 1) (T_spec_EpochOk_lp1_sh i11 b12 l13) K =
    (bif decide (i11 < (10 : Int)) then
    (bif inb i11 (List.length b12.2.2.1) then
      (bif List.getD b12.2.2.1 (Int.toNat i11) false then
        (bif inb i11 (List.length l13) then
          (T_spec_EpochOk_lp1_m N n (T_spec_EpochOk_lp1_sh (iadd .i64 i11 (1 : Int)) b12 (List.set l13 (Int.toNat i11) (1 : Int))) K) else none)
        else
        (T_spec_EpochOk_lp1_m N n (T_spec_EpochOk_lp1_sh (iadd .i64 i11 (1 : Int)) b12 l13) K)) else none)
    else
    (K (.exit 2) (T_spec_EpochOk_lp1_e0 b12 i11 (decide (i11 < (10 : Int))) l13))) := by kernel_rfl

theorem T_spec_EpochOk_lp1_eq (N : Nat) {R : Type} (b12 : Int × List Int × List Bool × List (Int × Int) × List (Int × Int) × List Int) (K : Ex → St → Option R) : ∀ (n : Nat) (i11 : Int) (l13 : List Int), T_spec_EpochOk_lp1_m N n (T_spec_EpochOk_lp1_sh i11 b12 l13) K = T_spec_EpochOk_lp1 N b12 (fun i14 t15 l16 => (K (.exit 2) (T_spec_EpochOk_lp1_e0 b12 i14 t15 l16))) n i11 l13
  | 0, _, _ => rfl
  | n + 1, i11, l13 => by rw [T_spec_EpochOk_lp1_step, T_spec_EpochOk_lp1]; (try simp only [T_spec_EpochOk_lp1_eq N b12 K n])

def T_spec_EpochOk_lp2_sh (i20 : Int) (b21 : Int × List Int × List Bool × List (Int × Int) × List (Int × Int) × List Int) (l22 : List Int) : St := { env := [(1, .s (.one (.ptr 0 0))), (4, .s (.one (.own 1))), (6, .s (.one (.val (.int .i64) (i20 : Int))))], objs := [(0, .box [.val (.int .i64) (b21.1 : Int), .val (.slice (.int .i64)) (b21.2.1 : List Int), .val (.slice (.bool)) (b21.2.2.1 : List Bool), .val (.slice (.prod (.int .i64) (.int .i64))) (b21.2.2.2.1 : List (Int × Int)), .val (.slice (.prod (.int .i64) (.int .i64))) (b21.2.2.2.2.1 : List (Int × Int)), .val (.slice (.int .i64)) (b21.2.2.2.2.2 : List Int)]), (1, .arr (.int .i64) (l22 : List Int))], nx := 2 }

def T_spec_EpochOk_lp2_e0 (b21 : Int × List Int × List Bool × List (Int × Int) × List (Int × Int) × List Int) : St := { env := [(2, .s (.one (.val (.bool) (false : Bool))))], objs := [], nx := 0 }

def T_spec_EpochOk_lp2_e1 (b21 : Int × List Int × List Bool × List (Int × Int) × List (Int × Int) × List Int) (i25 : Int) (t26 : Bool) (l27 : List Int) : St := { env := [(1, .s (.one (.ptr 0 0))), (4, .s (.one (.own 1))), (6, .s (.one (.val (.int .i64) (i25 : Int)))), (71, .s (.one (.val (.bool) (t26 : Bool))))], objs := [(0, .box [.val (.int .i64) (b21.1 : Int), .val (.slice (.int .i64)) (b21.2.1 : List Int), .val (.slice (.bool)) (b21.2.2.1 : List Bool), .val (.slice (.prod (.int .i64) (.int .i64))) (b21.2.2.2.1 : List (Int × Int)), .val (.slice (.prod (.int .i64) (.int .i64))) (b21.2.2.2.2.1 : List (Int × Int)), .val (.slice (.int .i64)) (b21.2.2.2.2.2 : List Int)]), (1, .arr (.int .i64) (l27 : List Int))], nx := 2 }

noncomputable def T_spec_EpochOk_lp2_m (N : Nat) {R : Type} (n : Nat) (st : St) (K : Ex → St → Option R) : Option R := loopN (roundG (T_spec_EpochOk_ann 100015) fun st k => sx tab (T_spec_EpochOk_ctx N) T_spec_EpochOk_ann N (nthLoop Try.f14 2) st k) n st K

theorem T_spec_EpochOk_lp2_step (N : Nat) {R : Type} (n : Nat) (K : Ex → St → Option R) (i20 : Int) (b21 : Int × List Int × List Bool × List (Int × Int) × List (Int × Int) × List Int) (l22 : List Int) :
    T_spec_EpochOk_lp2_m N (n + 1) (T_spec_EpochOk_lp2_sh i20 b21 l22) K =
    (bif decide (i20 < (ilen b21.2.2.2.1)) then
    (bif inb i20 (List.length b21.2.2.2.1) then
      ((T_spec_l1In N (List.getD b21.2.2.2.1 (Int.toNat i20) ((0 : Int), (0 : Int))).1 (0 : Int) (9 : Int)).bind fun o28 =>
        (bif !o28.2.1 then
          (K .ret (T_spec_EpochOk_lp2_e0 b21))
          else
          (bif inb i20 (List.length b21.2.2.2.1) then
            ((T_spec_l1In N (List.getD b21.2.2.2.1 (Int.toNat i20) ((0 : Int), (0 : Int))).2 (isub .i64 b21.1 (1 : Int)) b21.1).bind fun o29 =>
              (bif !o29.2.1 then
                (K .ret (T_spec_EpochOk_lp2_e0 b21))
                else
                (bif inb i20 (List.length b21.2.2.2.1) then
                  (bif inb i20 (List.length b21.2.2.2.1) then
                    (bif inb (List.getD b21.2.2.2.1 (Int.toNat i20) ((0 : Int), (0 : Int))).1 (List.length l22) then
                      (bif inb (List.getD b21.2.2.2.1 (Int.toNat i20) ((0 : Int), (0 : Int))).1 (List.length l22) then
                        (T_spec_EpochOk_lp2_m N n (T_spec_EpochOk_lp2_sh (iadd .i64 i20 (1 : Int)) b21 (List.set l22 (Int.toNat (List.getD b21.2.2.2.1 (Int.toNat i20) ((0 : Int), (0 : Int))).1) (iadd .i64 (List.getD l22 (Int.toNat (List.getD b21.2.2.2.1 (Int.toNat i20) ((0 : Int), (0 : Int))).1) (0 : Int)) (1 : Int)))) K) else none) else none) else none) else none))) else none))) else none)
    else
    (K (.exit 4) (T_spec_EpochOk_lp2_e1 b21 i20 (decide (i20 < (ilen b21.2.2.2.1))) l22))) := by kernel_rfl

theorem T_spec_EpochOk_lp2_eq (N : Nat) {R : Type} (b21 : Int × List Int × List Bool × List (Int × Int) × List (Int × Int) × List Int) (K : Ex → St → Option R) : ∀ (n : Nat) (i20 : Int) (l22 : List Int), T_spec_EpochOk_lp2_m N n (T_spec_EpochOk_lp2_sh i20 b21 l22) K = T_spec_EpochOk_lp2 N b21 (K .ret (T_spec_EpochOk_lp2_e0 b21)) (fun i25 t26 l27 => (K (.exit 4) (T_spec_EpochOk_lp2_e1 b21 i25 t26 l27))) n i20 l22
  | 0, _, _ => rfl
  | n + 1, i20, l22 => by rw [T_spec_EpochOk_lp2_step, T_spec_EpochOk_lp2]; (try simp only [T_spec_EpochOk_lp2_eq N b21 K n])

def T_spec_EpochOk_lp3_sh (i33 : Int) (b34 : Int × List Int × List Bool × List (Int × Int) × List (Int × Int) × List Int) (l35 : List Int) : St := { env := [(1, .s (.one (.ptr 0 0))), (4, .s (.one (.own 1))), (7, .s (.one (.val (.int .i64) (i33 : Int))))], objs := [(0, .box [.val (.int .i64) (b34.1 : Int), .val (.slice (.int .i64)) (b34.2.1 : List Int), .val (.slice (.bool)) (b34.2.2.1 : List Bool), .val (.slice (.prod (.int .i64) (.int .i64))) (b34.2.2.2.1 : List (Int × Int)), .val (.slice (.prod (.int .i64) (.int .i64))) (b34.2.2.2.2.1 : List (Int × Int)), .val (.slice (.int .i64)) (b34.2.2.2.2.2 : List Int)]), (1, .arr (.int .i64) (l35 : List Int))], nx := 2 }

def T_spec_EpochOk_lp3_e0 (b34 : Int × List Int × List Bool × List (Int × Int) × List (Int × Int) × List Int) : St := { env := [(2, .s (.one (.val (.bool) (false : Bool))))], objs := [], nx := 0 }

def T_spec_EpochOk_lp3_e1 (b34 : Int × List Int × List Bool × List (Int × Int) × List (Int × Int) × List Int) (i37 : Int) (t38 : Bool) (l39 : List Int) : St := { env := [(1, .s (.one (.ptr 0 0))), (4, .s (.one (.own 1))), (7, .s (.one (.val (.int .i64) (i37 : Int)))), (119, .s (.one (.val (.bool) (t38 : Bool))))], objs := [(0, .box [.val (.int .i64) (b34.1 : Int), .val (.slice (.int .i64)) (b34.2.1 : List Int), .val (.slice (.bool)) (b34.2.2.1 : List Bool), .val (.slice (.prod (.int .i64) (.int .i64))) (b34.2.2.2.1 : List (Int × Int)), .val (.slice (.prod (.int .i64) (.int .i64))) (b34.2.2.2.2.1 : List (Int × Int)), .val (.slice (.int .i64)) (b34.2.2.2.2.2 : List Int)]), (1, .arr (.int .i64) (l39 : List Int))], nx := 2 }

noncomputable def T_spec_EpochOk_lp3_m (N : Nat) {R : Type} (n : Nat) (st : St) (K : Ex → St → Option R) : Option R := loopN (roundG (T_spec_EpochOk_ann 100021) fun st k => sx tab (T_spec_EpochOk_ctx N) T_spec_EpochOk_ann N (nthLoop Try.f14 3) st k) n st K

theorem T_spec_EpochOk_lp3_step (N : Nat) {R : Type} (n : Nat) (K : Ex → St → Option R) (i33 : Int) (b34 : Int × List Int × List Bool × List (Int × Int) × List (Int × Int) × List Int) (l35 : List Int) :
    T_spec_EpochOk_lp3_m N (n + 1) (T_spec_EpochOk_lp3_sh i33 b34 l35) K =
    (bif decide (i33 < (ilen b34.2.2.2.2.2)) then
    (bif inb i33 (List.length b34.2.2.2.2.2) then
      ((T_spec_l1In N (List.getD b34.2.2.2.2.2 (Int.toNat i33) (0 : Int)) (0 : Int) (9 : Int)).bind fun o40 =>
        (bif !o40.2.1 then
          (K .ret (T_spec_EpochOk_lp3_e0 b34))
          else
          (bif inb i33 (List.length b34.2.2.2.2.2) then
            (bif inb i33 (List.length b34.2.2.2.2.2) then
              (bif inb (List.getD b34.2.2.2.2.2 (Int.toNat i33) (0 : Int)) (List.length l35) then
                (bif inb (List.getD b34.2.2.2.2.2 (Int.toNat i33) (0 : Int)) (List.length l35) then
                  (T_spec_EpochOk_lp3_m N n (T_spec_EpochOk_lp3_sh (iadd .i64 i33 (1 : Int)) b34 (List.set l35 (Int.toNat (List.getD b34.2.2.2.2.2 (Int.toNat i33) (0 : Int))) (iadd .i64 (List.getD l35 (Int.toNat (List.getD b34.2.2.2.2.2 (Int.toNat i33) (0 : Int))) (0 : Int)) (1 : Int)))) K) else none) else none) else none) else none))) else none)
    else
    (K (.exit 6) (T_spec_EpochOk_lp3_e1 b34 i33 (decide (i33 < (ilen b34.2.2.2.2.2))) l35))) := by kernel_rfl

theorem T_spec_EpochOk_lp3_eq (N : Nat) {R : Type} (b34 : Int × List Int × List Bool × List (Int × Int) × List (Int × Int) × List Int) (K : Ex → St → Option R) : ∀ (n : Nat) (i33 : Int) (l35 : List Int), T_spec_EpochOk_lp3_m N n (T_spec_EpochOk_lp3_sh i33 b34 l35) K = T_spec_EpochOk_lp3 N b34 (K .ret (T_spec_EpochOk_lp3_e0 b34)) (fun i37 t38 l39 => (K (.exit 6) (T_spec_EpochOk_lp3_e1 b34 i37 t38 l39))) n i33 l35
  | 0, _, _ => rfl
  | n + 1, i33, l35 => by rw [T_spec_EpochOk_lp3_step, T_spec_EpochOk_lp3]; (try simp only [T_spec_EpochOk_lp3_eq N b34 K n])

def T_spec_EpochOk_lp4_sh (i44 : Int) (b45 : Int × List Int × List Bool × List (Int × Int) × List (Int × Int) × List Int) (l46 : List Int) : St := { env := [(1, .s (.one (.ptr 0 0))), (4, .s (.one (.own 1))), (8, .s (.one (.val (.int .i64) (i44 : Int))))], objs := [(0, .box [.val (.int .i64) (b45.1 : Int), .val (.slice (.int .i64)) (b45.2.1 : List Int), .val (.slice (.bool)) (b45.2.2.1 : List Bool), .val (.slice (.prod (.int .i64) (.int .i64))) (b45.2.2.2.1 : List (Int × Int)), .val (.slice (.prod (.int .i64) (.int .i64))) (b45.2.2.2.2.1 : List (Int × Int)), .val (.slice (.int .i64)) (b45.2.2.2.2.2 : List Int)]), (1, .arr (.int .i64) (l46 : List Int))], nx := 2 }

def T_spec_EpochOk_lp4_e0 (b45 : Int × List Int × List Bool × List (Int × Int) × List (Int × Int) × List Int) (l46 : List Int) : St := { env := [(2, .s (.one (.val (.bool) (false : Bool))))], objs := [], nx := 0 }

def T_spec_EpochOk_lp4_e1 (b45 : Int × List Int × List Bool × List (Int × Int) × List (Int × Int) × List Int) (l46 : List Int) (i47 : Int) (t48 : Bool) : St := { env := [(1, .s (.one (.ptr 0 0))), (4, .s (.one (.own 1))), (8, .s (.one (.val (.int .i64) (i47 : Int)))), (146, .s (.one (.val (.bool) (t48 : Bool))))], objs := [(0, .box [.val (.int .i64) (b45.1 : Int), .val (.slice (.int .i64)) (b45.2.1 : List Int), .val (.slice (.bool)) (b45.2.2.1 : List Bool), .val (.slice (.prod (.int .i64) (.int .i64))) (b45.2.2.2.1 : List (Int × Int)), .val (.slice (.prod (.int .i64) (.int .i64))) (b45.2.2.2.2.1 : List (Int × Int)), .val (.slice (.int .i64)) (b45.2.2.2.2.2 : List Int)]), (1, .arr (.int .i64) (l46 : List Int))], nx := 2 }

noncomputable def T_spec_EpochOk_lp4_m (N : Nat) {R : Type} (n : Nat) (st : St) (K : Ex → St → Option R) : Option R := loopN (roundG (T_spec_EpochOk_ann 100027) fun st k => sx tab (T_spec_EpochOk_ctx N) T_spec_EpochOk_ann N (nthLoop Try.f14 4) st k) n st K

theorem T_spec_EpochOk_lp4_step (N : Nat) {R : Type} (n : Nat) (K : Ex → St → Option R) (i44 : Int) (b45 : Int × List Int × List Bool × List (Int × Int) × List (Int × Int) × List Int) (l46 : List Int) :
    T_spec_EpochOk_lp4_m N (n + 1) (T_spec_EpochOk_lp4_sh i44 b45 l46) K =
    (bif decide (i44 < (10 : Int)) then
    (bif inb i44 (List.length l46) then
      (bif (List.getD l46 (Int.toNat i44) (0 : Int)) != (1 : Int) then
        (K .ret (T_spec_EpochOk_lp4_e0 b45 l46))
        else
        (T_spec_EpochOk_lp4_m N n (T_spec_EpochOk_lp4_sh (iadd .i64 i44 (1 : Int)) b45 l46) K)) else none)
    else
    (K (.exit 8) (T_spec_EpochOk_lp4_e1 b45 l46 i44 (decide (i44 < (10 : Int)))))) := by kernel_rfl

theorem T_spec_EpochOk_lp4_eq (N : Nat) {R : Type} (b45 : Int × List Int × List Bool × List (Int × Int) × List (Int × Int) × List Int) (l46 : List Int) (K : Ex → St → Option R) : ∀ (n : Nat) (i44 : Int), T_spec_EpochOk_lp4_m N n (T_spec_EpochOk_lp4_sh i44 b45 l46) K = T_spec_EpochOk_lp4 N b45 l46 (K .ret (T_spec_EpochOk_lp4_e0 b45 l46)) (fun i47 t48 => (K (.exit 8) (T_spec_EpochOk_lp4_e1 b45 l46 i47 t48))) n i44
  | 0, _ => rfl
  | n + 1, i44 => by rw [T_spec_EpochOk_lp4_step, T_spec_EpochOk_lp4]; (try simp only [T_spec_EpochOk_lp4_eq N b45 l46 K n])

def T_spec_EpochOk_lp5_sh (i51 : Int) (b52 : Int × List Int × List Bool × List (Int × Int) × List (Int × Int) × List Int) : St := { env := [(1, .s (.one (.ptr 0 0))), (9, .s (.one (.val (.int .i64) (i51 : Int))))], objs := [(0, .box [.val (.int .i64) (b52.1 : Int), .val (.slice (.int .i64)) (b52.2.1 : List Int), .val (.slice (.bool)) (b52.2.2.1 : List Bool), .val (.slice (.prod (.int .i64) (.int .i64))) (b52.2.2.2.1 : List (Int × Int)), .val (.slice (.prod (.int .i64) (.int .i64))) (b52.2.2.2.2.1 : List (Int × Int)), .val (.slice (.int .i64)) (b52.2.2.2.2.2 : List Int)])], nx := 1 }

def T_spec_EpochOk_lp5_e0 (b52 : Int × List Int × List Bool × List (Int × Int) × List (Int × Int) × List Int) : St := { env := [(2, .s (.one (.val (.bool) (false : Bool))))], objs := [], nx := 0 }

def T_spec_EpochOk_lp5_e1 (b52 : Int × List Int × List Bool × List (Int × Int) × List (Int × Int) × List Int) (i55 : Int) (t56 : Bool) : St := { env := [(1, .s (.one (.ptr 0 0))), (9, .s (.one (.val (.int .i64) (i55 : Int)))), (158, .s (.one (.val (.bool) (t56 : Bool))))], objs := [(0, .box [.val (.int .i64) (b52.1 : Int), .val (.slice (.int .i64)) (b52.2.1 : List Int), .val (.slice (.bool)) (b52.2.2.1 : List Bool), .val (.slice (.prod (.int .i64) (.int .i64))) (b52.2.2.2.1 : List (Int × Int)), .val (.slice (.prod (.int .i64) (.int .i64))) (b52.2.2.2.2.1 : List (Int × Int)), .val (.slice (.int .i64)) (b52.2.2.2.2.2 : List Int)])], nx := 1 }

noncomputable def T_spec_EpochOk_lp5_m (N : Nat) {R : Type} (n : Nat) (st : St) (K : Ex → St → Option R) : Option R := loopN (roundG (T_spec_EpochOk_ann 100032) fun st k => sx tab (T_spec_EpochOk_ctx N) T_spec_EpochOk_ann N (nthLoop Try.f14 5) st k) n st K

theorem T_spec_EpochOk_lp5_step (N : Nat) {R : Type} (n : Nat) (K : Ex → St → Option R) (i51 : Int) (b52 : Int × List Int × List Bool × List (Int × Int) × List (Int × Int) × List Int) :
    T_spec_EpochOk_lp5_m N (n + 1) (T_spec_EpochOk_lp5_sh i51 b52) K =
    (bif decide (i51 < (ilen b52.2.2.2.2.1)) then
    (bif inb i51 (List.length b52.2.2.2.2.1) then
      ((T_spec_l1In N (List.getD b52.2.2.2.2.1 (Int.toNat i51) ((0 : Int), (0 : Int))).1 (0 : Int) (2 : Int)).bind fun o57 =>
        (bif !o57.2.1 then
          (K .ret (T_spec_EpochOk_lp5_e0 b52))
          else
          ((T_spec_l1In N (List.getD b52.2.2.2.2.1 (Int.toNat i51) ((0 : Int), (0 : Int))).2 (0 : Int) (9 : Int)).bind fun o58 =>
            (bif !o58.2.1 then
              (K .ret (T_spec_EpochOk_lp5_e0 b52))
              else
              (bif inb (List.getD b52.2.2.2.2.1 (Int.toNat i51) ((0 : Int), (0 : Int))).1 (List.length b52.2.1) then
                (bif decide ((List.getD b52.2.1 (Int.toNat (List.getD b52.2.2.2.2.1 (Int.toNat i51) ((0 : Int), (0 : Int))).1) (0 : Int)) < (0 : Int)) then
                  (K .ret (T_spec_EpochOk_lp5_e0 b52))
                  else
                  (T_spec_EpochOk_lp5_m N n (T_spec_EpochOk_lp5_sh (iadd .i64 i51 (1 : Int)) b52) K)) else none))))) else none)
    else
    (K (.exit 10) (T_spec_EpochOk_lp5_e1 b52 i51 (decide (i51 < (ilen b52.2.2.2.2.1)))))) := by kernel_rfl

theorem T_spec_EpochOk_lp5_eq (N : Nat) {R : Type} (b52 : Int × List Int × List Bool × List (Int × Int) × List (Int × Int) × List Int) (K : Ex → St → Option R) : ∀ (n : Nat) (i51 : Int), T_spec_EpochOk_lp5_m N n (T_spec_EpochOk_lp5_sh i51 b52) K = T_spec_EpochOk_lp5 N b52 (K .ret (T_spec_EpochOk_lp5_e0 b52)) (fun i55 t56 => (K (.exit 10) (T_spec_EpochOk_lp5_e1 b52 i55 t56))) n i51
  | 0, _ => rfl
  | n + 1, i51 => by rw [T_spec_EpochOk_lp5_step, T_spec_EpochOk_lp5]; (try simp only [T_spec_EpochOk_lp5_eq N b52 K n])

theorem T_spec_EpochOk_c1 (N : Nat) (e1 : Int × List Int × List Bool × List (Int × Int) × List (Int × Int) × List Int) :
    ((ctxK (R := ODen (T_spec_EpochOk_sg N).ps × RDen (T_spec_EpochOk_sg N).rs) tab (T_spec_EpochOk_ctx N) T_spec_EpochOk_ann N (theCode Try.f14) [1, 1, 0, 1, 0] (retK tab (T_spec_EpochOk_sg N) Try.f14.results.toList some)) .ret (T_spec_EpochOk_lp0_e0 e1)) =
    (some (α := ODen (T_spec_EpochOk_sg N).ps × RDen (T_spec_EpochOk_sg N).rs) ((), (false, ()))) := by kernel_rfl

theorem T_spec_EpochOk_c4 (N : Nat) (e1 : Int × List Int × List Bool × List (Int × Int) × List (Int × Int) × List Int) :
    ((ctxK (R := ODen (T_spec_EpochOk_sg N).ps × RDen (T_spec_EpochOk_sg N).rs) tab (T_spec_EpochOk_ctx N) T_spec_EpochOk_ann N (theCode Try.f14) [1, 1, 1, 1, 1, 0, 1, 0] (retK tab (T_spec_EpochOk_sg N) Try.f14.results.toList some)) .ret (T_spec_EpochOk_lp2_e0 e1)) =
    (some (α := ODen (T_spec_EpochOk_sg N).ps × RDen (T_spec_EpochOk_sg N).rs) ((), (false, ()))) := by kernel_rfl

theorem T_spec_EpochOk_c6 (N : Nat) (e1 : Int × List Int × List Bool × List (Int × Int) × List (Int × Int) × List Int) :
    ((ctxK (R := ODen (T_spec_EpochOk_sg N).ps × RDen (T_spec_EpochOk_sg N).rs) tab (T_spec_EpochOk_ctx N) T_spec_EpochOk_ann N (theCode Try.f14) [1, 1, 1, 1, 1, 1, 0, 1, 0] (retK tab (T_spec_EpochOk_sg N) Try.f14.results.toList some)) .ret (T_spec_EpochOk_lp3_e0 e1)) =
    (some (α := ODen (T_spec_EpochOk_sg N).ps × RDen (T_spec_EpochOk_sg N).rs) ((), (false, ()))) := by kernel_rfl

theorem T_spec_EpochOk_c8 (N : Nat) (e1 : Int × List Int × List Bool × List (Int × Int) × List (Int × Int) × List Int) (l43 : List Int) :
    ((ctxK (R := ODen (T_spec_EpochOk_sg N).ps × RDen (T_spec_EpochOk_sg N).rs) tab (T_spec_EpochOk_ctx N) T_spec_EpochOk_ann N (theCode Try.f14) [1, 1, 1, 1, 1, 1, 1, 0, 1, 0] (retK tab (T_spec_EpochOk_sg N) Try.f14.results.toList some)) .ret (T_spec_EpochOk_lp4_e0 e1 l43)) =
    (some (α := ODen (T_spec_EpochOk_sg N).ps × RDen (T_spec_EpochOk_sg N).rs) ((), (false, ()))) := by kernel_rfl

theorem T_spec_EpochOk_c10 (N : Nat) (e1 : Int × List Int × List Bool × List (Int × Int) × List (Int × Int) × List Int) :
    ((ctxK (R := ODen (T_spec_EpochOk_sg N).ps × RDen (T_spec_EpochOk_sg N).rs) tab (T_spec_EpochOk_ctx N) T_spec_EpochOk_ann N (theCode Try.f14) [1, 1, 1, 1, 1, 1, 1, 1, 0, 1, 0] (retK tab (T_spec_EpochOk_sg N) Try.f14.results.toList some)) .ret (T_spec_EpochOk_lp5_e0 e1)) =
    (some (α := ODen (T_spec_EpochOk_sg N).ps × RDen (T_spec_EpochOk_sg N).rs) ((), (false, ()))) := by kernel_rfl

theorem T_spec_EpochOk_c11 (N : Nat) (e1 : Int × List Int × List Bool × List (Int × Int) × List (Int × Int) × List Int) (i59 : Int) (t60 : Bool) :
    ((ctxK (R := ODen (T_spec_EpochOk_sg N).ps × RDen (T_spec_EpochOk_sg N).rs) tab (T_spec_EpochOk_ctx N) T_spec_EpochOk_ann N (theCode Try.f14) [1, 1, 1, 1, 1, 1, 1, 1, 0, 1, 0] (retK tab (T_spec_EpochOk_sg N) Try.f14.results.toList some)) (.exit 10) (T_spec_EpochOk_lp5_e1 e1 i59 t60)) =
    (some (α := ODen (T_spec_EpochOk_sg N).ps × RDen (T_spec_EpochOk_sg N).rs) ((), (true, ()))) := by kernel_rfl

theorem T_spec_EpochOk_c9 (N : Nat) (e1 : Int × List Int × List Bool × List (Int × Int) × List (Int × Int) × List Int) (l43 : List Int) (i49 : Int) (t50 : Bool) :
    ((ctxK (R := ODen (T_spec_EpochOk_sg N).ps × RDen (T_spec_EpochOk_sg N).rs) tab (T_spec_EpochOk_ctx N) T_spec_EpochOk_ann N (theCode Try.f14) [1, 1, 1, 1, 1, 1, 1, 0, 1, 0] (retK tab (T_spec_EpochOk_sg N) Try.f14.results.toList some)) (.exit 8) (T_spec_EpochOk_lp4_e1 e1 l43 i49 t50)) =
    (T_spec_EpochOk_lp5 N e1
    (some (α := ODen (T_spec_EpochOk_sg N).ps × RDen (T_spec_EpochOk_sg N).rs) ((), (false, ())))
    (fun i59 t60 =>
      (some (α := ODen (T_spec_EpochOk_sg N).ps × RDen (T_spec_EpochOk_sg N).rs) ((), (true, ()))))
     N (0 : Int)) := by
  have h : ((ctxK (R := ODen (T_spec_EpochOk_sg N).ps × RDen (T_spec_EpochOk_sg N).rs) tab (T_spec_EpochOk_ctx N) T_spec_EpochOk_ann N (theCode Try.f14) [1, 1, 1, 1, 1, 1, 1, 0, 1, 0] (retK tab (T_spec_EpochOk_sg N) Try.f14.results.toList some)) (.exit 8) (T_spec_EpochOk_lp4_e1 e1 l43 i49 t50)) =
    (T_spec_EpochOk_lp5_m N N (T_spec_EpochOk_lp5_sh (0 : Int) e1) (ctxK (R := ODen (T_spec_EpochOk_sg N).ps × RDen (T_spec_EpochOk_sg N).rs) tab (T_spec_EpochOk_ctx N) T_spec_EpochOk_ann N (theCode Try.f14) [1, 1, 1, 1, 1, 1, 1, 1, 0, 1, 0] (retK tab (T_spec_EpochOk_sg N) Try.f14.results.toList some))) := by kernel_rfl
  rw [h]
  (try simp only [T_spec_EpochOk_lp5_eq, T_spec_EpochOk_c10, T_spec_EpochOk_c11]) <;> rfl

theorem T_spec_EpochOk_c7 (N : Nat) (e1 : Int × List Int × List Bool × List (Int × Int) × List (Int × Int) × List Int) (i41 : Int) (t42 : Bool) (l43 : List Int) :
    ((ctxK (R := ODen (T_spec_EpochOk_sg N).ps × RDen (T_spec_EpochOk_sg N).rs) tab (T_spec_EpochOk_ctx N) T_spec_EpochOk_ann N (theCode Try.f14) [1, 1, 1, 1, 1, 1, 0, 1, 0] (retK tab (T_spec_EpochOk_sg N) Try.f14.results.toList some)) (.exit 6) (T_spec_EpochOk_lp3_e1 e1 i41 t42 l43)) =
    (T_spec_EpochOk_lp4 N e1 l43
    (some (α := ODen (T_spec_EpochOk_sg N).ps × RDen (T_spec_EpochOk_sg N).rs) ((), (false, ())))
    (fun i49 t50 =>
      (T_spec_EpochOk_lp5 N e1
        (some (α := ODen (T_spec_EpochOk_sg N).ps × RDen (T_spec_EpochOk_sg N).rs) ((), (false, ())))
        (fun i59 t60 =>
          (some (α := ODen (T_spec_EpochOk_sg N).ps × RDen (T_spec_EpochOk_sg N).rs) ((), (true, ()))))
         N (0 : Int)))
     N (0 : Int)) := by
  have h : ((ctxK (R := ODen (T_spec_EpochOk_sg N).ps × RDen (T_spec_EpochOk_sg N).rs) tab (T_spec_EpochOk_ctx N) T_spec_EpochOk_ann N (theCode Try.f14) [1, 1, 1, 1, 1, 1, 0, 1, 0] (retK tab (T_spec_EpochOk_sg N) Try.f14.results.toList some)) (.exit 6) (T_spec_EpochOk_lp3_e1 e1 i41 t42 l43)) =
    (T_spec_EpochOk_lp4_m N N (T_spec_EpochOk_lp4_sh (0 : Int) e1 l43) (ctxK (R := ODen (T_spec_EpochOk_sg N).ps × RDen (T_spec_EpochOk_sg N).rs) tab (T_spec_EpochOk_ctx N) T_spec_EpochOk_ann N (theCode Try.f14) [1, 1, 1, 1, 1, 1, 1, 0, 1, 0] (retK tab (T_spec_EpochOk_sg N) Try.f14.results.toList some))) := by kernel_rfl
  rw [h]
  (try simp only [T_spec_EpochOk_lp4_eq, T_spec_EpochOk_c8, T_spec_EpochOk_c9]) <;> rfl

theorem T_spec_EpochOk_c5 (N : Nat) (e1 : Int × List Int × List Bool × List (Int × Int) × List (Int × Int) × List Int) (i30 : Int) (t31 : Bool) (l32 : List Int) :
    ((ctxK (R := ODen (T_spec_EpochOk_sg N).ps × RDen (T_spec_EpochOk_sg N).rs) tab (T_spec_EpochOk_ctx N) T_spec_EpochOk_ann N (theCode Try.f14) [1, 1, 1, 1, 1, 0, 1, 0] (retK tab (T_spec_EpochOk_sg N) Try.f14.results.toList some)) (.exit 4) (T_spec_EpochOk_lp2_e1 e1 i30 t31 l32)) =
    (T_spec_EpochOk_lp3 N e1
    (some (α := ODen (T_spec_EpochOk_sg N).ps × RDen (T_spec_EpochOk_sg N).rs) ((), (false, ())))
    (fun i41 t42 l43 =>
      (T_spec_EpochOk_lp4 N e1 l43
        (some (α := ODen (T_spec_EpochOk_sg N).ps × RDen (T_spec_EpochOk_sg N).rs) ((), (false, ())))
        (fun i49 t50 =>
          (T_spec_EpochOk_lp5 N e1
            (some (α := ODen (T_spec_EpochOk_sg N).ps × RDen (T_spec_EpochOk_sg N).rs) ((), (false, ())))
            (fun i59 t60 =>
              (some (α := ODen (T_spec_EpochOk_sg N).ps × RDen (T_spec_EpochOk_sg N).rs) ((), (true, ()))))
             N (0 : Int)))
         N (0 : Int)))
     N (0 : Int) l32) := by
  have h : ((ctxK (R := ODen (T_spec_EpochOk_sg N).ps × RDen (T_spec_EpochOk_sg N).rs) tab (T_spec_EpochOk_ctx N) T_spec_EpochOk_ann N (theCode Try.f14) [1, 1, 1, 1, 1, 0, 1, 0] (retK tab (T_spec_EpochOk_sg N) Try.f14.results.toList some)) (.exit 4) (T_spec_EpochOk_lp2_e1 e1 i30 t31 l32)) =
    (T_spec_EpochOk_lp3_m N N (T_spec_EpochOk_lp3_sh (0 : Int) e1 l32) (ctxK (R := ODen (T_spec_EpochOk_sg N).ps × RDen (T_spec_EpochOk_sg N).rs) tab (T_spec_EpochOk_ctx N) T_spec_EpochOk_ann N (theCode Try.f14) [1, 1, 1, 1, 1, 1, 0, 1, 0] (retK tab (T_spec_EpochOk_sg N) Try.f14.results.toList some))) := by kernel_rfl
  rw [h]
  (try simp only [T_spec_EpochOk_lp3_eq, T_spec_EpochOk_c6, T_spec_EpochOk_c7]) <;> rfl

theorem T_spec_EpochOk_c3 (N : Nat) (e1 : Int × List Int × List Bool × List (Int × Int) × List (Int × Int) × List Int) (i17 : Int) (t18 : Bool) (l19 : List Int) :
    ((ctxK (R := ODen (T_spec_EpochOk_sg N).ps × RDen (T_spec_EpochOk_sg N).rs) tab (T_spec_EpochOk_ctx N) T_spec_EpochOk_ann N (theCode Try.f14) [1, 1, 1, 1, 0, 1, 0] (retK tab (T_spec_EpochOk_sg N) Try.f14.results.toList some)) (.exit 2) (T_spec_EpochOk_lp1_e0 e1 i17 t18 l19)) =
    (T_spec_EpochOk_lp2 N e1
    (some (α := ODen (T_spec_EpochOk_sg N).ps × RDen (T_spec_EpochOk_sg N).rs) ((), (false, ())))
    (fun i30 t31 l32 =>
      (T_spec_EpochOk_lp3 N e1
        (some (α := ODen (T_spec_EpochOk_sg N).ps × RDen (T_spec_EpochOk_sg N).rs) ((), (false, ())))
        (fun i41 t42 l43 =>
          (T_spec_EpochOk_lp4 N e1 l43
            (some (α := ODen (T_spec_EpochOk_sg N).ps × RDen (T_spec_EpochOk_sg N).rs) ((), (false, ())))
            (fun i49 t50 =>
              (T_spec_EpochOk_lp5 N e1
                (some (α := ODen (T_spec_EpochOk_sg N).ps × RDen (T_spec_EpochOk_sg N).rs) ((), (false, ())))
                (fun i59 t60 =>
                  (some (α := ODen (T_spec_EpochOk_sg N).ps × RDen (T_spec_EpochOk_sg N).rs) ((), (true, ()))))
                 N (0 : Int)))
             N (0 : Int)))
         N (0 : Int) l32))
     N (0 : Int) l19) := by
  have h : ((ctxK (R := ODen (T_spec_EpochOk_sg N).ps × RDen (T_spec_EpochOk_sg N).rs) tab (T_spec_EpochOk_ctx N) T_spec_EpochOk_ann N (theCode Try.f14) [1, 1, 1, 1, 0, 1, 0] (retK tab (T_spec_EpochOk_sg N) Try.f14.results.toList some)) (.exit 2) (T_spec_EpochOk_lp1_e0 e1 i17 t18 l19)) =
    (T_spec_EpochOk_lp2_m N N (T_spec_EpochOk_lp2_sh (0 : Int) e1 l19) (ctxK (R := ODen (T_spec_EpochOk_sg N).ps × RDen (T_spec_EpochOk_sg N).rs) tab (T_spec_EpochOk_ctx N) T_spec_EpochOk_ann N (theCode Try.f14) [1, 1, 1, 1, 1, 0, 1, 0] (retK tab (T_spec_EpochOk_sg N) Try.f14.results.toList some))) := by kernel_rfl
  rw [h]
  (try simp only [T_spec_EpochOk_lp2_eq, T_spec_EpochOk_c4, T_spec_EpochOk_c5]) <;> rfl

theorem T_spec_EpochOk_c2 (N : Nat) (e1 : Int × List Int × List Bool × List (Int × Int) × List (Int × Int) × List Int) (i9 : Int) (t10 : Bool) :
    ((ctxK (R := ODen (T_spec_EpochOk_sg N).ps × RDen (T_spec_EpochOk_sg N).rs) tab (T_spec_EpochOk_ctx N) T_spec_EpochOk_ann N (theCode Try.f14) [1, 1, 0, 1, 0] (retK tab (T_spec_EpochOk_sg N) Try.f14.results.toList some)) (.exit 0) (T_spec_EpochOk_lp0_e1 e1 i9 t10)) =
    (bif ((decide ((0 : Int) ≤ (10 : Int))) && (decide ((10 : Int) ≤ (10 : Int)))) && (room (Int.toNat (10 : Int))) then
    (T_spec_EpochOk_lp1 N e1
      (fun i17 t18 l19 =>
        (T_spec_EpochOk_lp2 N e1
          (some (α := ODen (T_spec_EpochOk_sg N).ps × RDen (T_spec_EpochOk_sg N).rs) ((), (false, ())))
          (fun i30 t31 l32 =>
            (T_spec_EpochOk_lp3 N e1
              (some (α := ODen (T_spec_EpochOk_sg N).ps × RDen (T_spec_EpochOk_sg N).rs) ((), (false, ())))
              (fun i41 t42 l43 =>
                (T_spec_EpochOk_lp4 N e1 l43
                  (some (α := ODen (T_spec_EpochOk_sg N).ps × RDen (T_spec_EpochOk_sg N).rs) ((), (false, ())))
                  (fun i49 t50 =>
                    (T_spec_EpochOk_lp5 N e1
                      (some (α := ODen (T_spec_EpochOk_sg N).ps × RDen (T_spec_EpochOk_sg N).rs) ((), (false, ())))
                      (fun i59 t60 =>
                        (some (α := ODen (T_spec_EpochOk_sg N).ps × RDen (T_spec_EpochOk_sg N).rs) ((), (true, ()))))
                       N (0 : Int)))
                   N (0 : Int)))
               N (0 : Int) l32))
           N (0 : Int) l19))
       N (0 : Int) (List.replicate (Int.toNat (10 : Int)) (0 : Int))) else none) := by
  have h : ((ctxK (R := ODen (T_spec_EpochOk_sg N).ps × RDen (T_spec_EpochOk_sg N).rs) tab (T_spec_EpochOk_ctx N) T_spec_EpochOk_ann N (theCode Try.f14) [1, 1, 0, 1, 0] (retK tab (T_spec_EpochOk_sg N) Try.f14.results.toList some)) (.exit 0) (T_spec_EpochOk_lp0_e1 e1 i9 t10)) =
    (bif ((decide ((0 : Int) ≤ (10 : Int))) && (decide ((10 : Int) ≤ (10 : Int)))) && (room (Int.toNat (10 : Int))) then
    (T_spec_EpochOk_lp1_m N N (T_spec_EpochOk_lp1_sh (0 : Int) e1 (List.replicate (Int.toNat (10 : Int)) (0 : Int))) (ctxK (R := ODen (T_spec_EpochOk_sg N).ps × RDen (T_spec_EpochOk_sg N).rs) tab (T_spec_EpochOk_ctx N) T_spec_EpochOk_ann N (theCode Try.f14) [1, 1, 1, 1, 0, 1, 0] (retK tab (T_spec_EpochOk_sg N) Try.f14.results.toList some))) else none) := by kernel_rfl
  rw [h]
  (try simp only [T_spec_EpochOk_lp1_eq, T_spec_EpochOk_c3]) <;> rfl

theorem T_spec_EpochOk_den (N : Nat) (e1 : Int × List Int × List Bool × List (Int × Int) × List (Int × Int) × List Int) :
    den (R := ODen (T_spec_EpochOk_sg N).ps × RDen (T_spec_EpochOk_sg N).rs) tab (T_spec_EpochOk_ctx N) T_spec_EpochOk_ann N (T_spec_EpochOk_sg N) Try.f14 (e1, ()) some =
    (bif (ilen e1.2.1) != (3 : Int) then
    (some (α := ODen (T_spec_EpochOk_sg N).ps × RDen (T_spec_EpochOk_sg N).rs) ((), (false, ())))
    else
    (bif (ilen e1.2.2.1) != (10 : Int) then
      (some (α := ODen (T_spec_EpochOk_sg N).ps × RDen (T_spec_EpochOk_sg N).rs) ((), (false, ())))
      else
      ((T_spec_l1In N e1.1 (0 : Int) (205 : Int)).bind fun o2 =>
        (bif !o2.2.1 then
          (some (α := ODen (T_spec_EpochOk_sg N).ps × RDen (T_spec_EpochOk_sg N).rs) ((), (false, ())))
          else
          (T_spec_EpochOk_lp0 N e1
            (some (α := ODen (T_spec_EpochOk_sg N).ps × RDen (T_spec_EpochOk_sg N).rs) ((), (false, ())))
            (fun i9 t10 =>
              (bif ((decide ((0 : Int) ≤ (10 : Int))) && (decide ((10 : Int) ≤ (10 : Int)))) && (room (Int.toNat (10 : Int))) then
                (T_spec_EpochOk_lp1 N e1
                  (fun i17 t18 l19 =>
                    (T_spec_EpochOk_lp2 N e1
                      (some (α := ODen (T_spec_EpochOk_sg N).ps × RDen (T_spec_EpochOk_sg N).rs) ((), (false, ())))
                      (fun i30 t31 l32 =>
                        (T_spec_EpochOk_lp3 N e1
                          (some (α := ODen (T_spec_EpochOk_sg N).ps × RDen (T_spec_EpochOk_sg N).rs) ((), (false, ())))
                          (fun i41 t42 l43 =>
                            (T_spec_EpochOk_lp4 N e1 l43
                              (some (α := ODen (T_spec_EpochOk_sg N).ps × RDen (T_spec_EpochOk_sg N).rs) ((), (false, ())))
                              (fun i49 t50 =>
                                (T_spec_EpochOk_lp5 N e1
                                  (some (α := ODen (T_spec_EpochOk_sg N).ps × RDen (T_spec_EpochOk_sg N).rs) ((), (false, ())))
                                  (fun i59 t60 =>
                                    (some (α := ODen (T_spec_EpochOk_sg N).ps × RDen (T_spec_EpochOk_sg N).rs) ((), (true, ()))))
                                   N (0 : Int)))
                               N (0 : Int)))
                           N (0 : Int) l32))
                       N (0 : Int) l19))
                   N (0 : Int) (List.replicate (Int.toNat (10 : Int)) (0 : Int))) else none))
             N (0 : Int)))))) := by
  have h : den (R := ODen (T_spec_EpochOk_sg N).ps × RDen (T_spec_EpochOk_sg N).rs) tab (T_spec_EpochOk_ctx N) T_spec_EpochOk_ann N (T_spec_EpochOk_sg N) Try.f14 (e1, ()) some =
    (bif (ilen e1.2.1) != (3 : Int) then
    (some (α := ODen (T_spec_EpochOk_sg N).ps × RDen (T_spec_EpochOk_sg N).rs) ((), (false, ())))
    else
    (bif (ilen e1.2.2.1) != (10 : Int) then
      (some (α := ODen (T_spec_EpochOk_sg N).ps × RDen (T_spec_EpochOk_sg N).rs) ((), (false, ())))
      else
      ((T_spec_l1In N e1.1 (0 : Int) (205 : Int)).bind fun o2 =>
        (bif !o2.2.1 then
          (some (α := ODen (T_spec_EpochOk_sg N).ps × RDen (T_spec_EpochOk_sg N).rs) ((), (false, ())))
          else
          (T_spec_EpochOk_lp0_m N N (T_spec_EpochOk_lp0_sh (0 : Int) e1) (ctxK (R := ODen (T_spec_EpochOk_sg N).ps × RDen (T_spec_EpochOk_sg N).rs) tab (T_spec_EpochOk_ctx N) T_spec_EpochOk_ann N (theCode Try.f14) [1, 1, 0, 1, 0] (retK tab (T_spec_EpochOk_sg N) Try.f14.results.toList some))))))) := by kernel_rfl
  rw [h]
  (try simp only [T_spec_EpochOk_lp0_eq, T_spec_EpochOk_c1, T_spec_EpochOk_c2]) <;> rfl

theorem T_spec_EpochOk_ok (N : Nat) : chkBody Try.f14 (T_spec_EpochOk_sg N).ps = true := by kernel_rfl

theorem T_spec_EpochOk_callable : Callable Try.prog 14 := callable_of Try.func14 (show chkFn Try.f14 = true by kernel_rfl)

theorem T_spec_EpochOk_good (N : Nat) : Good Try.prog 14 (T_spec_EpochOk_sg N) :=
  good_body mixedOk tabOk (ctx_cons (T_spec_l1In_good N) T_spec_l1In_callable ctx_nil) Try.func14 (T_spec_EpochOk_ok N) (fun d _ h => ⟨N, (T_spec_EpochOk_den N d.1).trans h⟩)

noncomputable def T_slices_Index___int_int__sg (N : Nat) : Sig := Sig.of [.v (.slice (.int .i64)) false, .v (.int .i64) false] [.v (.int .i64) false] (fun d => T_slices_Index___int_int_ N d.1 d.2.1)

def T_slices_Index___int_int__ann : Nat → List Ghost
  | 2 => [.canon [0, 1, 7, 8, 9]]
  | 3 => [.canon [0, 1, 5, 7, 8]]
  | 4 => [.canon [0, 1, 5, 7, 8, 16]]
  | 5 => [.canon [4]]
  | 6 => [.canon [0, 1, 7, 8]]
  | 100002 => [.canon [0, 1, 7, 8]]
  | _ => []

noncomputable def T_slices_Index___int_int__ctx (N : Nat) : Ctx := []

def T_slices_Index___int_int__lp0_sh (s3 : List Int) (v4 : Int) (t6 : Int) : St := { env := [(0, .s (.one (.val (.slice (.int .i64)) (s3 : List Int)))), (1, .s (.one (.val (.int .i64) (v4 : Int)))), (7, .s (.one (.val (.int .i64) (ilen s3 : Int)))), (8, .s (.one (.val (.int .i64) (t6 : Int))))], objs := [], nx := 0 }

def T_slices_Index___int_int__lp0_e0 (s3 : List Int) (v4 : Int) (t7 : Int) : St := { env := [(4, .s (.one (.val (.int .i64) (t7 : Int))))], objs := [], nx := 0 }

def T_slices_Index___int_int__lp0_e1 (s3 : List Int) (v4 : Int) (t8 : Int) (t9 : Bool) : St := { env := [(0, .s (.one (.val (.slice (.int .i64)) (s3 : List Int)))), (1, .s (.one (.val (.int .i64) (v4 : Int)))), (7, .s (.one (.val (.int .i64) (ilen s3 : Int)))), (8, .s (.one (.val (.int .i64) (t8 : Int)))), (9, .s (.one (.val (.bool) (t9 : Bool))))], objs := [], nx := 0 }

noncomputable def T_slices_Index___int_int__lp0_m (N : Nat) {R : Type} (n : Nat) (st : St) (K : Ex → St → Option R) : Option R := loopN (roundG (T_slices_Index___int_int__ann 100002) fun st k => sx tab (T_slices_Index___int_int__ctx N) T_slices_Index___int_int__ann N (nthLoop Try.f120 0) st k) n st K

theorem T_slices_Index___int_int__lp0_step (N : Nat) {R : Type} (n : Nat) (K : Ex → St → Option R) (s3 : List Int) (v4 : Int) (t6 : Int) :
    T_slices_Index___int_int__lp0_m N (n + 1) (T_slices_Index___int_int__lp0_sh s3 v4 t6) K =
    (bif decide (t6 < (ilen s3)) then
    (bif inb t6 (List.length s3) then
      (bif v4 == (List.getD s3 (Int.toNat t6) (0 : Int)) then
        (K .ret (T_slices_Index___int_int__lp0_e0 s3 v4 t6))
        else
        (T_slices_Index___int_int__lp0_m N n (T_slices_Index___int_int__lp0_sh s3 v4 (iadd .i64 t6 (1 : Int))) K)) else none)
    else
    (K (.exit 0) (T_slices_Index___int_int__lp0_e1 s3 v4 t6 (decide (t6 < (ilen s3)))))) := by kernel_rfl

theorem T_slices_Index___int_int__lp0_eq (N : Nat) {R : Type} (s3 : List Int) (v4 : Int) (K : Ex → St → Option R) : ∀ (n : Nat) (t6 : Int), T_slices_Index___int_int__lp0_m N n (T_slices_Index___int_int__lp0_sh s3 v4 t6) K = T_slices_Index___int_int__lp0 N s3 v4 (fun t7 => (K .ret (T_slices_Index___int_int__lp0_e0 s3 v4 t7))) (fun t8 t9 => (K (.exit 0) (T_slices_Index___int_int__lp0_e1 s3 v4 t8 t9))) n t6
  | 0, _ => rfl
  | n + 1, t6 => by rw [T_slices_Index___int_int__lp0_step, T_slices_Index___int_int__lp0]; (try simp only [T_slices_Index___int_int__lp0_eq N s3 v4 K n])

theorem T_slices_Index___int_int__c1 (N : Nat) (s1 : List Int) (v2 : Int) (t10 : Int) :
    ((ctxK (R := ODen (T_slices_Index___int_int__sg N).ps × RDen (T_slices_Index___int_int__sg N).rs) tab (T_slices_Index___int_int__ctx N) T_slices_Index___int_int__ann N (theCode Try.f120) [1, 0, 1, 0] (retK tab (T_slices_Index___int_int__sg N) Try.f120.results.toList some)) .ret (T_slices_Index___int_int__lp0_e0 s1 v2 t10)) =
    (some (α := ODen (T_slices_Index___int_int__sg N).ps × RDen (T_slices_Index___int_int__sg N).rs) ((), (t10, ()))) := by kernel_rfl

theorem T_slices_Index___int_int__c2 (N : Nat) (s1 : List Int) (v2 : Int) (t11 : Int) (t12 : Bool) :
    ((ctxK (R := ODen (T_slices_Index___int_int__sg N).ps × RDen (T_slices_Index___int_int__sg N).rs) tab (T_slices_Index___int_int__ctx N) T_slices_Index___int_int__ann N (theCode Try.f120) [1, 0, 1, 0] (retK tab (T_slices_Index___int_int__sg N) Try.f120.results.toList some)) (.exit 0) (T_slices_Index___int_int__lp0_e1 s1 v2 t11 t12)) =
    (some (α := ODen (T_slices_Index___int_int__sg N).ps × RDen (T_slices_Index___int_int__sg N).rs) ((), ((-1 : Int), ()))) := by kernel_rfl

theorem T_slices_Index___int_int__den (N : Nat) (s1 : List Int) (v2 : Int) :
    den (R := ODen (T_slices_Index___int_int__sg N).ps × RDen (T_slices_Index___int_int__sg N).rs) tab (T_slices_Index___int_int__ctx N) T_slices_Index___int_int__ann N (T_slices_Index___int_int__sg N) Try.f120 (s1, v2, ()) some =
    (T_slices_Index___int_int__lp0 N s1 v2
    (fun t10 =>
      (some (α := ODen (T_slices_Index___int_int__sg N).ps × RDen (T_slices_Index___int_int__sg N).rs) ((), (t10, ()))))
    (fun t11 t12 =>
      (some (α := ODen (T_slices_Index___int_int__sg N).ps × RDen (T_slices_Index___int_int__sg N).rs) ((), ((-1 : Int), ()))))
     N (0 : Int)) := by
  have h : den (R := ODen (T_slices_Index___int_int__sg N).ps × RDen (T_slices_Index___int_int__sg N).rs) tab (T_slices_Index___int_int__ctx N) T_slices_Index___int_int__ann N (T_slices_Index___int_int__sg N) Try.f120 (s1, v2, ()) some =
    (T_slices_Index___int_int__lp0_m N N (T_slices_Index___int_int__lp0_sh s1 v2 (0 : Int)) (ctxK (R := ODen (T_slices_Index___int_int__sg N).ps × RDen (T_slices_Index___int_int__sg N).rs) tab (T_slices_Index___int_int__ctx N) T_slices_Index___int_int__ann N (theCode Try.f120) [1, 0, 1, 0] (retK tab (T_slices_Index___int_int__sg N) Try.f120.results.toList some))) := by kernel_rfl
  rw [h]
  (try simp only [T_slices_Index___int_int__lp0_eq, T_slices_Index___int_int__c1, T_slices_Index___int_int__c2]) <;> rfl

theorem T_slices_Index___int_int__ok (N : Nat) : chkBody Try.f120 (T_slices_Index___int_int__sg N).ps = true := by kernel_rfl

theorem T_slices_Index___int_int__callable : Callable Try.prog 120 := callable_of Try.func120 (show chkFn Try.f120 = true by kernel_rfl)

theorem T_slices_Index___int_int__good (N : Nat) : Good Try.prog 120 (T_slices_Index___int_int__sg N) :=
  good_body mixedOk tabOk ctx_nil Try.func120 (T_slices_Index___int_int__ok N) (fun d _ h => ⟨N, (T_slices_Index___int_int__den N d.1 d.2.1).trans h⟩)

noncomputable def T_slices_Contains___int_int__sg (N : Nat) : Sig := Sig.of [.v (.slice (.int .i64)) false, .v (.int .i64) false] [.v (.bool) false] (fun d => T_slices_Contains___int_int_ N d.1 d.2.1)

def T_slices_Contains___int_int__ann : Nat → List Ghost
  | _ => []

noncomputable def T_slices_Contains___int_int__ctx (N : Nat) : Ctx := [(120, T_slices_Index___int_int__sg N)]

theorem T_slices_Contains___int_int__den (N : Nat) (s1 : List Int) (v2 : Int) :
    den (R := ODen (T_slices_Contains___int_int__sg N).ps × RDen (T_slices_Contains___int_int__sg N).rs) tab (T_slices_Contains___int_int__ctx N) T_slices_Contains___int_int__ann N (T_slices_Contains___int_int__sg N) Try.f60 (s1, v2, ()) some =
    ((T_slices_Index___int_int_ N s1 v2).bind fun o3 =>
    (some (α := ODen (T_slices_Contains___int_int__sg N).ps × RDen (T_slices_Contains___int_int__sg N).rs) ((), (decide (o3.2.1 ≥ (0 : Int)), ())))) := by kernel_rfl

theorem T_slices_Contains___int_int__ok (N : Nat) : chkBody Try.f60 (T_slices_Contains___int_int__sg N).ps = true := by kernel_rfl

theorem T_slices_Contains___int_int__callable : Callable Try.prog 60 := callable_of Try.func60 (show chkFn Try.f60 = true by kernel_rfl)

theorem T_slices_Contains___int_int__good (N : Nat) : Good Try.prog 60 (T_slices_Contains___int_int__sg N) :=
  good_body mixedOk tabOk (ctx_cons (T_slices_Index___int_int__good N) T_slices_Index___int_int__callable ctx_nil) Try.func60 (T_slices_Contains___int_int__ok N) (fun d _ h => ⟨N, (T_slices_Contains___int_int__den N d.1 d.2.1).trans h⟩)

noncomputable def T_impl_EpochSafe_1_sg (N : Nat) : Sig := Sig.of [.v (.prod (.int .i64) (.int .i64)) true, .box (.prod (.int .i64) (.prod (.slice (.int .i64)) (.prod (.slice (.bool)) (.prod (.slice (.prod (.int .i64) (.int .i64))) (.prod (.slice (.prod (.int .i64) (.int .i64))) (.slice (.int .i64)))))))] [.v (.bool) false] (fun d => T_impl_EpochSafe_1 N d.1 d.2.1)

def T_impl_EpochSafe_1_ann : Nat → List Ghost
  | _ => []

noncomputable def T_impl_EpochSafe_1_ctx (N : Nat) : Ctx := [(60, T_slices_Contains___int_int__sg N)]

theorem T_impl_EpochSafe_1_den (N : Nat) (h1 : Int × Int) (a2 : Int × List Int × List Bool × List (Int × Int) × List (Int × Int) × List Int) :
    den (R := ODen (T_impl_EpochSafe_1_sg N).ps × RDen (T_impl_EpochSafe_1_sg N).rs) tab (T_impl_EpochSafe_1_ctx N) T_impl_EpochSafe_1_ann N (T_impl_EpochSafe_1_sg N) Try.f59 (h1, a2, ()) some =
    ((T_slices_Contains___int_int_ N a2.2.2.2.2.2 h1.2).bind fun o3 =>
    (some (α := ODen (T_impl_EpochSafe_1_sg N).ps × RDen (T_impl_EpochSafe_1_sg N).rs) ((a2, ()), (o3.2.1, ())))) := by kernel_rfl

theorem T_impl_EpochSafe_1_ok (N : Nat) : chkBody Try.f59 (T_impl_EpochSafe_1_sg N).ps = true := by kernel_rfl

theorem T_impl_EpochSafe_1_callable : Callable Try.prog 59 := callable_of Try.func59 (show chkFn Try.f59 = true by kernel_rfl)

theorem T_impl_EpochSafe_1_good (N : Nat) : Good Try.prog 59 (T_impl_EpochSafe_1_sg N) :=
  good_body mixedOk tabOk (ctx_cons (T_slices_Contains___int_int__good N) T_slices_Contains___int_int__callable ctx_nil) Try.func59 (T_impl_EpochSafe_1_ok N) (fun d _ h => ⟨N, (T_impl_EpochSafe_1_den N d.1 d.2.1).trans h⟩)

noncomputable def T_slices_IndexFunc___impl_EpHold_impl_EpHold___impl_EpochSafe_1_sg (N : Nat) : Sig := Sig.of [.v (.slice (.prod (.int .i64) (.int .i64))) false, .clos 59 1, .box (.prod (.int .i64) (.prod (.slice (.int .i64)) (.prod (.slice (.bool)) (.prod (.slice (.prod (.int .i64) (.int .i64))) (.prod (.slice (.prod (.int .i64) (.int .i64))) (.slice (.int .i64)))))))] [.v (.int .i64) false] (fun d => T_slices_IndexFunc___impl_EpHold_impl_EpHold___impl_EpochSafe_1 N d.1 d.2.1)

def T_slices_IndexFunc___impl_EpHold_impl_EpHold___impl_EpochSafe_1_ann : Nat → List Ghost
  | 2 => [.canon [0, 1, 7, 8, 9]]
  | 3 => [.canon [0, 1, 5, 7, 8]]
  | 4 => [.canon [0, 1, 5, 7, 8, 16]]
  | 5 => [.canon [1, 4]]
  | 6 => [.canon [0, 1, 7, 8]]
  | 100002 => [.canon [0, 1, 7, 8]]
  | _ => []

noncomputable def T_slices_IndexFunc___impl_EpHold_impl_EpHold___impl_EpochSafe_1_ctx (N : Nat) : Ctx := [(59, T_impl_EpochSafe_1_sg N)]

def T_slices_IndexFunc___impl_EpHold_impl_EpHold___impl_EpochSafe_1_lp0_sh (s3 : List (Int × Int)) (t5 : Int) (b6 : Int × List Int × List Bool × List (Int × Int) × List (Int × Int) × List Int) : St := { env := [(0, .s (.one (.val (.slice (.prod (.int .i64) (.int .i64))) (s3 : List (Int × Int))))), (1, .s (.one (.clos 59 [0]))), (7, .s (.one (.val (.int .i64) (ilen s3 : Int)))), (8, .s (.one (.val (.int .i64) (t5 : Int))))], objs := [(0, .box [.val (.int .i64) (b6.1 : Int), .val (.slice (.int .i64)) (b6.2.1 : List Int), .val (.slice (.bool)) (b6.2.2.1 : List Bool), .val (.slice (.prod (.int .i64) (.int .i64))) (b6.2.2.2.1 : List (Int × Int)), .val (.slice (.prod (.int .i64) (.int .i64))) (b6.2.2.2.2.1 : List (Int × Int)), .val (.slice (.int .i64)) (b6.2.2.2.2.2 : List Int)])], nx := 1 }

def T_slices_IndexFunc___impl_EpHold_impl_EpHold___impl_EpochSafe_1_lp0_e0 (s3 : List (Int × Int)) (t9 : Int) (b10 : Int × List Int × List Bool × List (Int × Int) × List (Int × Int) × List Int) : St := { env := [(1, .s (.one (.clos 59 [0]))), (4, .s (.one (.val (.int .i64) (t9 : Int))))], objs := [(0, .box [.val (.int .i64) (b10.1 : Int), .val (.slice (.int .i64)) (b10.2.1 : List Int), .val (.slice (.bool)) (b10.2.2.1 : List Bool), .val (.slice (.prod (.int .i64) (.int .i64))) (b10.2.2.2.1 : List (Int × Int)), .val (.slice (.prod (.int .i64) (.int .i64))) (b10.2.2.2.2.1 : List (Int × Int)), .val (.slice (.int .i64)) (b10.2.2.2.2.2 : List Int)])], nx := 1 }

def T_slices_IndexFunc___impl_EpHold_impl_EpHold___impl_EpochSafe_1_lp0_e1 (s3 : List (Int × Int)) (t11 : Int) (t12 : Bool) (b13 : Int × List Int × List Bool × List (Int × Int) × List (Int × Int) × List Int) : St := { env := [(0, .s (.one (.val (.slice (.prod (.int .i64) (.int .i64))) (s3 : List (Int × Int))))), (1, .s (.one (.clos 59 [0]))), (7, .s (.one (.val (.int .i64) (ilen s3 : Int)))), (8, .s (.one (.val (.int .i64) (t11 : Int)))), (9, .s (.one (.val (.bool) (t12 : Bool))))], objs := [(0, .box [.val (.int .i64) (b13.1 : Int), .val (.slice (.int .i64)) (b13.2.1 : List Int), .val (.slice (.bool)) (b13.2.2.1 : List Bool), .val (.slice (.prod (.int .i64) (.int .i64))) (b13.2.2.2.1 : List (Int × Int)), .val (.slice (.prod (.int .i64) (.int .i64))) (b13.2.2.2.2.1 : List (Int × Int)), .val (.slice (.int .i64)) (b13.2.2.2.2.2 : List Int)])], nx := 1 }

noncomputable def T_slices_IndexFunc___impl_EpHold_impl_EpHold___impl_EpochSafe_1_lp0_m (N : Nat) {R : Type} (n : Nat) (st : St) (K : Ex → St → Option R) : Option R := loopN (roundG (T_slices_IndexFunc___impl_EpHold_impl_EpHold___impl_EpochSafe_1_ann 100002) fun st k => sx tab (T_slices_IndexFunc___impl_EpHold_impl_EpHold___impl_EpochSafe_1_ctx N) T_slices_IndexFunc___impl_EpHold_impl_EpHold___impl_EpochSafe_1_ann N (nthLoop Try.f119 0) st k) n st K

theorem T_slices_IndexFunc___impl_EpHold_impl_EpHold___impl_EpochSafe_1_lp0_step (N : Nat) {R : Type} (n : Nat) (K : Ex → St → Option R) (s3 : List (Int × Int)) (t5 : Int) (b6 : Int × List Int × List Bool × List (Int × Int) × List (Int × Int) × List Int) :
    T_slices_IndexFunc___impl_EpHold_impl_EpHold___impl_EpochSafe_1_lp0_m N (n + 1) (T_slices_IndexFunc___impl_EpHold_impl_EpHold___impl_EpochSafe_1_lp0_sh s3 t5 b6) K =
    (bif decide (t5 < (ilen s3)) then
    (bif inb t5 (List.length s3) then
      ((T_impl_EpochSafe_1 N (List.getD s3 (Int.toNat t5) ((0 : Int), (0 : Int))) b6).bind fun o14 =>
        (bif o14.2.1 then
          (K .ret (T_slices_IndexFunc___impl_EpHold_impl_EpHold___impl_EpochSafe_1_lp0_e0 s3 t5 o14.1.1))
          else
          (T_slices_IndexFunc___impl_EpHold_impl_EpHold___impl_EpochSafe_1_lp0_m N n (T_slices_IndexFunc___impl_EpHold_impl_EpHold___impl_EpochSafe_1_lp0_sh s3 (iadd .i64 t5 (1 : Int)) o14.1.1) K))) else none)
    else
    (K (.exit 0) (T_slices_IndexFunc___impl_EpHold_impl_EpHold___impl_EpochSafe_1_lp0_e1 s3 t5 (decide (t5 < (ilen s3))) b6))) := by kernel_rfl

theorem T_slices_IndexFunc___impl_EpHold_impl_EpHold___impl_EpochSafe_1_lp0_eq (N : Nat) {R : Type} (s3 : List (Int × Int)) (K : Ex → St → Option R) : ∀ (n : Nat) (t5 : Int) (b6 : Int × List Int × List Bool × List (Int × Int) × List (Int × Int) × List Int), T_slices_IndexFunc___impl_EpHold_impl_EpHold___impl_EpochSafe_1_lp0_m N n (T_slices_IndexFunc___impl_EpHold_impl_EpHold___impl_EpochSafe_1_lp0_sh s3 t5 b6) K = T_slices_IndexFunc___impl_EpHold_impl_EpHold___impl_EpochSafe_1_lp0 N s3 (fun t9 b10 => (K .ret (T_slices_IndexFunc___impl_EpHold_impl_EpHold___impl_EpochSafe_1_lp0_e0 s3 t9 b10))) (fun t11 t12 b13 => (K (.exit 0) (T_slices_IndexFunc___impl_EpHold_impl_EpHold___impl_EpochSafe_1_lp0_e1 s3 t11 t12 b13))) n t5 b6
  | 0, _, _ => rfl
  | n + 1, t5, b6 => by rw [T_slices_IndexFunc___impl_EpHold_impl_EpHold___impl_EpochSafe_1_lp0_step, T_slices_IndexFunc___impl_EpHold_impl_EpHold___impl_EpochSafe_1_lp0]; (try simp only [T_slices_IndexFunc___impl_EpHold_impl_EpHold___impl_EpochSafe_1_lp0_eq N s3 K n])

theorem T_slices_IndexFunc___impl_EpHold_impl_EpHold___impl_EpochSafe_1_c1 (N : Nat) (s1 : List (Int × Int)) (t15 : Int) (b16 : Int × List Int × List Bool × List (Int × Int) × List (Int × Int) × List Int) :
    ((ctxK (R := ODen (T_slices_IndexFunc___impl_EpHold_impl_EpHold___impl_EpochSafe_1_sg N).ps × RDen (T_slices_IndexFunc___impl_EpHold_impl_EpHold___impl_EpochSafe_1_sg N).rs) tab (T_slices_IndexFunc___impl_EpHold_impl_EpHold___impl_EpochSafe_1_ctx N) T_slices_IndexFunc___impl_EpHold_impl_EpHold___impl_EpochSafe_1_ann N (theCode Try.f119) [1, 0, 1, 0] (retK tab (T_slices_IndexFunc___impl_EpHold_impl_EpHold___impl_EpochSafe_1_sg N) Try.f119.results.toList some)) .ret (T_slices_IndexFunc___impl_EpHold_impl_EpHold___impl_EpochSafe_1_lp0_e0 s1 t15 b16)) =
    (some (α := ODen (T_slices_IndexFunc___impl_EpHold_impl_EpHold___impl_EpochSafe_1_sg N).ps × RDen (T_slices_IndexFunc___impl_EpHold_impl_EpHold___impl_EpochSafe_1_sg N).rs) ((b16, ()), (t15, ()))) := by kernel_rfl

theorem T_slices_IndexFunc___impl_EpHold_impl_EpHold___impl_EpochSafe_1_c2 (N : Nat) (s1 : List (Int × Int)) (t17 : Int) (t18 : Bool) (b19 : Int × List Int × List Bool × List (Int × Int) × List (Int × Int) × List Int) :
    ((ctxK (R := ODen (T_slices_IndexFunc___impl_EpHold_impl_EpHold___impl_EpochSafe_1_sg N).ps × RDen (T_slices_IndexFunc___impl_EpHold_impl_EpHold___impl_EpochSafe_1_sg N).rs) tab (T_slices_IndexFunc___impl_EpHold_impl_EpHold___impl_EpochSafe_1_ctx N) T_slices_IndexFunc___impl_EpHold_impl_EpHold___impl_EpochSafe_1_ann N (theCode Try.f119) [1, 0, 1, 0] (retK tab (T_slices_IndexFunc___impl_EpHold_impl_EpHold___impl_EpochSafe_1_sg N) Try.f119.results.toList some)) (.exit 0) (T_slices_IndexFunc___impl_EpHold_impl_EpHold___impl_EpochSafe_1_lp0_e1 s1 t17 t18 b19)) =
    (some (α := ODen (T_slices_IndexFunc___impl_EpHold_impl_EpHold___impl_EpochSafe_1_sg N).ps × RDen (T_slices_IndexFunc___impl_EpHold_impl_EpHold___impl_EpochSafe_1_sg N).rs) ((b19, ()), ((-1 : Int), ()))) := by kernel_rfl

theorem T_slices_IndexFunc___impl_EpHold_impl_EpHold___impl_EpochSafe_1_den (N : Nat) (s1 : List (Int × Int)) (cap2 : Int × List Int × List Bool × List (Int × Int) × List (Int × Int) × List Int) :
    den (R := ODen (T_slices_IndexFunc___impl_EpHold_impl_EpHold___impl_EpochSafe_1_sg N).ps × RDen (T_slices_IndexFunc___impl_EpHold_impl_EpHold___impl_EpochSafe_1_sg N).rs) tab (T_slices_IndexFunc___impl_EpHold_impl_EpHold___impl_EpochSafe_1_ctx N) T_slices_IndexFunc___impl_EpHold_impl_EpHold___impl_EpochSafe_1_ann N (T_slices_IndexFunc___impl_EpHold_impl_EpHold___impl_EpochSafe_1_sg N) Try.f119 (s1, cap2, ()) some =
    (T_slices_IndexFunc___impl_EpHold_impl_EpHold___impl_EpochSafe_1_lp0 N s1
    (fun t15 b16 =>
      (some (α := ODen (T_slices_IndexFunc___impl_EpHold_impl_EpHold___impl_EpochSafe_1_sg N).ps × RDen (T_slices_IndexFunc___impl_EpHold_impl_EpHold___impl_EpochSafe_1_sg N).rs) ((b16, ()), (t15, ()))))
    (fun t17 t18 b19 =>
      (some (α := ODen (T_slices_IndexFunc___impl_EpHold_impl_EpHold___impl_EpochSafe_1_sg N).ps × RDen (T_slices_IndexFunc___impl_EpHold_impl_EpHold___impl_EpochSafe_1_sg N).rs) ((b19, ()), ((-1 : Int), ()))))
     N (0 : Int) cap2) := by
  have h : den (R := ODen (T_slices_IndexFunc___impl_EpHold_impl_EpHold___impl_EpochSafe_1_sg N).ps × RDen (T_slices_IndexFunc___impl_EpHold_impl_EpHold___impl_EpochSafe_1_sg N).rs) tab (T_slices_IndexFunc___impl_EpHold_impl_EpHold___impl_EpochSafe_1_ctx N) T_slices_IndexFunc___impl_EpHold_impl_EpHold___impl_EpochSafe_1_ann N (T_slices_IndexFunc___impl_EpHold_impl_EpHold___impl_EpochSafe_1_sg N) Try.f119 (s1, cap2, ()) some =
    (T_slices_IndexFunc___impl_EpHold_impl_EpHold___impl_EpochSafe_1_lp0_m N N (T_slices_IndexFunc___impl_EpHold_impl_EpHold___impl_EpochSafe_1_lp0_sh s1 (0 : Int) cap2) (ctxK (R := ODen (T_slices_IndexFunc___impl_EpHold_impl_EpHold___impl_EpochSafe_1_sg N).ps × RDen (T_slices_IndexFunc___impl_EpHold_impl_EpHold___impl_EpochSafe_1_sg N).rs) tab (T_slices_IndexFunc___impl_EpHold_impl_EpHold___impl_EpochSafe_1_ctx N) T_slices_IndexFunc___impl_EpHold_impl_EpHold___impl_EpochSafe_1_ann N (theCode Try.f119) [1, 0, 1, 0] (retK tab (T_slices_IndexFunc___impl_EpHold_impl_EpHold___impl_EpochSafe_1_sg N) Try.f119.results.toList some))) := by kernel_rfl
  rw [h]
  (try simp only [T_slices_IndexFunc___impl_EpHold_impl_EpHold___impl_EpochSafe_1_lp0_eq, T_slices_IndexFunc___impl_EpHold_impl_EpHold___impl_EpochSafe_1_c1, T_slices_IndexFunc___impl_EpHold_impl_EpHold___impl_EpochSafe_1_c2]) <;> rfl

theorem T_slices_IndexFunc___impl_EpHold_impl_EpHold___impl_EpochSafe_1_ok (N : Nat) : chkBody Try.f119 (T_slices_IndexFunc___impl_EpHold_impl_EpHold___impl_EpochSafe_1_sg N).ps = true := by kernel_rfl

theorem T_slices_IndexFunc___impl_EpHold_impl_EpHold___impl_EpochSafe_1_callable : Callable Try.prog 119 := callable_of Try.func119 (show chkFn Try.f119 = true by kernel_rfl)

theorem T_slices_IndexFunc___impl_EpHold_impl_EpHold___impl_EpochSafe_1_good (N : Nat) : Good Try.prog 119 (T_slices_IndexFunc___impl_EpHold_impl_EpHold___impl_EpochSafe_1_sg N) :=
  good_body mixedOk tabOk (ctx_cons (T_impl_EpochSafe_1_good N) T_impl_EpochSafe_1_callable ctx_nil) Try.func119 (T_slices_IndexFunc___impl_EpHold_impl_EpHold___impl_EpochSafe_1_ok N) (fun d _ h => ⟨N, (T_slices_IndexFunc___impl_EpHold_impl_EpHold___impl_EpochSafe_1_den N d.1 d.2.1).trans h⟩)

noncomputable def T_slices_ContainsFunc___impl_EpHold_impl_EpHold___impl_EpochSafe_1_sg (N : Nat) : Sig := Sig.of [.v (.slice (.prod (.int .i64) (.int .i64))) false, .clos 59 1, .box (.prod (.int .i64) (.prod (.slice (.int .i64)) (.prod (.slice (.bool)) (.prod (.slice (.prod (.int .i64) (.int .i64))) (.prod (.slice (.prod (.int .i64) (.int .i64))) (.slice (.int .i64)))))))] [.v (.bool) false] (fun d => T_slices_ContainsFunc___impl_EpHold_impl_EpHold___impl_EpochSafe_1 N d.1 d.2.1)

def T_slices_ContainsFunc___impl_EpHold_impl_EpHold___impl_EpochSafe_1_ann : Nat → List Ghost
  | _ => []

noncomputable def T_slices_ContainsFunc___impl_EpHold_impl_EpHold___impl_EpochSafe_1_ctx (N : Nat) : Ctx := [(119, T_slices_IndexFunc___impl_EpHold_impl_EpHold___impl_EpochSafe_1_sg N)]

theorem T_slices_ContainsFunc___impl_EpHold_impl_EpHold___impl_EpochSafe_1_den (N : Nat) (s1 : List (Int × Int)) (cap2 : Int × List Int × List Bool × List (Int × Int) × List (Int × Int) × List Int) :
    den (R := ODen (T_slices_ContainsFunc___impl_EpHold_impl_EpHold___impl_EpochSafe_1_sg N).ps × RDen (T_slices_ContainsFunc___impl_EpHold_impl_EpHold___impl_EpochSafe_1_sg N).rs) tab (T_slices_ContainsFunc___impl_EpHold_impl_EpHold___impl_EpochSafe_1_ctx N) T_slices_ContainsFunc___impl_EpHold_impl_EpHold___impl_EpochSafe_1_ann N (T_slices_ContainsFunc___impl_EpHold_impl_EpHold___impl_EpochSafe_1_sg N) Try.f58 (s1, cap2, ()) some =
    ((T_slices_IndexFunc___impl_EpHold_impl_EpHold___impl_EpochSafe_1 N s1 cap2).bind fun o3 =>
    (some (α := ODen (T_slices_ContainsFunc___impl_EpHold_impl_EpHold___impl_EpochSafe_1_sg N).ps × RDen (T_slices_ContainsFunc___impl_EpHold_impl_EpHold___impl_EpochSafe_1_sg N).rs) ((o3.1.1, ()), (decide (o3.2.1 ≥ (0 : Int)), ())))) := by kernel_rfl

theorem T_slices_ContainsFunc___impl_EpHold_impl_EpHold___impl_EpochSafe_1_ok (N : Nat) : chkBody Try.f58 (T_slices_ContainsFunc___impl_EpHold_impl_EpHold___impl_EpochSafe_1_sg N).ps = true := by kernel_rfl

theorem T_slices_ContainsFunc___impl_EpHold_impl_EpHold___impl_EpochSafe_1_callable : Callable Try.prog 58 := callable_of Try.func58 (show chkFn Try.f58 = true by kernel_rfl)

theorem T_slices_ContainsFunc___impl_EpHold_impl_EpHold___impl_EpochSafe_1_good (N : Nat) : Good Try.prog 58 (T_slices_ContainsFunc___impl_EpHold_impl_EpHold___impl_EpochSafe_1_sg N) :=
  good_body mixedOk tabOk (ctx_cons (T_slices_IndexFunc___impl_EpHold_impl_EpHold___impl_EpochSafe_1_good N) T_slices_IndexFunc___impl_EpHold_impl_EpHold___impl_EpochSafe_1_callable ctx_nil) Try.func58 (T_slices_ContainsFunc___impl_EpHold_impl_EpHold___impl_EpochSafe_1_ok N) (fun d _ h => ⟨N, (T_slices_ContainsFunc___impl_EpHold_impl_EpHold___impl_EpochSafe_1_den N d.1 d.2.1).trans h⟩)

noncomputable def T_impl_EpochSafe_sg (N : Nat) : Sig := Sig.of [.v (.prod (.int .i64) (.prod (.slice (.int .i64)) (.prod (.slice (.bool)) (.prod (.slice (.prod (.int .i64) (.int .i64))) (.prod (.slice (.prod (.int .i64) (.int .i64))) (.slice (.int .i64))))))) true] [.v (.bool) false] (fun d => T_impl_EpochSafe N d.1)

def T_impl_EpochSafe_ann : Nat → List Ghost
  | _ => []

noncomputable def T_impl_EpochSafe_ctx (N : Nat) : Ctx := [(58, T_slices_ContainsFunc___impl_EpHold_impl_EpHold___impl_EpochSafe_1_sg N)]

theorem T_impl_EpochSafe_den (N : Nat) (e1 : Int × List Int × List Bool × List (Int × Int) × List (Int × Int) × List Int) :
    den (R := ODen (T_impl_EpochSafe_sg N).ps × RDen (T_impl_EpochSafe_sg N).rs) tab (T_impl_EpochSafe_ctx N) T_impl_EpochSafe_ann N (T_impl_EpochSafe_sg N) Try.f15 (e1, ()) some =
    ((T_slices_ContainsFunc___impl_EpHold_impl_EpHold___impl_EpochSafe_1 N e1.2.2.2.2.1 e1).bind fun o2 =>
    (some (α := ODen (T_impl_EpochSafe_sg N).ps × RDen (T_impl_EpochSafe_sg N).rs) ((), (!o2.2.1, ())))) := by kernel_rfl

theorem T_impl_EpochSafe_ok (N : Nat) : chkBody Try.f15 (T_impl_EpochSafe_sg N).ps = true := by kernel_rfl

theorem T_impl_EpochSafe_callable : Callable Try.prog 15 := callable_of Try.func15 (show chkFn Try.f15 = true by kernel_rfl)

theorem T_impl_EpochSafe_good (N : Nat) : Good Try.prog 15 (T_impl_EpochSafe_sg N) :=
  good_body mixedOk tabOk (ctx_cons (T_slices_ContainsFunc___impl_EpHold_impl_EpHold___impl_EpochSafe_1_good N) T_slices_ContainsFunc___impl_EpHold_impl_EpHold___impl_EpochSafe_1_callable ctx_nil) Try.func15 (T_impl_EpochSafe_ok N) (fun d _ h => ⟨N, (T_impl_EpochSafe_den N d.1).trans h⟩)

noncomputable def T_impl_copyInts_sg (N : Nat) : Sig := Sig.of [.v (.slice (.int .i64)) false] [.v (.own (.int .i64)) false] (fun d => T_impl_copyInts N d.1)

def T_impl_copyInts_ann : Nat → List Ghost
  | _ => []

noncomputable def T_impl_copyInts_ctx (N : Nat) : Ctx := []

theorem T_impl_copyInts_den (N : Nat) (l1 : List Int) :
    den (R := ODen (T_impl_copyInts_sg N).ps × RDen (T_impl_copyInts_sg N).rs) tab (T_impl_copyInts_ctx N) T_impl_copyInts_ann N (T_impl_copyInts_sg N) Try.f62 (l1, ()) some =
    (bif room (List.length l1) then
    (some (α := ODen (T_impl_copyInts_sg N).ps × RDen (T_impl_copyInts_sg N).rs) ((), (l1, ()))) else none) := by kernel_rfl

theorem T_impl_copyInts_ok (N : Nat) : chkBody Try.f62 (T_impl_copyInts_sg N).ps = true := by kernel_rfl

theorem T_impl_copyInts_callable : Callable Try.prog 62 := callable_of Try.func62 (show chkFn Try.f62 = true by kernel_rfl)

theorem T_impl_copyInts_good (N : Nat) : Good Try.prog 62 (T_impl_copyInts_sg N) :=
  good_body mixedOk tabOk ctx_nil Try.func62 (T_impl_copyInts_ok N) (fun d _ h => ⟨N, (T_impl_copyInts_den N d.1).trans h⟩)

noncomputable def T_impl_EpochOk_sg (N : Nat) : Sig := Sig.of [.v (.prod (.int .i64) (.prod (.slice (.int .i64)) (.prod (.slice (.bool)) (.prod (.slice (.prod (.int .i64) (.int .i64))) (.prod (.slice (.prod (.int .i64) (.int .i64))) (.slice (.int .i64))))))) true] [.v (.bool) false] (fun d => T_impl_EpochOk N d.1)

def T_impl_EpochOk_ann : Nat → List Ghost
  | 4 => [.canon [1, 34, 35, 36, 37]]
  | 5 => [.canon [1, 4, 34, 35, 36]]
  | 6 => [.canon [1, 34, 35, 36, 58]]
  | 7 => [.canon [2]]
  | 8 => [.canon [1, 34, 35, 36]]
  | 11 => [.canon [1, 5, 61, 62, 63, 64]]
  | 12 => [.canon [1, 5, 6, 7, 61, 62, 63]]
  | 13 => [.canon [1, 5, 6, 61, 62, 63, 68]]
  | 14 => [.canon [1, 5, 61, 62, 63]]
  | 15 => [.canon [1, 5, 61, 62, 63]]
  | 18 => [.canon [1, 5, 8, 79, 80, 81, 82]]
  | 19 => [.canon [1, 5, 8, 10, 79, 80, 81]]
  | 20 => [.canon [1, 5, 8, 10, 79, 80, 81, 97]]
  | 21 => [.canon [2]]
  | 22 => [.canon [1, 5, 8, 79, 80, 81]]
  | 23 => [.canon [1, 5, 8, 79, 80, 81]]
  | 25 => [.canon [1, 5, 104, 105, 106, 107]]
  | 26 => [.canon [1, 5, 12, 104, 105, 106]]
  | 27 => [.canon [1, 5, 12, 104, 105, 106, 112]]
  | 28 => [.canon [2]]
  | 29 => [.canon [1, 5, 104, 105, 106]]
  | 30 => [.canon [1, 5, 104, 105, 106]]
  | 32 => [.canon [1, 119, 120, 121]]
  | 33 => [.canon [1, 14, 119, 120]]
  | 34 => [.canon [1, 119, 120, 124]]
  | 35 => [.canon [2]]
  | 36 => [.canon [1, 119, 120]]
  | 38 => [.canon [1, 127, 128, 129, 130]]
  | 39 => [.canon [1, 16, 127, 128, 129]]
  | 40 => [.canon [1, 127, 128, 129, 151]]
  | 41 => [.canon [2]]
  | 42 => [.canon [1, 127, 128, 129]]
  | 100004 => [.canon [1, 34, 35, 36]]
  | 100011 => [.canon [1, 5, 61, 62, 63]]
  | 100018 => [.canon [1, 5, 8, 79, 80, 81]]
  | 100025 => [.canon [1, 5, 104, 105, 106]]
  | 100032 => [.canon [1, 119, 120]]
  | 100038 => [.canon [1, 127, 128, 129]]
  | _ => []

noncomputable def T_impl_EpochOk_ctx (N : Nat) : Ctx := [(61, T_impl_within_sg N), (62, T_impl_copyInts_sg N)]

def T_impl_EpochOk_lp0_sh (t3 : List Int) (t5 : Int) (b6 : Int × List Int × List Bool × List (Int × Int) × List (Int × Int) × List Int) : St := { env := [(1, .s (.one (.ptr 0 0))), (34, .s (.one (.val (.slice (.int .i64)) (t3 : List Int)))), (35, .s (.one (.val (.int .i64) (ilen b6.2.1 : Int)))), (36, .s (.one (.val (.int .i64) (t5 : Int))))], objs := [(0, .box [.val (.int .i64) (b6.1 : Int), .val (.slice (.int .i64)) (b6.2.1 : List Int), .val (.slice (.bool)) (b6.2.2.1 : List Bool), .val (.slice (.prod (.int .i64) (.int .i64))) (b6.2.2.2.1 : List (Int × Int)), .val (.slice (.prod (.int .i64) (.int .i64))) (b6.2.2.2.2.1 : List (Int × Int)), .val (.slice (.int .i64)) (b6.2.2.2.2.2 : List Int)])], nx := 1 }

def T_impl_EpochOk_lp0_e0 (t3 : List Int) (b6 : Int × List Int × List Bool × List (Int × Int) × List (Int × Int) × List Int) : St := { env := [(2, .s (.one (.val (.bool) (false : Bool))))], objs := [], nx := 0 }

def T_impl_EpochOk_lp0_e1 (t3 : List Int) (b6 : Int × List Int × List Bool × List (Int × Int) × List (Int × Int) × List Int) (t7 : Int) (t8 : Bool) : St := { env := [(1, .s (.one (.ptr 0 0))), (34, .s (.one (.val (.slice (.int .i64)) (t3 : List Int)))), (35, .s (.one (.val (.int .i64) (ilen b6.2.1 : Int)))), (36, .s (.one (.val (.int .i64) (t7 : Int)))), (37, .s (.one (.val (.bool) (t8 : Bool))))], objs := [(0, .box [.val (.int .i64) (b6.1 : Int), .val (.slice (.int .i64)) (b6.2.1 : List Int), .val (.slice (.bool)) (b6.2.2.1 : List Bool), .val (.slice (.prod (.int .i64) (.int .i64))) (b6.2.2.2.1 : List (Int × Int)), .val (.slice (.prod (.int .i64) (.int .i64))) (b6.2.2.2.2.1 : List (Int × Int)), .val (.slice (.int .i64)) (b6.2.2.2.2.2 : List Int)])], nx := 1 }

noncomputable def T_impl_EpochOk_lp0_m (N : Nat) {R : Type} (n : Nat) (st : St) (K : Ex → St → Option R) : Option R := loopN (roundG (T_impl_EpochOk_ann 100004) fun st k => sx tab (T_impl_EpochOk_ctx N) T_impl_EpochOk_ann N (nthLoop Try.f16 0) st k) n st K

theorem T_impl_EpochOk_lp0_step (N : Nat) {R : Type} (n : Nat) (K : Ex → St → Option R) (t3 : List Int) (t5 : Int) (b6 : Int × List Int × List Bool × List (Int × Int) × List (Int × Int) × List Int) :
    T_impl_EpochOk_lp0_m N (n + 1) (T_impl_EpochOk_lp0_sh t3 t5 b6) K =
    (bif decide (t5 < (ilen b6.2.1)) then
    (bif inb t5 (List.length t3) then
      (bif (List.getD t3 (Int.toNat t5) (0 : Int)) != (-1 : Int) then
        (bif (List.getD t3 (Int.toNat t5) (0 : Int)) != b6.1 then
          (bif (List.getD t3 (Int.toNat t5) (0 : Int)) != (isub .i64 b6.1 (1 : Int)) then
            (K .ret (T_impl_EpochOk_lp0_e0 t3 b6))
            else
            (bif decide ((List.getD t3 (Int.toNat t5) (0 : Int)) < (0 : Int)) then
              (K .ret (T_impl_EpochOk_lp0_e0 t3 b6))
              else
              (T_impl_EpochOk_lp0_m N n (T_impl_EpochOk_lp0_sh t3 (iadd .i64 t5 (1 : Int)) b6) K)))
          else
          (T_impl_EpochOk_lp0_m N n (T_impl_EpochOk_lp0_sh t3 (iadd .i64 t5 (1 : Int)) b6) K))
        else
        (T_impl_EpochOk_lp0_m N n (T_impl_EpochOk_lp0_sh t3 (iadd .i64 t5 (1 : Int)) b6) K)) else none)
    else
    (K (.exit 0) (T_impl_EpochOk_lp0_e1 t3 b6 t5 (decide (t5 < (ilen b6.2.1)))))) := by kernel_rfl

theorem T_impl_EpochOk_lp0_eq (N : Nat) {R : Type} (t3 : List Int) (b6 : Int × List Int × List Bool × List (Int × Int) × List (Int × Int) × List Int) (K : Ex → St → Option R) : ∀ (n : Nat) (t5 : Int), T_impl_EpochOk_lp0_m N n (T_impl_EpochOk_lp0_sh t3 t5 b6) K = T_impl_EpochOk_lp0 N t3 b6 (K .ret (T_impl_EpochOk_lp0_e0 t3 b6)) (fun t7 t8 => (K (.exit 0) (T_impl_EpochOk_lp0_e1 t3 b6 t7 t8))) n t5
  | 0, _ => rfl
  | n + 1, t5 => by rw [T_impl_EpochOk_lp0_step, T_impl_EpochOk_lp0]; (try simp only [T_impl_EpochOk_lp0_eq N t3 b6 K n])

def T_impl_EpochOk_lp1_sh (t11 : List Bool) (t13 : Int) (b14 : Int × List Int × List Bool × List (Int × Int) × List (Int × Int) × List Int) (l15 : List Int) : St := { env := [(1, .s (.one (.ptr 0 0))), (5, .s (.one (.aptr 1))), (61, .s (.one (.val (.slice (.bool)) (t11 : List Bool)))), (62, .s (.one (.val (.int .i64) (ilen b14.2.2.1 : Int)))), (63, .s (.one (.val (.int .i64) (t13 : Int))))], objs := [(0, .box [.val (.int .i64) (b14.1 : Int), .val (.slice (.int .i64)) (b14.2.1 : List Int), .val (.slice (.bool)) (b14.2.2.1 : List Bool), .val (.slice (.prod (.int .i64) (.int .i64))) (b14.2.2.2.1 : List (Int × Int)), .val (.slice (.prod (.int .i64) (.int .i64))) (b14.2.2.2.2.1 : List (Int × Int)), .val (.slice (.int .i64)) (b14.2.2.2.2.2 : List Int)]), (1, .arr (.int .i64) (l15 : List Int))], nx := 2 }

def T_impl_EpochOk_lp1_e0 (t11 : List Bool) (b14 : Int × List Int × List Bool × List (Int × Int) × List (Int × Int) × List Int) (t16 : Int) (t17 : Bool) (l18 : List Int) : St := { env := [(1, .s (.one (.ptr 0 0))), (5, .s (.one (.aptr 1))), (61, .s (.one (.val (.slice (.bool)) (t11 : List Bool)))), (62, .s (.one (.val (.int .i64) (ilen b14.2.2.1 : Int)))), (63, .s (.one (.val (.int .i64) (t16 : Int)))), (64, .s (.one (.val (.bool) (t17 : Bool))))], objs := [(0, .box [.val (.int .i64) (b14.1 : Int), .val (.slice (.int .i64)) (b14.2.1 : List Int), .val (.slice (.bool)) (b14.2.2.1 : List Bool), .val (.slice (.prod (.int .i64) (.int .i64))) (b14.2.2.2.1 : List (Int × Int)), .val (.slice (.prod (.int .i64) (.int .i64))) (b14.2.2.2.2.1 : List (Int × Int)), .val (.slice (.int .i64)) (b14.2.2.2.2.2 : List Int)]), (1, .arr (.int .i64) (l18 : List Int))], nx := 2 }

noncomputable def T_impl_EpochOk_lp1_m (N : Nat) {R : Type} (n : Nat) (st : St) (K : Ex → St → Option R) : Option R := loopN (roundG (T_impl_EpochOk_ann 100011) fun st k => sx tab (T_impl_EpochOk_ctx N) T_impl_EpochOk_ann N (nthLoop Try.f16 1) st k) n st K

theorem T_impl_EpochOk_lp1_step (N : Nat) {R : Type} (n : Nat) (K : Ex → St → Option R) (t11 : List Bool) (t13 : Int) (b14 : Int × List Int × List Bool × List (Int × Int) × List (Int × Int) × List Int) (l15 : List Int) :
    T_impl_EpochOk_lp1_m N (n + 1) (T_impl_EpochOk_lp1_sh t11 t13 b14 l15) K =
    (bif decide (t13 < (ilen b14.2.2.1)) then
    (bif inb t13 (List.length t11) then
      (bif List.getD t11 (Int.toNat t13) false then
        (bif (inb t13 10) && (decide ((List.length l15) = 10)) then
          (bif (inb t13 10) && (decide ((List.length l15) = 10)) then
            (T_impl_EpochOk_lp1_m N n (T_impl_EpochOk_lp1_sh t11 (iadd .i64 t13 (1 : Int)) b14 (List.set l15 (Int.toNat t13) (iadd .i64 (List.getD l15 (Int.toNat t13) (0 : Int)) (1 : Int)))) K) else none) else none)
        else
        (T_impl_EpochOk_lp1_m N n (T_impl_EpochOk_lp1_sh t11 (iadd .i64 t13 (1 : Int)) b14 l15) K)) else none)
    else
    (K (.exit 2) (T_impl_EpochOk_lp1_e0 t11 b14 t13 (decide (t13 < (ilen b14.2.2.1))) l15))) := by kernel_rfl

theorem T_impl_EpochOk_lp1_eq (N : Nat) {R : Type} (t11 : List Bool) (b14 : Int × List Int × List Bool × List (Int × Int) × List (Int × Int) × List Int) (K : Ex → St → Option R) : ∀ (n : Nat) (t13 : Int) (l15 : List Int), T_impl_EpochOk_lp1_m N n (T_impl_EpochOk_lp1_sh t11 t13 b14 l15) K = T_impl_EpochOk_lp1 N t11 b14 (fun t16 t17 l18 => (K (.exit 2) (T_impl_EpochOk_lp1_e0 t11 b14 t16 t17 l18))) n t13 l15
  | 0, _, _ => rfl
  | n + 1, t13, l15 => by rw [T_impl_EpochOk_lp1_step, T_impl_EpochOk_lp1]; (try simp only [T_impl_EpochOk_lp1_eq N t11 b14 K n])

def T_impl_EpochOk_lp2_sh (t23 : List (Int × Int)) (t25 : Int) (b26 : Int × List Int × List Bool × List (Int × Int) × List (Int × Int) × List Int) (l27 : List Int) (l28 : List Int) : St := { env := [(1, .s (.one (.ptr 0 0))), (5, .s (.one (.aptr 1))), (8, .s (.one (.own 2))), (79, .s (.one (.val (.slice (.prod (.int .i64) (.int .i64))) (t23 : List (Int × Int))))), (80, .s (.one (.val (.int .i64) (ilen b26.2.2.2.1 : Int)))), (81, .s (.one (.val (.int .i64) (t25 : Int))))], objs := [(0, .box [.val (.int .i64) (b26.1 : Int), .val (.slice (.int .i64)) (b26.2.1 : List Int), .val (.slice (.bool)) (b26.2.2.1 : List Bool), .val (.slice (.prod (.int .i64) (.int .i64))) (b26.2.2.2.1 : List (Int × Int)), .val (.slice (.prod (.int .i64) (.int .i64))) (b26.2.2.2.2.1 : List (Int × Int)), .val (.slice (.int .i64)) (b26.2.2.2.2.2 : List Int)]), (1, .arr (.int .i64) (l27 : List Int)), (2, .arr (.int .i64) (l28 : List Int))], nx := 3 }

def T_impl_EpochOk_lp2_e0 (t23 : List (Int × Int)) (b26 : Int × List Int × List Bool × List (Int × Int) × List (Int × Int) × List Int) (l27 : List Int) : St := { env := [(2, .s (.one (.val (.bool) (false : Bool))))], objs := [], nx := 0 }

def T_impl_EpochOk_lp2_e1 (t23 : List (Int × Int)) (b26 : Int × List Int × List Bool × List (Int × Int) × List (Int × Int) × List Int) (l27 : List Int) (t29 : Int) (t30 : Bool) (l31 : List Int) : St := { env := [(1, .s (.one (.ptr 0 0))), (5, .s (.one (.aptr 1))), (8, .s (.one (.own 2))), (79, .s (.one (.val (.slice (.prod (.int .i64) (.int .i64))) (t23 : List (Int × Int))))), (80, .s (.one (.val (.int .i64) (ilen b26.2.2.2.1 : Int)))), (81, .s (.one (.val (.int .i64) (t29 : Int)))), (82, .s (.one (.val (.bool) (t30 : Bool))))], objs := [(0, .box [.val (.int .i64) (b26.1 : Int), .val (.slice (.int .i64)) (b26.2.1 : List Int), .val (.slice (.bool)) (b26.2.2.1 : List Bool), .val (.slice (.prod (.int .i64) (.int .i64))) (b26.2.2.2.1 : List (Int × Int)), .val (.slice (.prod (.int .i64) (.int .i64))) (b26.2.2.2.2.1 : List (Int × Int)), .val (.slice (.int .i64)) (b26.2.2.2.2.2 : List Int)]), (1, .arr (.int .i64) (l27 : List Int)), (2, .arr (.int .i64) (l31 : List Int))], nx := 3 }

noncomputable def T_impl_EpochOk_lp2_m (N : Nat) {R : Type} (n : Nat) (st : St) (K : Ex → St → Option R) : Option R := loopN (roundG (T_impl_EpochOk_ann 100018) fun st k => sx tab (T_impl_EpochOk_ctx N) T_impl_EpochOk_ann N (nthLoop Try.f16 2) st k) n st K

theorem T_impl_EpochOk_lp2_step (N : Nat) {R : Type} (n : Nat) (K : Ex → St → Option R) (t23 : List (Int × Int)) (t25 : Int) (b26 : Int × List Int × List Bool × List (Int × Int) × List (Int × Int) × List Int) (l27 : List Int) (l28 : List Int) :
    T_impl_EpochOk_lp2_m N (n + 1) (T_impl_EpochOk_lp2_sh t23 t25 b26 l27 l28) K =
    (bif decide (t25 < (ilen b26.2.2.2.1)) then
    (bif inb t25 (List.length t23) then
      (bif (List.getD t23 (Int.toNat t25) ((0 : Int), (0 : Int))).2 != b26.1 then
        (bif (List.getD t23 (Int.toNat t25) ((0 : Int), (0 : Int))).2 != (isub .i64 b26.1 (1 : Int)) then
          (K .ret (T_impl_EpochOk_lp2_e0 t23 b26 l27))
          else
          (bif room ((List.length l28) + (List.length ([(List.getD t23 (Int.toNat t25) ((0 : Int), (0 : Int))).1]))) then
            (T_impl_EpochOk_lp2_m N n (T_impl_EpochOk_lp2_sh t23 (iadd .i64 t25 (1 : Int)) b26 l27 (List.append l28 ([(List.getD t23 (Int.toNat t25) ((0 : Int), (0 : Int))).1]))) K) else none))
        else
        (bif room ((List.length l28) + (List.length ([(List.getD t23 (Int.toNat t25) ((0 : Int), (0 : Int))).1]))) then
          (T_impl_EpochOk_lp2_m N n (T_impl_EpochOk_lp2_sh t23 (iadd .i64 t25 (1 : Int)) b26 l27 (List.append l28 ([(List.getD t23 (Int.toNat t25) ((0 : Int), (0 : Int))).1]))) K) else none)) else none)
    else
    (K (.exit 4) (T_impl_EpochOk_lp2_e1 t23 b26 l27 t25 (decide (t25 < (ilen b26.2.2.2.1))) l28))) := by kernel_rfl

theorem T_impl_EpochOk_lp2_eq (N : Nat) {R : Type} (t23 : List (Int × Int)) (b26 : Int × List Int × List Bool × List (Int × Int) × List (Int × Int) × List Int) (l27 : List Int) (K : Ex → St → Option R) : ∀ (n : Nat) (t25 : Int) (l28 : List Int), T_impl_EpochOk_lp2_m N n (T_impl_EpochOk_lp2_sh t23 t25 b26 l27 l28) K = T_impl_EpochOk_lp2 N t23 b26 l27 (K .ret (T_impl_EpochOk_lp2_e0 t23 b26 l27)) (fun t29 t30 l31 => (K (.exit 4) (T_impl_EpochOk_lp2_e1 t23 b26 l27 t29 t30 l31))) n t25 l28
  | 0, _, _ => rfl
  | n + 1, t25, l28 => by rw [T_impl_EpochOk_lp2_step, T_impl_EpochOk_lp2]; (try simp only [T_impl_EpochOk_lp2_eq N t23 b26 l27 K n])

def T_impl_EpochOk_lp3_sh (t36 : Int) (b37 : Int × List Int × List Bool × List (Int × Int) × List (Int × Int) × List Int) (l38 : List Int) (l39 : List Int) : St := { env := [(1, .s (.one (.ptr 0 0))), (5, .s (.one (.aptr 1))), (104, .s (.one (.own 2))), (105, .s (.one (.val (.int .i64) (ilen l39 : Int)))), (106, .s (.one (.val (.int .i64) (t36 : Int))))], objs := [(0, .box [.val (.int .i64) (b37.1 : Int), .val (.slice (.int .i64)) (b37.2.1 : List Int), .val (.slice (.bool)) (b37.2.2.1 : List Bool), .val (.slice (.prod (.int .i64) (.int .i64))) (b37.2.2.2.1 : List (Int × Int)), .val (.slice (.prod (.int .i64) (.int .i64))) (b37.2.2.2.2.1 : List (Int × Int)), .val (.slice (.int .i64)) (b37.2.2.2.2.2 : List Int)]), (1, .arr (.int .i64) (l38 : List Int)), (2, .arr (.int .i64) (l39 : List Int))], nx := 3 }

def T_impl_EpochOk_lp3_e0 (b37 : Int × List Int × List Bool × List (Int × Int) × List (Int × Int) × List Int) (l39 : List Int) : St := { env := [(2, .s (.one (.val (.bool) (false : Bool))))], objs := [], nx := 0 }

def T_impl_EpochOk_lp3_e1 (b37 : Int × List Int × List Bool × List (Int × Int) × List (Int × Int) × List Int) (l39 : List Int) (t42 : Int) (t43 : Bool) (l44 : List Int) : St := { env := [(1, .s (.one (.ptr 0 0))), (5, .s (.one (.aptr 1))), (104, .s (.one (.own 2))), (105, .s (.one (.val (.int .i64) (ilen l39 : Int)))), (106, .s (.one (.val (.int .i64) (t42 : Int)))), (107, .s (.one (.val (.bool) (t43 : Bool))))], objs := [(0, .box [.val (.int .i64) (b37.1 : Int), .val (.slice (.int .i64)) (b37.2.1 : List Int), .val (.slice (.bool)) (b37.2.2.1 : List Bool), .val (.slice (.prod (.int .i64) (.int .i64))) (b37.2.2.2.1 : List (Int × Int)), .val (.slice (.prod (.int .i64) (.int .i64))) (b37.2.2.2.2.1 : List (Int × Int)), .val (.slice (.int .i64)) (b37.2.2.2.2.2 : List Int)]), (1, .arr (.int .i64) (l44 : List Int)), (2, .arr (.int .i64) (l39 : List Int))], nx := 3 }

noncomputable def T_impl_EpochOk_lp3_m (N : Nat) {R : Type} (n : Nat) (st : St) (K : Ex → St → Option R) : Option R := loopN (roundG (T_impl_EpochOk_ann 100025) fun st k => sx tab (T_impl_EpochOk_ctx N) T_impl_EpochOk_ann N (nthLoop Try.f16 3) st k) n st K

theorem T_impl_EpochOk_lp3_step (N : Nat) {R : Type} (n : Nat) (K : Ex → St → Option R) (t36 : Int) (b37 : Int × List Int × List Bool × List (Int × Int) × List (Int × Int) × List Int) (l38 : List Int) (l39 : List Int) :
    T_impl_EpochOk_lp3_m N (n + 1) (T_impl_EpochOk_lp3_sh t36 b37 l38 l39) K =
    (bif decide (t36 < (ilen l39)) then
    (bif inb t36 (List.length l39) then
      ((T_impl_within N (List.getD l39 (Int.toNat t36) (0 : Int)) (0 : Int) (9 : Int)).bind fun o45 =>
        (bif !o45.2.1 then
          (K .ret (T_impl_EpochOk_lp3_e0 b37 l39))
          else
          (bif (inb (List.getD l39 (Int.toNat t36) (0 : Int)) 10) && (decide ((List.length l38) = 10)) then
            (bif (inb (List.getD l39 (Int.toNat t36) (0 : Int)) 10) && (decide ((List.length l38) = 10)) then
              (T_impl_EpochOk_lp3_m N n (T_impl_EpochOk_lp3_sh (iadd .i64 t36 (1 : Int)) b37 (List.set l38 (Int.toNat (List.getD l39 (Int.toNat t36) (0 : Int))) (iadd .i64 (List.getD l38 (Int.toNat (List.getD l39 (Int.toNat t36) (0 : Int))) (0 : Int)) (1 : Int))) l39) K) else none) else none))) else none)
    else
    (K (.exit 6) (T_impl_EpochOk_lp3_e1 b37 l39 t36 (decide (t36 < (ilen l39))) l38))) := by kernel_rfl

theorem T_impl_EpochOk_lp3_eq (N : Nat) {R : Type} (b37 : Int × List Int × List Bool × List (Int × Int) × List (Int × Int) × List Int) (l39 : List Int) (K : Ex → St → Option R) : ∀ (n : Nat) (t36 : Int) (l38 : List Int), T_impl_EpochOk_lp3_m N n (T_impl_EpochOk_lp3_sh t36 b37 l38 l39) K = T_impl_EpochOk_lp3 N b37 l39 (K .ret (T_impl_EpochOk_lp3_e0 b37 l39)) (fun t42 t43 l44 => (K (.exit 6) (T_impl_EpochOk_lp3_e1 b37 l39 t42 t43 l44))) n t36 l38
  | 0, _, _ => rfl
  | n + 1, t36, l38 => by rw [T_impl_EpochOk_lp3_step, T_impl_EpochOk_lp3]; (try simp only [T_impl_EpochOk_lp3_eq N b37 l39 K n])

def T_impl_EpochOk_lp4_sh (t49 : Int) (t50 : Int) (t51 : Int) (t52 : Int) (t53 : Int) (t54 : Int) (t55 : Int) (t56 : Int) (t57 : Int) (t58 : Int) (t59 : Int) (b60 : Int × List Int × List Bool × List (Int × Int) × List (Int × Int) × List Int) : St := { env := [(1, .s (.one (.ptr 0 0))), (119, .s (.agg [.val (.int .i64) (t49 : Int), .val (.int .i64) (t50 : Int), .val (.int .i64) (t51 : Int), .val (.int .i64) (t52 : Int), .val (.int .i64) (t53 : Int), .val (.int .i64) (t54 : Int), .val (.int .i64) (t55 : Int), .val (.int .i64) (t56 : Int), .val (.int .i64) (t57 : Int), .val (.int .i64) (t58 : Int)])), (120, .s (.one (.val (.int .i64) (t59 : Int))))], objs := [(0, .box [.val (.int .i64) (b60.1 : Int), .val (.slice (.int .i64)) (b60.2.1 : List Int), .val (.slice (.bool)) (b60.2.2.1 : List Bool), .val (.slice (.prod (.int .i64) (.int .i64))) (b60.2.2.2.1 : List (Int × Int)), .val (.slice (.prod (.int .i64) (.int .i64))) (b60.2.2.2.2.1 : List (Int × Int)), .val (.slice (.int .i64)) (b60.2.2.2.2.2 : List Int)])], nx := 1 }

def T_impl_EpochOk_lp4_e0 (t49 : Int) (t50 : Int) (t51 : Int) (t52 : Int) (t53 : Int) (t54 : Int) (t55 : Int) (t56 : Int) (t57 : Int) (t58 : Int) (b60 : Int × List Int × List Bool × List (Int × Int) × List (Int × Int) × List Int) : St := { env := [(2, .s (.one (.val (.bool) (false : Bool))))], objs := [], nx := 0 }

def T_impl_EpochOk_lp4_e1 (t49 : Int) (t50 : Int) (t51 : Int) (t52 : Int) (t53 : Int) (t54 : Int) (t55 : Int) (t56 : Int) (t57 : Int) (t58 : Int) (b60 : Int × List Int × List Bool × List (Int × Int) × List (Int × Int) × List Int) (t61 : Int) (t62 : Bool) : St := { env := [(1, .s (.one (.ptr 0 0))), (119, .s (.agg [.val (.int .i64) (t49 : Int), .val (.int .i64) (t50 : Int), .val (.int .i64) (t51 : Int), .val (.int .i64) (t52 : Int), .val (.int .i64) (t53 : Int), .val (.int .i64) (t54 : Int), .val (.int .i64) (t55 : Int), .val (.int .i64) (t56 : Int), .val (.int .i64) (t57 : Int), .val (.int .i64) (t58 : Int)])), (120, .s (.one (.val (.int .i64) (t61 : Int)))), (121, .s (.one (.val (.bool) (t62 : Bool))))], objs := [(0, .box [.val (.int .i64) (b60.1 : Int), .val (.slice (.int .i64)) (b60.2.1 : List Int), .val (.slice (.bool)) (b60.2.2.1 : List Bool), .val (.slice (.prod (.int .i64) (.int .i64))) (b60.2.2.2.1 : List (Int × Int)), .val (.slice (.prod (.int .i64) (.int .i64))) (b60.2.2.2.2.1 : List (Int × Int)), .val (.slice (.int .i64)) (b60.2.2.2.2.2 : List Int)])], nx := 1 }

noncomputable def T_impl_EpochOk_lp4_m (N : Nat) {R : Type} (n : Nat) (st : St) (K : Ex → St → Option R) : Option R := loopN (roundG (T_impl_EpochOk_ann 100032) fun st k => sx tab (T_impl_EpochOk_ctx N) T_impl_EpochOk_ann N (nthLoop Try.f16 4) st k) n st K

theorem T_impl_EpochOk_lp4_step (N : Nat) {R : Type} (n : Nat) (K : Ex → St → Option R) (t49 : Int) (t50 : Int) (t51 : Int) (t52 : Int) (t53 : Int) (t54 : Int) (t55 : Int) (t56 : Int) (t57 : Int) (t58 : Int) (t59 : Int) (b60 : Int × List Int × List Bool × List (Int × Int) × List (Int × Int) × List Int) :
    T_impl_EpochOk_lp4_m N (n + 1) (T_impl_EpochOk_lp4_sh t49 t50 t51 t52 t53 t54 t55 t56 t57 t58 t59 b60) K =
    (bif decide (t59 < (10 : Int)) then
    (bif inb t59 10 then
      (bif (List.getD ([t49, t50, t51, t52, t53, t54, t55, t56, t57, t58]) (Int.toNat t59) (0 : Int)) != (1 : Int) then
        (K .ret (T_impl_EpochOk_lp4_e0 t49 t50 t51 t52 t53 t54 t55 t56 t57 t58 b60))
        else
        (T_impl_EpochOk_lp4_m N n (T_impl_EpochOk_lp4_sh t49 t50 t51 t52 t53 t54 t55 t56 t57 t58 (iadd .i64 t59 (1 : Int)) b60) K)) else none)
    else
    (K (.exit 8) (T_impl_EpochOk_lp4_e1 t49 t50 t51 t52 t53 t54 t55 t56 t57 t58 b60 t59 (decide (t59 < (10 : Int)))))) := by kernel_rfl

theorem T_impl_EpochOk_lp4_eq (N : Nat) {R : Type} (t49 : Int) (t50 : Int) (t51 : Int) (t52 : Int) (t53 : Int) (t54 : Int) (t55 : Int) (t56 : Int) (t57 : Int) (t58 : Int) (b60 : Int × List Int × List Bool × List (Int × Int) × List (Int × Int) × List Int) (K : Ex → St → Option R) : ∀ (n : Nat) (t59 : Int), T_impl_EpochOk_lp4_m N n (T_impl_EpochOk_lp4_sh t49 t50 t51 t52 t53 t54 t55 t56 t57 t58 t59 b60) K = T_impl_EpochOk_lp4 N t49 t50 t51 t52 t53 t54 t55 t56 t57 t58 b60 (K .ret (T_impl_EpochOk_lp4_e0 t49 t50 t51 t52 t53 t54 t55 t56 t57 t58 b60)) (fun t61 t62 => (K (.exit 8) (T_impl_EpochOk_lp4_e1 t49 t50 t51 t52 t53 t54 t55 t56 t57 t58 b60 t61 t62))) n t59
  | 0, _ => rfl
  | n + 1, t59 => by rw [T_impl_EpochOk_lp4_step, T_impl_EpochOk_lp4]; (try simp only [T_impl_EpochOk_lp4_eq N t49 t50 t51 t52 t53 t54 t55 t56 t57 t58 b60 K n])

def T_impl_EpochOk_lp5_sh (t65 : List (Int × Int)) (t67 : Int) (b68 : Int × List Int × List Bool × List (Int × Int) × List (Int × Int) × List Int) : St := { env := [(1, .s (.one (.ptr 0 0))), (127, .s (.one (.val (.slice (.prod (.int .i64) (.int .i64))) (t65 : List (Int × Int))))), (128, .s (.one (.val (.int .i64) (ilen b68.2.2.2.2.1 : Int)))), (129, .s (.one (.val (.int .i64) (t67 : Int))))], objs := [(0, .box [.val (.int .i64) (b68.1 : Int), .val (.slice (.int .i64)) (b68.2.1 : List Int), .val (.slice (.bool)) (b68.2.2.1 : List Bool), .val (.slice (.prod (.int .i64) (.int .i64))) (b68.2.2.2.1 : List (Int × Int)), .val (.slice (.prod (.int .i64) (.int .i64))) (b68.2.2.2.2.1 : List (Int × Int)), .val (.slice (.int .i64)) (b68.2.2.2.2.2 : List Int)])], nx := 1 }

def T_impl_EpochOk_lp5_e0 (t65 : List (Int × Int)) (b68 : Int × List Int × List Bool × List (Int × Int) × List (Int × Int) × List Int) : St := { env := [(2, .s (.one (.val (.bool) (false : Bool))))], objs := [], nx := 0 }

def T_impl_EpochOk_lp5_e1 (t65 : List (Int × Int)) (b68 : Int × List Int × List Bool × List (Int × Int) × List (Int × Int) × List Int) (t73 : Int) (t74 : Bool) : St := { env := [(1, .s (.one (.ptr 0 0))), (127, .s (.one (.val (.slice (.prod (.int .i64) (.int .i64))) (t65 : List (Int × Int))))), (128, .s (.one (.val (.int .i64) (ilen b68.2.2.2.2.1 : Int)))), (129, .s (.one (.val (.int .i64) (t73 : Int)))), (130, .s (.one (.val (.bool) (t74 : Bool))))], objs := [(0, .box [.val (.int .i64) (b68.1 : Int), .val (.slice (.int .i64)) (b68.2.1 : List Int), .val (.slice (.bool)) (b68.2.2.1 : List Bool), .val (.slice (.prod (.int .i64) (.int .i64))) (b68.2.2.2.1 : List (Int × Int)), .val (.slice (.prod (.int .i64) (.int .i64))) (b68.2.2.2.2.1 : List (Int × Int)), .val (.slice (.int .i64)) (b68.2.2.2.2.2 : List Int)])], nx := 1 }

noncomputable def T_impl_EpochOk_lp5_m (N : Nat) {R : Type} (n : Nat) (st : St) (K : Ex → St → Option R) : Option R := loopN (roundG (T_impl_EpochOk_ann 100038) fun st k => sx tab (T_impl_EpochOk_ctx N) T_impl_EpochOk_ann N (nthLoop Try.f16 5) st k) n st K

theorem T_impl_EpochOk_lp5_step (N : Nat) {R : Type} (n : Nat) (K : Ex → St → Option R) (t65 : List (Int × Int)) (t67 : Int) (b68 : Int × List Int × List Bool × List (Int × Int) × List (Int × Int) × List Int) :
    T_impl_EpochOk_lp5_m N (n + 1) (T_impl_EpochOk_lp5_sh t65 t67 b68) K =
    (bif decide (t67 < (ilen b68.2.2.2.2.1)) then
    (bif inb t67 (List.length t65) then
      ((T_impl_within N (List.getD t65 (Int.toNat t67) ((0 : Int), (0 : Int))).1 (0 : Int) (2 : Int)).bind fun o75 =>
        (bif !o75.2.1 then
          (K .ret (T_impl_EpochOk_lp5_e0 t65 b68))
          else
          (bif inb (List.getD t65 (Int.toNat t67) ((0 : Int), (0 : Int))).1 (List.length b68.2.1) then
            (bif decide ((List.getD b68.2.1 (Int.toNat (List.getD t65 (Int.toNat t67) ((0 : Int), (0 : Int))).1) (0 : Int)) < (0 : Int)) then
              (K .ret (T_impl_EpochOk_lp5_e0 t65 b68))
              else
              ((T_impl_within N (List.getD t65 (Int.toNat t67) ((0 : Int), (0 : Int))).2 (0 : Int) (9 : Int)).bind fun o76 =>
                (bif !o76.2.1 then
                  (K .ret (T_impl_EpochOk_lp5_e0 t65 b68))
                  else
                  (T_impl_EpochOk_lp5_m N n (T_impl_EpochOk_lp5_sh t65 (iadd .i64 t67 (1 : Int)) b68) K)))) else none))) else none)
    else
    (K (.exit 10) (T_impl_EpochOk_lp5_e1 t65 b68 t67 (decide (t67 < (ilen b68.2.2.2.2.1)))))) := by kernel_rfl

theorem T_impl_EpochOk_lp5_eq (N : Nat) {R : Type} (t65 : List (Int × Int)) (b68 : Int × List Int × List Bool × List (Int × Int) × List (Int × Int) × List Int) (K : Ex → St → Option R) : ∀ (n : Nat) (t67 : Int), T_impl_EpochOk_lp5_m N n (T_impl_EpochOk_lp5_sh t65 t67 b68) K = T_impl_EpochOk_lp5 N t65 b68 (K .ret (T_impl_EpochOk_lp5_e0 t65 b68)) (fun t73 t74 => (K (.exit 10) (T_impl_EpochOk_lp5_e1 t65 b68 t73 t74))) n t67
  | 0, _ => rfl
  | n + 1, t67 => by rw [T_impl_EpochOk_lp5_step, T_impl_EpochOk_lp5]; (try simp only [T_impl_EpochOk_lp5_eq N t65 b68 K n])

theorem T_impl_EpochOk_c1 (N : Nat) (e1 : Int × List Int × List Bool × List (Int × Int) × List (Int × Int) × List Int) :
    ((ctxK (R := ODen (T_impl_EpochOk_sg N).ps × RDen (T_impl_EpochOk_sg N).rs) tab (T_impl_EpochOk_ctx N) T_impl_EpochOk_ann N (theCode Try.f16) [1, 1, 0, 1, 0] (retK tab (T_impl_EpochOk_sg N) Try.f16.results.toList some)) .ret (T_impl_EpochOk_lp0_e0 e1.2.1 e1)) =
    (some (α := ODen (T_impl_EpochOk_sg N).ps × RDen (T_impl_EpochOk_sg N).rs) ((), (false, ()))) := by kernel_rfl

theorem T_impl_EpochOk_c4 (N : Nat) (e1 : Int × List Int × List Bool × List (Int × Int) × List (Int × Int) × List Int) (l21 : List Int) :
    ((ctxK (R := ODen (T_impl_EpochOk_sg N).ps × RDen (T_impl_EpochOk_sg N).rs) tab (T_impl_EpochOk_ctx N) T_impl_EpochOk_ann N (theCode Try.f16) [1, 1, 1, 1, 1, 1, 0, 1, 0] (retK tab (T_impl_EpochOk_sg N) Try.f16.results.toList some)) .ret (T_impl_EpochOk_lp2_e0 e1.2.2.2.1 e1 l21)) =
    (some (α := ODen (T_impl_EpochOk_sg N).ps × RDen (T_impl_EpochOk_sg N).rs) ((), (false, ()))) := by kernel_rfl

theorem T_impl_EpochOk_c6 (N : Nat) (e1 : Int × List Int × List Bool × List (Int × Int) × List (Int × Int) × List Int) (l34 : List Int) :
    ((ctxK (R := ODen (T_impl_EpochOk_sg N).ps × RDen (T_impl_EpochOk_sg N).rs) tab (T_impl_EpochOk_ctx N) T_impl_EpochOk_ann N (theCode Try.f16) [1, 1, 1, 1, 1, 1, 1, 0, 1, 0] (retK tab (T_impl_EpochOk_sg N) Try.f16.results.toList some)) .ret (T_impl_EpochOk_lp3_e0 e1 l34)) =
    (some (α := ODen (T_impl_EpochOk_sg N).ps × RDen (T_impl_EpochOk_sg N).rs) ((), (false, ()))) := by kernel_rfl

theorem T_impl_EpochOk_c8 (N : Nat) (l48 : List Int) (e1 : Int × List Int × List Bool × List (Int × Int) × List (Int × Int) × List Int) :
    ((ctxK (R := ODen (T_impl_EpochOk_sg N).ps × RDen (T_impl_EpochOk_sg N).rs) tab (T_impl_EpochOk_ctx N) T_impl_EpochOk_ann N (theCode Try.f16) [1, 1, 1, 1, 1, 1, 1, 1, 0, 1, 0] (retK tab (T_impl_EpochOk_sg N) Try.f16.results.toList some)) .ret (T_impl_EpochOk_lp4_e0 (List.getD l48 0 (0 : Int)) (List.getD l48 1 (0 : Int)) (List.getD l48 2 (0 : Int)) (List.getD l48 3 (0 : Int)) (List.getD l48 4 (0 : Int)) (List.getD l48 5 (0 : Int)) (List.getD l48 6 (0 : Int)) (List.getD l48 7 (0 : Int)) (List.getD l48 8 (0 : Int)) (List.getD l48 9 (0 : Int)) e1)) =
    (some (α := ODen (T_impl_EpochOk_sg N).ps × RDen (T_impl_EpochOk_sg N).rs) ((), (false, ()))) := by kernel_rfl

theorem T_impl_EpochOk_c10 (N : Nat) (e1 : Int × List Int × List Bool × List (Int × Int) × List (Int × Int) × List Int) :
    ((ctxK (R := ODen (T_impl_EpochOk_sg N).ps × RDen (T_impl_EpochOk_sg N).rs) tab (T_impl_EpochOk_ctx N) T_impl_EpochOk_ann N (theCode Try.f16) [1, 1, 1, 1, 1, 1, 1, 1, 1, 0, 1, 0] (retK tab (T_impl_EpochOk_sg N) Try.f16.results.toList some)) .ret (T_impl_EpochOk_lp5_e0 e1.2.2.2.2.1 e1)) =
    (some (α := ODen (T_impl_EpochOk_sg N).ps × RDen (T_impl_EpochOk_sg N).rs) ((), (false, ()))) := by kernel_rfl

theorem T_impl_EpochOk_c11 (N : Nat) (e1 : Int × List Int × List Bool × List (Int × Int) × List (Int × Int) × List Int) (t77 : Int) (t78 : Bool) :
    ((ctxK (R := ODen (T_impl_EpochOk_sg N).ps × RDen (T_impl_EpochOk_sg N).rs) tab (T_impl_EpochOk_ctx N) T_impl_EpochOk_ann N (theCode Try.f16) [1, 1, 1, 1, 1, 1, 1, 1, 1, 0, 1, 0] (retK tab (T_impl_EpochOk_sg N) Try.f16.results.toList some)) (.exit 10) (T_impl_EpochOk_lp5_e1 e1.2.2.2.2.1 e1 t77 t78)) =
    (some (α := ODen (T_impl_EpochOk_sg N).ps × RDen (T_impl_EpochOk_sg N).rs) ((), (true, ()))) := by kernel_rfl

theorem T_impl_EpochOk_c9 (N : Nat) (l48 : List Int) (e1 : Int × List Int × List Bool × List (Int × Int) × List (Int × Int) × List Int) (t63 : Int) (t64 : Bool) :
    ((ctxK (R := ODen (T_impl_EpochOk_sg N).ps × RDen (T_impl_EpochOk_sg N).rs) tab (T_impl_EpochOk_ctx N) T_impl_EpochOk_ann N (theCode Try.f16) [1, 1, 1, 1, 1, 1, 1, 1, 0, 1, 0] (retK tab (T_impl_EpochOk_sg N) Try.f16.results.toList some)) (.exit 8) (T_impl_EpochOk_lp4_e1 (List.getD l48 0 (0 : Int)) (List.getD l48 1 (0 : Int)) (List.getD l48 2 (0 : Int)) (List.getD l48 3 (0 : Int)) (List.getD l48 4 (0 : Int)) (List.getD l48 5 (0 : Int)) (List.getD l48 6 (0 : Int)) (List.getD l48 7 (0 : Int)) (List.getD l48 8 (0 : Int)) (List.getD l48 9 (0 : Int)) e1 t63 t64)) =
    (T_impl_EpochOk_lp5 N e1.2.2.2.2.1 e1
    (some (α := ODen (T_impl_EpochOk_sg N).ps × RDen (T_impl_EpochOk_sg N).rs) ((), (false, ())))
    (fun t77 t78 =>
      (some (α := ODen (T_impl_EpochOk_sg N).ps × RDen (T_impl_EpochOk_sg N).rs) ((), (true, ()))))
     N (0 : Int)) := by
  have h : ((ctxK (R := ODen (T_impl_EpochOk_sg N).ps × RDen (T_impl_EpochOk_sg N).rs) tab (T_impl_EpochOk_ctx N) T_impl_EpochOk_ann N (theCode Try.f16) [1, 1, 1, 1, 1, 1, 1, 1, 0, 1, 0] (retK tab (T_impl_EpochOk_sg N) Try.f16.results.toList some)) (.exit 8) (T_impl_EpochOk_lp4_e1 (List.getD l48 0 (0 : Int)) (List.getD l48 1 (0 : Int)) (List.getD l48 2 (0 : Int)) (List.getD l48 3 (0 : Int)) (List.getD l48 4 (0 : Int)) (List.getD l48 5 (0 : Int)) (List.getD l48 6 (0 : Int)) (List.getD l48 7 (0 : Int)) (List.getD l48 8 (0 : Int)) (List.getD l48 9 (0 : Int)) e1 t63 t64)) =
    (T_impl_EpochOk_lp5_m N N (T_impl_EpochOk_lp5_sh e1.2.2.2.2.1 (0 : Int) e1) (ctxK (R := ODen (T_impl_EpochOk_sg N).ps × RDen (T_impl_EpochOk_sg N).rs) tab (T_impl_EpochOk_ctx N) T_impl_EpochOk_ann N (theCode Try.f16) [1, 1, 1, 1, 1, 1, 1, 1, 1, 0, 1, 0] (retK tab (T_impl_EpochOk_sg N) Try.f16.results.toList some))) := by kernel_rfl
  rw [h]
  (try simp only [T_impl_EpochOk_lp5_eq, T_impl_EpochOk_c10, T_impl_EpochOk_c11]) <;> rfl

theorem T_impl_EpochOk_c7 (N : Nat) (e1 : Int × List Int × List Bool × List (Int × Int) × List (Int × Int) × List Int) (l34 : List Int) (t46 : Int) (t47 : Bool) (l48 : List Int) :
    ((ctxK (R := ODen (T_impl_EpochOk_sg N).ps × RDen (T_impl_EpochOk_sg N).rs) tab (T_impl_EpochOk_ctx N) T_impl_EpochOk_ann N (theCode Try.f16) [1, 1, 1, 1, 1, 1, 1, 0, 1, 0] (retK tab (T_impl_EpochOk_sg N) Try.f16.results.toList some)) (.exit 6) (T_impl_EpochOk_lp3_e1 e1 l34 t46 t47 l48)) =
    (bif decide ((List.length l48) = 10) then
    (T_impl_EpochOk_lp4 N (List.getD l48 0 (0 : Int)) (List.getD l48 1 (0 : Int)) (List.getD l48 2 (0 : Int)) (List.getD l48 3 (0 : Int)) (List.getD l48 4 (0 : Int)) (List.getD l48 5 (0 : Int)) (List.getD l48 6 (0 : Int)) (List.getD l48 7 (0 : Int)) (List.getD l48 8 (0 : Int)) (List.getD l48 9 (0 : Int)) e1
      (some (α := ODen (T_impl_EpochOk_sg N).ps × RDen (T_impl_EpochOk_sg N).rs) ((), (false, ())))
      (fun t63 t64 =>
        (T_impl_EpochOk_lp5 N e1.2.2.2.2.1 e1
          (some (α := ODen (T_impl_EpochOk_sg N).ps × RDen (T_impl_EpochOk_sg N).rs) ((), (false, ())))
          (fun t77 t78 =>
            (some (α := ODen (T_impl_EpochOk_sg N).ps × RDen (T_impl_EpochOk_sg N).rs) ((), (true, ()))))
           N (0 : Int)))
       N (0 : Int)) else none) := by
  have h : ((ctxK (R := ODen (T_impl_EpochOk_sg N).ps × RDen (T_impl_EpochOk_sg N).rs) tab (T_impl_EpochOk_ctx N) T_impl_EpochOk_ann N (theCode Try.f16) [1, 1, 1, 1, 1, 1, 1, 0, 1, 0] (retK tab (T_impl_EpochOk_sg N) Try.f16.results.toList some)) (.exit 6) (T_impl_EpochOk_lp3_e1 e1 l34 t46 t47 l48)) =
    (bif decide ((List.length l48) = 10) then
    (T_impl_EpochOk_lp4_m N N (T_impl_EpochOk_lp4_sh (List.getD l48 0 (0 : Int)) (List.getD l48 1 (0 : Int)) (List.getD l48 2 (0 : Int)) (List.getD l48 3 (0 : Int)) (List.getD l48 4 (0 : Int)) (List.getD l48 5 (0 : Int)) (List.getD l48 6 (0 : Int)) (List.getD l48 7 (0 : Int)) (List.getD l48 8 (0 : Int)) (List.getD l48 9 (0 : Int)) (0 : Int) e1) (ctxK (R := ODen (T_impl_EpochOk_sg N).ps × RDen (T_impl_EpochOk_sg N).rs) tab (T_impl_EpochOk_ctx N) T_impl_EpochOk_ann N (theCode Try.f16) [1, 1, 1, 1, 1, 1, 1, 1, 0, 1, 0] (retK tab (T_impl_EpochOk_sg N) Try.f16.results.toList some))) else none) := by kernel_rfl
  rw [h]
  (try simp only [T_impl_EpochOk_lp4_eq, T_impl_EpochOk_c8, T_impl_EpochOk_c9]) <;> rfl

theorem T_impl_EpochOk_c5 (N : Nat) (e1 : Int × List Int × List Bool × List (Int × Int) × List (Int × Int) × List Int) (l21 : List Int) (t32 : Int) (t33 : Bool) (l34 : List Int) :
    ((ctxK (R := ODen (T_impl_EpochOk_sg N).ps × RDen (T_impl_EpochOk_sg N).rs) tab (T_impl_EpochOk_ctx N) T_impl_EpochOk_ann N (theCode Try.f16) [1, 1, 1, 1, 1, 1, 0, 1, 0] (retK tab (T_impl_EpochOk_sg N) Try.f16.results.toList some)) (.exit 4) (T_impl_EpochOk_lp2_e1 e1.2.2.2.1 e1 l21 t32 t33 l34)) =
    (T_impl_EpochOk_lp3 N e1 l34
    (some (α := ODen (T_impl_EpochOk_sg N).ps × RDen (T_impl_EpochOk_sg N).rs) ((), (false, ())))
    (fun t46 t47 l48 =>
      (bif decide ((List.length l48) = 10) then
        (T_impl_EpochOk_lp4 N (List.getD l48 0 (0 : Int)) (List.getD l48 1 (0 : Int)) (List.getD l48 2 (0 : Int)) (List.getD l48 3 (0 : Int)) (List.getD l48 4 (0 : Int)) (List.getD l48 5 (0 : Int)) (List.getD l48 6 (0 : Int)) (List.getD l48 7 (0 : Int)) (List.getD l48 8 (0 : Int)) (List.getD l48 9 (0 : Int)) e1
          (some (α := ODen (T_impl_EpochOk_sg N).ps × RDen (T_impl_EpochOk_sg N).rs) ((), (false, ())))
          (fun t63 t64 =>
            (T_impl_EpochOk_lp5 N e1.2.2.2.2.1 e1
              (some (α := ODen (T_impl_EpochOk_sg N).ps × RDen (T_impl_EpochOk_sg N).rs) ((), (false, ())))
              (fun t77 t78 =>
                (some (α := ODen (T_impl_EpochOk_sg N).ps × RDen (T_impl_EpochOk_sg N).rs) ((), (true, ()))))
               N (0 : Int)))
           N (0 : Int)) else none))
     N (0 : Int) l21) := by
  have h : ((ctxK (R := ODen (T_impl_EpochOk_sg N).ps × RDen (T_impl_EpochOk_sg N).rs) tab (T_impl_EpochOk_ctx N) T_impl_EpochOk_ann N (theCode Try.f16) [1, 1, 1, 1, 1, 1, 0, 1, 0] (retK tab (T_impl_EpochOk_sg N) Try.f16.results.toList some)) (.exit 4) (T_impl_EpochOk_lp2_e1 e1.2.2.2.1 e1 l21 t32 t33 l34)) =
    (T_impl_EpochOk_lp3_m N N (T_impl_EpochOk_lp3_sh (0 : Int) e1 l21 l34) (ctxK (R := ODen (T_impl_EpochOk_sg N).ps × RDen (T_impl_EpochOk_sg N).rs) tab (T_impl_EpochOk_ctx N) T_impl_EpochOk_ann N (theCode Try.f16) [1, 1, 1, 1, 1, 1, 1, 0, 1, 0] (retK tab (T_impl_EpochOk_sg N) Try.f16.results.toList some))) := by kernel_rfl
  rw [h]
  (try simp only [T_impl_EpochOk_lp3_eq, T_impl_EpochOk_c6, T_impl_EpochOk_c7]) <;> rfl

theorem T_impl_EpochOk_c3 (N : Nat) (e1 : Int × List Int × List Bool × List (Int × Int) × List (Int × Int) × List Int) (t19 : Int) (t20 : Bool) (l21 : List Int) :
    ((ctxK (R := ODen (T_impl_EpochOk_sg N).ps × RDen (T_impl_EpochOk_sg N).rs) tab (T_impl_EpochOk_ctx N) T_impl_EpochOk_ann N (theCode Try.f16) [1, 1, 1, 1, 0, 1, 0] (retK tab (T_impl_EpochOk_sg N) Try.f16.results.toList some)) (.exit 2) (T_impl_EpochOk_lp1_e0 e1.2.2.1 e1 t19 t20 l21)) =
    ((T_impl_copyInts N e1.2.2.2.2.2).bind fun o22 =>
    (T_impl_EpochOk_lp2 N e1.2.2.2.1 e1 l21
      (some (α := ODen (T_impl_EpochOk_sg N).ps × RDen (T_impl_EpochOk_sg N).rs) ((), (false, ())))
      (fun t32 t33 l34 =>
        (T_impl_EpochOk_lp3 N e1 l34
          (some (α := ODen (T_impl_EpochOk_sg N).ps × RDen (T_impl_EpochOk_sg N).rs) ((), (false, ())))
          (fun t46 t47 l48 =>
            (bif decide ((List.length l48) = 10) then
              (T_impl_EpochOk_lp4 N (List.getD l48 0 (0 : Int)) (List.getD l48 1 (0 : Int)) (List.getD l48 2 (0 : Int)) (List.getD l48 3 (0 : Int)) (List.getD l48 4 (0 : Int)) (List.getD l48 5 (0 : Int)) (List.getD l48 6 (0 : Int)) (List.getD l48 7 (0 : Int)) (List.getD l48 8 (0 : Int)) (List.getD l48 9 (0 : Int)) e1
                (some (α := ODen (T_impl_EpochOk_sg N).ps × RDen (T_impl_EpochOk_sg N).rs) ((), (false, ())))
                (fun t63 t64 =>
                  (T_impl_EpochOk_lp5 N e1.2.2.2.2.1 e1
                    (some (α := ODen (T_impl_EpochOk_sg N).ps × RDen (T_impl_EpochOk_sg N).rs) ((), (false, ())))
                    (fun t77 t78 =>
                      (some (α := ODen (T_impl_EpochOk_sg N).ps × RDen (T_impl_EpochOk_sg N).rs) ((), (true, ()))))
                     N (0 : Int)))
                 N (0 : Int)) else none))
           N (0 : Int) l21))
       N (0 : Int) o22.2.1)) := by
  have h : ((ctxK (R := ODen (T_impl_EpochOk_sg N).ps × RDen (T_impl_EpochOk_sg N).rs) tab (T_impl_EpochOk_ctx N) T_impl_EpochOk_ann N (theCode Try.f16) [1, 1, 1, 1, 0, 1, 0] (retK tab (T_impl_EpochOk_sg N) Try.f16.results.toList some)) (.exit 2) (T_impl_EpochOk_lp1_e0 e1.2.2.1 e1 t19 t20 l21)) =
    ((T_impl_copyInts N e1.2.2.2.2.2).bind fun o22 =>
    (T_impl_EpochOk_lp2_m N N (T_impl_EpochOk_lp2_sh e1.2.2.2.1 (0 : Int) e1 l21 o22.2.1) (ctxK (R := ODen (T_impl_EpochOk_sg N).ps × RDen (T_impl_EpochOk_sg N).rs) tab (T_impl_EpochOk_ctx N) T_impl_EpochOk_ann N (theCode Try.f16) [1, 1, 1, 1, 1, 1, 0, 1, 0] (retK tab (T_impl_EpochOk_sg N) Try.f16.results.toList some)))) := by kernel_rfl
  rw [h]
  (try simp only [T_impl_EpochOk_lp2_eq, T_impl_EpochOk_c4, T_impl_EpochOk_c5]) <;> rfl

theorem T_impl_EpochOk_c2 (N : Nat) (e1 : Int × List Int × List Bool × List (Int × Int) × List (Int × Int) × List Int) (t9 : Int) (t10 : Bool) :
    ((ctxK (R := ODen (T_impl_EpochOk_sg N).ps × RDen (T_impl_EpochOk_sg N).rs) tab (T_impl_EpochOk_ctx N) T_impl_EpochOk_ann N (theCode Try.f16) [1, 1, 0, 1, 0] (retK tab (T_impl_EpochOk_sg N) Try.f16.results.toList some)) (.exit 0) (T_impl_EpochOk_lp0_e1 e1.2.1 e1 t9 t10)) =
    (T_impl_EpochOk_lp1 N e1.2.2.1 e1
    (fun t19 t20 l21 =>
      ((T_impl_copyInts N e1.2.2.2.2.2).bind fun o22 =>
        (T_impl_EpochOk_lp2 N e1.2.2.2.1 e1 l21
          (some (α := ODen (T_impl_EpochOk_sg N).ps × RDen (T_impl_EpochOk_sg N).rs) ((), (false, ())))
          (fun t32 t33 l34 =>
            (T_impl_EpochOk_lp3 N e1 l34
              (some (α := ODen (T_impl_EpochOk_sg N).ps × RDen (T_impl_EpochOk_sg N).rs) ((), (false, ())))
              (fun t46 t47 l48 =>
                (bif decide ((List.length l48) = 10) then
                  (T_impl_EpochOk_lp4 N (List.getD l48 0 (0 : Int)) (List.getD l48 1 (0 : Int)) (List.getD l48 2 (0 : Int)) (List.getD l48 3 (0 : Int)) (List.getD l48 4 (0 : Int)) (List.getD l48 5 (0 : Int)) (List.getD l48 6 (0 : Int)) (List.getD l48 7 (0 : Int)) (List.getD l48 8 (0 : Int)) (List.getD l48 9 (0 : Int)) e1
                    (some (α := ODen (T_impl_EpochOk_sg N).ps × RDen (T_impl_EpochOk_sg N).rs) ((), (false, ())))
                    (fun t63 t64 =>
                      (T_impl_EpochOk_lp5 N e1.2.2.2.2.1 e1
                        (some (α := ODen (T_impl_EpochOk_sg N).ps × RDen (T_impl_EpochOk_sg N).rs) ((), (false, ())))
                        (fun t77 t78 =>
                          (some (α := ODen (T_impl_EpochOk_sg N).ps × RDen (T_impl_EpochOk_sg N).rs) ((), (true, ()))))
                         N (0 : Int)))
                     N (0 : Int)) else none))
               N (0 : Int) l21))
           N (0 : Int) o22.2.1)))
     N (0 : Int) (List.replicate 10 (0 : Int))) := by
  have h : ((ctxK (R := ODen (T_impl_EpochOk_sg N).ps × RDen (T_impl_EpochOk_sg N).rs) tab (T_impl_EpochOk_ctx N) T_impl_EpochOk_ann N (theCode Try.f16) [1, 1, 0, 1, 0] (retK tab (T_impl_EpochOk_sg N) Try.f16.results.toList some)) (.exit 0) (T_impl_EpochOk_lp0_e1 e1.2.1 e1 t9 t10)) =
    (T_impl_EpochOk_lp1_m N N (T_impl_EpochOk_lp1_sh e1.2.2.1 (0 : Int) e1 (List.replicate 10 (0 : Int))) (ctxK (R := ODen (T_impl_EpochOk_sg N).ps × RDen (T_impl_EpochOk_sg N).rs) tab (T_impl_EpochOk_ctx N) T_impl_EpochOk_ann N (theCode Try.f16) [1, 1, 1, 1, 0, 1, 0] (retK tab (T_impl_EpochOk_sg N) Try.f16.results.toList some))) := by kernel_rfl
  rw [h]
  (try simp only [T_impl_EpochOk_lp1_eq, T_impl_EpochOk_c3]) <;> rfl

theorem T_impl_EpochOk_den (N : Nat) (e1 : Int × List Int × List Bool × List (Int × Int) × List (Int × Int) × List Int) :
    den (R := ODen (T_impl_EpochOk_sg N).ps × RDen (T_impl_EpochOk_sg N).rs) tab (T_impl_EpochOk_ctx N) T_impl_EpochOk_ann N (T_impl_EpochOk_sg N) Try.f16 (e1, ()) some =
    (bif (ilen e1.2.1) != (3 : Int) then
    (some (α := ODen (T_impl_EpochOk_sg N).ps × RDen (T_impl_EpochOk_sg N).rs) ((), (false, ())))
    else
    (bif (ilen e1.2.2.1) != (10 : Int) then
      (some (α := ODen (T_impl_EpochOk_sg N).ps × RDen (T_impl_EpochOk_sg N).rs) ((), (false, ())))
      else
      ((T_impl_within N e1.1 (0 : Int) (205 : Int)).bind fun o2 =>
        (bif !o2.2.1 then
          (some (α := ODen (T_impl_EpochOk_sg N).ps × RDen (T_impl_EpochOk_sg N).rs) ((), (false, ())))
          else
          (T_impl_EpochOk_lp0 N e1.2.1 e1
            (some (α := ODen (T_impl_EpochOk_sg N).ps × RDen (T_impl_EpochOk_sg N).rs) ((), (false, ())))
            (fun t9 t10 =>
              (T_impl_EpochOk_lp1 N e1.2.2.1 e1
                (fun t19 t20 l21 =>
                  ((T_impl_copyInts N e1.2.2.2.2.2).bind fun o22 =>
                    (T_impl_EpochOk_lp2 N e1.2.2.2.1 e1 l21
                      (some (α := ODen (T_impl_EpochOk_sg N).ps × RDen (T_impl_EpochOk_sg N).rs) ((), (false, ())))
                      (fun t32 t33 l34 =>
                        (T_impl_EpochOk_lp3 N e1 l34
                          (some (α := ODen (T_impl_EpochOk_sg N).ps × RDen (T_impl_EpochOk_sg N).rs) ((), (false, ())))
                          (fun t46 t47 l48 =>
                            (bif decide ((List.length l48) = 10) then
                              (T_impl_EpochOk_lp4 N (List.getD l48 0 (0 : Int)) (List.getD l48 1 (0 : Int)) (List.getD l48 2 (0 : Int)) (List.getD l48 3 (0 : Int)) (List.getD l48 4 (0 : Int)) (List.getD l48 5 (0 : Int)) (List.getD l48 6 (0 : Int)) (List.getD l48 7 (0 : Int)) (List.getD l48 8 (0 : Int)) (List.getD l48 9 (0 : Int)) e1
                                (some (α := ODen (T_impl_EpochOk_sg N).ps × RDen (T_impl_EpochOk_sg N).rs) ((), (false, ())))
                                (fun t63 t64 =>
                                  (T_impl_EpochOk_lp5 N e1.2.2.2.2.1 e1
                                    (some (α := ODen (T_impl_EpochOk_sg N).ps × RDen (T_impl_EpochOk_sg N).rs) ((), (false, ())))
                                    (fun t77 t78 =>
                                      (some (α := ODen (T_impl_EpochOk_sg N).ps × RDen (T_impl_EpochOk_sg N).rs) ((), (true, ()))))
                                     N (0 : Int)))
                                 N (0 : Int)) else none))
                           N (0 : Int) l21))
                       N (0 : Int) o22.2.1)))
                 N (0 : Int) (List.replicate 10 (0 : Int))))
             N (0 : Int)))))) := by
  have h : den (R := ODen (T_impl_EpochOk_sg N).ps × RDen (T_impl_EpochOk_sg N).rs) tab (T_impl_EpochOk_ctx N) T_impl_EpochOk_ann N (T_impl_EpochOk_sg N) Try.f16 (e1, ()) some =
    (bif (ilen e1.2.1) != (3 : Int) then
    (some (α := ODen (T_impl_EpochOk_sg N).ps × RDen (T_impl_EpochOk_sg N).rs) ((), (false, ())))
    else
    (bif (ilen e1.2.2.1) != (10 : Int) then
      (some (α := ODen (T_impl_EpochOk_sg N).ps × RDen (T_impl_EpochOk_sg N).rs) ((), (false, ())))
      else
      ((T_impl_within N e1.1 (0 : Int) (205 : Int)).bind fun o2 =>
        (bif !o2.2.1 then
          (some (α := ODen (T_impl_EpochOk_sg N).ps × RDen (T_impl_EpochOk_sg N).rs) ((), (false, ())))
          else
          (T_impl_EpochOk_lp0_m N N (T_impl_EpochOk_lp0_sh e1.2.1 (0 : Int) e1) (ctxK (R := ODen (T_impl_EpochOk_sg N).ps × RDen (T_impl_EpochOk_sg N).rs) tab (T_impl_EpochOk_ctx N) T_impl_EpochOk_ann N (theCode Try.f16) [1, 1, 0, 1, 0] (retK tab (T_impl_EpochOk_sg N) Try.f16.results.toList some))))))) := by kernel_rfl
  rw [h]
  (try simp only [T_impl_EpochOk_lp0_eq, T_impl_EpochOk_c1, T_impl_EpochOk_c2]) <;> rfl

theorem T_impl_EpochOk_ok (N : Nat) : chkBody Try.f16 (T_impl_EpochOk_sg N).ps = true := by kernel_rfl

theorem T_impl_EpochOk_callable : Callable Try.prog 16 := callable_of Try.func16 (show chkFn Try.f16 = true by kernel_rfl)

theorem T_impl_EpochOk_good (N : Nat) : Good Try.prog 16 (T_impl_EpochOk_sg N) :=
  good_body mixedOk tabOk (ctx_cons (T_impl_within_good N) T_impl_within_callable (ctx_cons (T_impl_copyInts_good N) T_impl_copyInts_callable ctx_nil)) Try.func16 (T_impl_EpochOk_ok N) (fun d _ h => ⟨N, (T_impl_EpochOk_den N d.1).trans h⟩)

noncomputable def T_laws_FnEpochs_sg (N : Nat) : Sig := Sig.of [.v (.slice (.int .u8)) false] [.v (.bool) false] (fun d => T_laws_FnEpochs N d.1)

def T_laws_FnEpochs_ann : Nat → List Ghost
  | _ => []

noncomputable def T_laws_FnEpochs_ctx (N : Nat) : Ctx := [(9, T_laws_big_sg N), (10, T_spec_DrawEpochPlay_sg N), (11, T_impl_EpochPlay_sg N), (12, T_impl_EpochFlush_sg N), (13, T_spec_EpochSafe_sg N), (14, T_spec_EpochOk_sg N), (15, T_impl_EpochSafe_sg N), (16, T_impl_EpochOk_sg N)]

theorem T_laws_FnEpochs_den (N : Nat) (code1 : List Int) :
    den (R := ODen (T_laws_FnEpochs_sg N).ps × RDen (T_laws_FnEpochs_sg N).rs) tab (T_laws_FnEpochs_ctx N) T_laws_FnEpochs_ann N (T_laws_FnEpochs_sg N) Try.f3 (code1, ()) some =
    ((T_laws_big N code1).bind fun o2 =>
    (bif o2.2.1 then
      (some (α := ODen (T_laws_FnEpochs_sg N).ps × RDen (T_laws_FnEpochs_sg N).rs) ((), (true, ())))
      else
      ((T_spec_DrawEpochPlay N code1).bind fun o3 =>
        ((T_impl_EpochPlay N o3.2.1).bind fun o4 =>
          (bif decide ((ilen o3.2.1) > (200 : Int)) then
            (some (α := ODen (T_laws_FnEpochs_sg N).ps × RDen (T_laws_FnEpochs_sg N).rs) ((), ((ilen o4.2.1.2.1) == (0 : Int), ())))
            else
            ((T_impl_EpochFlush N o3.2.1).bind fun o5 =>
              ((T_spec_EpochSafe N o4.2.1).bind fun o6 =>
                (bif o6.2.1 then
                  ((T_spec_EpochOk N o4.2.1).bind fun o7 =>
                    (bif o7.2.1 then
                      ((T_impl_EpochSafe N o4.2.1).bind fun o8 =>
                        (bif o8.2.1 then
                          ((T_impl_EpochOk N o4.2.1).bind fun o9 =>
                            (bif o9.2.1 then
                              (bif (ilen o5.2.1.2.2.2.1) == (0 : Int) then
                                (bif (ilen o5.2.1.2.2.2.2.1) == (0 : Int) then
                                  ((T_spec_EpochOk N o5.2.1).bind fun o10 =>
                                    (bif o10.2.1 then
                                      (bif o5.2.1.1 == (iadd .i64 o4.2.1.1 (2 : Int)) then
                                        (some (α := ODen (T_laws_FnEpochs_sg N).ps × RDen (T_laws_FnEpochs_sg N).rs) ((), ((ilen o5.2.1.2.2.2.2.2) == (iadd .i64 (ilen o4.2.1.2.2.2.2.2) (ilen o4.2.1.2.2.2.1)), ())))
                                        else
                                        (some (α := ODen (T_laws_FnEpochs_sg N).ps × RDen (T_laws_FnEpochs_sg N).rs) ((), (false, ()))))
                                      else
                                      (some (α := ODen (T_laws_FnEpochs_sg N).ps × RDen (T_laws_FnEpochs_sg N).rs) ((), (false, ())))))
                                  else
                                  (some (α := ODen (T_laws_FnEpochs_sg N).ps × RDen (T_laws_FnEpochs_sg N).rs) ((), (false, ()))))
                                else
                                (some (α := ODen (T_laws_FnEpochs_sg N).ps × RDen (T_laws_FnEpochs_sg N).rs) ((), (false, ()))))
                              else
                              (some (α := ODen (T_laws_FnEpochs_sg N).ps × RDen (T_laws_FnEpochs_sg N).rs) ((), (false, ())))))
                          else
                          (some (α := ODen (T_laws_FnEpochs_sg N).ps × RDen (T_laws_FnEpochs_sg N).rs) ((), (false, ())))))
                      else
                      (some (α := ODen (T_laws_FnEpochs_sg N).ps × RDen (T_laws_FnEpochs_sg N).rs) ((), (false, ())))))
                  else
                  (some (α := ODen (T_laws_FnEpochs_sg N).ps × RDen (T_laws_FnEpochs_sg N).rs) ((), (false, ()))))))))))) := by kernel_rfl

theorem T_laws_FnEpochs_ok (N : Nat) : chkBody Try.f3 (T_laws_FnEpochs_sg N).ps = true := by kernel_rfl

theorem T_laws_FnEpochs_callable : Callable Try.prog 3 := callable_of Try.func3 (show chkFn Try.f3 = true by kernel_rfl)

theorem T_laws_FnEpochs_good (N : Nat) : Good Try.prog 3 (T_laws_FnEpochs_sg N) :=
  good_body mixedOk tabOk (ctx_cons (T_laws_big_good N) T_laws_big_callable (ctx_cons (T_spec_DrawEpochPlay_good N) T_spec_DrawEpochPlay_callable (ctx_cons (T_impl_EpochPlay_good N) T_impl_EpochPlay_callable (ctx_cons (T_impl_EpochFlush_good N) T_impl_EpochFlush_callable (ctx_cons (T_spec_EpochSafe_good N) T_spec_EpochSafe_callable (ctx_cons (T_spec_EpochOk_good N) T_spec_EpochOk_callable (ctx_cons (T_impl_EpochSafe_good N) T_impl_EpochSafe_callable (ctx_cons (T_impl_EpochOk_good N) T_impl_EpochOk_callable ctx_nil)))))))) Try.func3 (T_laws_FnEpochs_ok N) (fun d _ h => ⟨N, (T_laws_FnEpochs_den N d.1).trans h⟩)

end Go.Sx
