/- Each Go function does what its Lean function says. -/
import Derived.Test.YtlhkhldlcmoibaaT
import Derived.Test.YtlhkhldlcmoibaaProg
namespace Go.Sx
open Go.Proofs
set_option linter.unusedVariables false
set_option linter.unusedSimpArgs false

def tab : Tab := [(3, ⟨.int .i64, false, .basic⟩), (4, ⟨.bool, false, .basic⟩), (5, ⟨.int .u8, false, .basic⟩), (22, ⟨.slice (.int .i64), false, .slice 3⟩), (54, ⟨.slice (.int .u8), false, .slice 5⟩), (70, ⟨.prod (.slice (.int .u8)) (.prod (.int .i64) (.int .i64)), true, .struct [(0, 54), (1, 3), (2, 3)]⟩)]

theorem mixedOk : Try.prog.follows .mixedOrders = true := by kernel_rfl

theorem tabOk : TabOk Try.prog tab := tab_ok (show chkTab Try.prog tab tab = true by kernel_rfl)

noncomputable def T_laws_big_sg (N : Nat) : Sig := Sig.of [.v (.slice (.int .u8)) false] [.v (.bool) false] (fun d => T_laws_big N d.1)

def T_laws_big_ann : Nat → List Ghost
  | _ => []

noncomputable def T_laws_big_ctx (N : Nat) : Ctx := []

theorem T_laws_big_den (N : Nat) (code1 : List Int) :
    den (R := ODen (T_laws_big_sg N).ps × RDen (T_laws_big_sg N).rs) tab (T_laws_big_ctx N) T_laws_big_ann N (T_laws_big_sg N) Try.f28 (code1, ()) some =
    (some (α := ODen (T_laws_big_sg N).ps × RDen (T_laws_big_sg N).rs) ((), (decide ((ilen code1) > (1048576 : Int)), ()))) := by kernel_rfl

theorem T_laws_big_ok (N : Nat) : chkBody Try.f28 (T_laws_big_sg N).ps = true := by kernel_rfl

theorem T_laws_big_callable : Callable Try.prog 28 := callable_of Try.func28 (show chkFn Try.f28 = true by kernel_rfl)

theorem T_laws_big_good (N : Nat) : Good Try.prog 28 (T_laws_big_sg N) :=
  good_body mixedOk tabOk ctx_nil Try.func28 (T_laws_big_ok N) (fun d _ h => ⟨N, (T_laws_big_den N d.1).trans h⟩)

noncomputable def T_spec_l1New_sg (N : Nat) : Sig := Sig.of [.v (.slice (.int .u8)) false] [.box (.prod (.slice (.int .u8)) (.prod (.int .i64) (.int .i64)))] (fun d => T_spec_l1New N d.1)

def T_spec_l1New_ann : Nat → List Ghost
  | 3 => [.canon [0, 3, 4, 15]]
  | 4 => [.canon [0, 3, 4]]
  | 5 => [.canon [0, 3, 4]]
  | 100003 => [.canon [0, 3, 4]]
  | _ => []

noncomputable def T_spec_l1New_ctx (N : Nat) : Ctx := []

def T_spec_l1New_lp0_sh (code2 : List Int) (h3 : Int) (i4 : Int) : St := { env := [(0, .s (.one (.val (.slice (.int .u8)) (code2 : List Int)))), (3, .s (.one (.val (.int .i64) (h3 : Int)))), (4, .s (.one (.val (.int .i64) (i4 : Int))))], objs := [], nx := 0 }

def T_spec_l1New_lp0_e0 (code2 : List Int) (h5 : Int) (i6 : Int) (t7 : Bool) : St := { env := [(0, .s (.one (.val (.slice (.int .u8)) (code2 : List Int)))), (3, .s (.one (.val (.int .i64) (h5 : Int)))), (4, .s (.one (.val (.int .i64) (i6 : Int)))), (15, .s (.one (.val (.bool) (t7 : Bool))))], objs := [], nx := 0 }

noncomputable def T_spec_l1New_lp0_m (N : Nat) {R : Type} (n : Nat) (st : St) (K : Ex → St → Option R) : Option R := loopN (roundG (T_spec_l1New_ann 100003) fun st k => sx tab (T_spec_l1New_ctx N) T_spec_l1New_ann N (nthLoop Try.f47 0) st k) n st K

theorem T_spec_l1New_lp0_step (N : Nat) {R : Type} (n : Nat) (K : Ex → St → Option R) (code2 : List Int) (h3 : Int) (i4 : Int) :
    T_spec_l1New_lp0_m N (n + 1) (T_spec_l1New_lp0_sh code2 h3 i4) K =
    (bif decide (i4 < (ilen code2)) then
    (bif decide (i4 < (4000 : Int)) then
      (bif inb i4 (List.length code2) then
        (T_spec_l1New_lp0_m N n (T_spec_l1New_lp0_sh code2 (iand .i64 (iadd .i64 (iadd .i64 (imul .i64 h3 (131 : Int)) (IntKind.wrap .i64 (List.getD code2 (Int.toNat i4) (0 : Int)))) (7 : Int)) (1073741823 : Int)) (iadd .i64 i4 (1 : Int))) K) else none)
      else
      (K (.exit 0) (T_spec_l1New_lp0_e0 code2 h3 i4 (decide (i4 < (4000 : Int))))))
    else
    (K (.exit 0) (T_spec_l1New_lp0_e0 code2 h3 i4 false))) := by kernel_rfl

theorem T_spec_l1New_lp0_eq (N : Nat) {R : Type} (code2 : List Int) (K : Ex → St → Option R) : ∀ (n : Nat) (h3 : Int) (i4 : Int), T_spec_l1New_lp0_m N n (T_spec_l1New_lp0_sh code2 h3 i4) K = T_spec_l1New_lp0 N code2 (fun h5 i6 t7 => (K (.exit 0) (T_spec_l1New_lp0_e0 code2 h5 i6 t7))) n h3 i4
  | 0, _, _ => rfl
  | n + 1, h3, i4 => by rw [T_spec_l1New_lp0_step, T_spec_l1New_lp0]; (try simp only [T_spec_l1New_lp0_eq N code2 K n])

theorem T_spec_l1New_c1 (N : Nat) (code1 : List Int) (h8 : Int) (i9 : Int) (t10 : Bool) :
    ((ctxK (R := ODen (T_spec_l1New_sg N).ps × RDen (T_spec_l1New_sg N).rs) tab (T_spec_l1New_ctx N) T_spec_l1New_ann N (theCode Try.f47) [1, 1, 0, 1, 0] (retK tab (T_spec_l1New_sg N) Try.f47.results.toList some)) (.exit 0) (T_spec_l1New_lp0_e0 code1 h8 i9 t10)) =
    (some (α := ODen (T_spec_l1New_sg N).ps × RDen (T_spec_l1New_sg N).rs) ((), ((code1, ((0 : Int), h8)), ()))) := by kernel_rfl

theorem T_spec_l1New_den (N : Nat) (code1 : List Int) :
    den (R := ODen (T_spec_l1New_sg N).ps × RDen (T_spec_l1New_sg N).rs) tab (T_spec_l1New_ctx N) T_spec_l1New_ann N (T_spec_l1New_sg N) Try.f47 (code1, ()) some =
    (T_spec_l1New_lp0 N code1
    (fun h8 i9 t10 =>
      (some (α := ODen (T_spec_l1New_sg N).ps × RDen (T_spec_l1New_sg N).rs) ((), ((code1, ((0 : Int), h8)), ()))))
     N (iadd .i64 (10101 : Int) (ilen code1)) (0 : Int)) := by
  have h : den (R := ODen (T_spec_l1New_sg N).ps × RDen (T_spec_l1New_sg N).rs) tab (T_spec_l1New_ctx N) T_spec_l1New_ann N (T_spec_l1New_sg N) Try.f47 (code1, ()) some =
    (T_spec_l1New_lp0_m N N (T_spec_l1New_lp0_sh code1 (iadd .i64 (10101 : Int) (ilen code1)) (0 : Int)) (ctxK (R := ODen (T_spec_l1New_sg N).ps × RDen (T_spec_l1New_sg N).rs) tab (T_spec_l1New_ctx N) T_spec_l1New_ann N (theCode Try.f47) [1, 1, 0, 1, 0] (retK tab (T_spec_l1New_sg N) Try.f47.results.toList some))) := by kernel_rfl
  rw [h]
  (try simp only [T_spec_l1New_lp0_eq, T_spec_l1New_c1]) <;> rfl

theorem T_spec_l1New_ok (N : Nat) : chkBody Try.f47 (T_spec_l1New_sg N).ps = true := by kernel_rfl

theorem T_spec_l1New_callable : Callable Try.prog 47 := callable_of Try.func47 (show chkFn Try.f47 = true by kernel_rfl)

theorem T_spec_l1New_good (N : Nat) : Good Try.prog 47 (T_spec_l1New_sg N) :=
  good_body mixedOk tabOk ctx_nil Try.func47 (T_spec_l1New_ok N) (fun d _ h => ⟨N, (T_spec_l1New_den N d.1).trans h⟩)

noncomputable def T_spec_l1Byte_sg (N : Nat) : Sig := Sig.of [.box (.prod (.slice (.int .u8)) (.prod (.int .i64) (.int .i64)))] [.v (.int .i64) false] (fun d => T_spec_l1Byte N d.1)

def T_spec_l1Byte_ann : Nat → List Ghost
  | _ => []

noncomputable def T_spec_l1Byte_ctx (N : Nat) : Ctx := []

theorem T_spec_l1Byte_den (N : Nat) (c1 : List Int × Int × Int) :
    den (R := ODen (T_spec_l1Byte_sg N).ps × RDen (T_spec_l1Byte_sg N).rs) tab (T_spec_l1Byte_ctx N) T_spec_l1Byte_ann N (T_spec_l1Byte_sg N) Try.f56 (c1, ()) some =
    (bif inn (33 : Int) then
    (bif inn (45 : Int) then
      (bif decide (c1.2.1 < (ilen c1.1)) then
        (bif inb c1.2.1 (List.length c1.1) then
          (some (α := ODen (T_spec_l1Byte_sg N).ps × RDen (T_spec_l1Byte_sg N).rs) (((c1.1, (iadd .i64 c1.2.1 (1 : Int), iadd .i64 (imul .i64 c1.2.2 (6364136223846793005 : Int)) (1442695040888963407 : Int))), ()), (iand .i64 (iadd .i64 (iand .i64 (ixor .i64 (ishr .i64 (iadd .i64 (imul .i64 c1.2.2 (6364136223846793005 : Int)) (1442695040888963407 : Int)) (33 : Int)) (ishr .i64 (iadd .i64 (imul .i64 c1.2.2 (6364136223846793005 : Int)) (1442695040888963407 : Int)) (45 : Int))) (255 : Int)) (IntKind.wrap .i64 (List.getD c1.1 (Int.toNat c1.2.1) (0 : Int)))) (255 : Int), ()))) else none)
        else
        (some (α := ODen (T_spec_l1Byte_sg N).ps × RDen (T_spec_l1Byte_sg N).rs) (((c1.1, (c1.2.1, iadd .i64 (imul .i64 c1.2.2 (6364136223846793005 : Int)) (1442695040888963407 : Int))), ()), (iand .i64 (ixor .i64 (ishr .i64 (iadd .i64 (imul .i64 c1.2.2 (6364136223846793005 : Int)) (1442695040888963407 : Int)) (33 : Int)) (ishr .i64 (iadd .i64 (imul .i64 c1.2.2 (6364136223846793005 : Int)) (1442695040888963407 : Int)) (45 : Int))) (255 : Int), ())))) else none) else none) := by kernel_rfl

theorem T_spec_l1Byte_ok (N : Nat) : chkBody Try.f56 (T_spec_l1Byte_sg N).ps = true := by kernel_rfl

theorem T_spec_l1Byte_callable : Callable Try.prog 56 := callable_of Try.func56 (show chkFn Try.f56 = true by kernel_rfl)

theorem T_spec_l1Byte_good (N : Nat) : Good Try.prog 56 (T_spec_l1Byte_sg N) :=
  good_body mixedOk tabOk ctx_nil Try.func56 (T_spec_l1Byte_ok N) (fun d _ h => ⟨N, (T_spec_l1Byte_den N d.1).trans h⟩)

noncomputable def T_spec_l1Below_sg (N : Nat) : Sig := Sig.of [.box (.prod (.slice (.int .u8)) (.prod (.int .i64) (.int .i64))), .v (.int .i64) false] [.v (.int .i64) false] (fun d => T_spec_l1Below N d.1 d.2.1)

def T_spec_l1Below_ann : Nat → List Ghost
  | _ => []

noncomputable def T_spec_l1Below_ctx (N : Nat) : Ctx := [(56, T_spec_l1Byte_sg N)]

theorem T_spec_l1Below_den (N : Nat) (c1 : List Int × Int × Int) (n2 : Int) :
    den (R := ODen (T_spec_l1Below_sg N).ps × RDen (T_spec_l1Below_sg N).rs) tab (T_spec_l1Below_ctx N) T_spec_l1Below_ann N (T_spec_l1Below_sg N) Try.f54 (c1, n2, ()) some =
    (bif decide (n2 ≤ (0 : Int)) then
    (some (α := ODen (T_spec_l1Below_sg N).ps × RDen (T_spec_l1Below_sg N).rs) ((c1, ()), ((0 : Int), ())))
    else
    (bif decide (n2 ≤ (256 : Int)) then
      ((T_spec_l1Byte N c1).bind fun o3 =>
        (bif inz n2 then
          (some (α := ODen (T_spec_l1Below_sg N).ps × RDen (T_spec_l1Below_sg N).rs) ((o3.1.1, ()), (irem o3.2.1 n2, ()))) else none))
      else
      ((T_spec_l1Byte N c1).bind fun o4 =>
        ((T_spec_l1Byte N o4.1.1).bind fun o5 =>
          ((T_spec_l1Byte N o5.1.1).bind fun o6 =>
            ((T_spec_l1Byte N o6.1.1).bind fun o7 =>
              (bif inz n2 then
                (some (α := ODen (T_spec_l1Below_sg N).ps × RDen (T_spec_l1Below_sg N).rs) ((o7.1.1, ()), (irem (iadd .i64 (iadd .i64 (iadd .i64 (imul .i64 o4.2.1 (16777216 : Int)) (imul .i64 o5.2.1 (65536 : Int))) (imul .i64 o6.2.1 (256 : Int))) o7.2.1) n2, ()))) else none))))))) := by kernel_rfl

theorem T_spec_l1Below_ok (N : Nat) : chkBody Try.f54 (T_spec_l1Below_sg N).ps = true := by kernel_rfl

theorem T_spec_l1Below_callable : Callable Try.prog 54 := callable_of Try.func54 (show chkFn Try.f54 = true by kernel_rfl)

theorem T_spec_l1Below_good (N : Nat) : Good Try.prog 54 (T_spec_l1Below_sg N) :=
  good_body mixedOk tabOk (ctx_cons (T_spec_l1Byte_good N) T_spec_l1Byte_callable ctx_nil) Try.func54 (T_spec_l1Below_ok N) (fun d _ h => ⟨N, (T_spec_l1Below_den N d.1 d.2.1).trans h⟩)

noncomputable def T_spec_l1Once_sg (N : Nat) : Sig := Sig.of [.box (.prod (.slice (.int .u8)) (.prod (.int .i64) (.int .i64))), .v (.int .i64) false] [.v (.bool) false] (fun d => T_spec_l1Once N d.1 d.2.1)

def T_spec_l1Once_ann : Nat → List Ghost
  | _ => []

noncomputable def T_spec_l1Once_ctx (N : Nat) : Ctx := [(54, T_spec_l1Below_sg N)]

theorem T_spec_l1Once_den (N : Nat) (c1 : List Int × Int × Int) (n2 : Int) :
    den (R := ODen (T_spec_l1Once_sg N).ps × RDen (T_spec_l1Once_sg N).rs) tab (T_spec_l1Once_ctx N) T_spec_l1Once_ann N (T_spec_l1Once_sg N) Try.f57 (c1, n2, ()) some =
    ((T_spec_l1Below N c1 n2).bind fun o3 =>
    (some (α := ODen (T_spec_l1Once_sg N).ps × RDen (T_spec_l1Once_sg N).rs) ((o3.1.1, ()), (o3.2.1 == (0 : Int), ())))) := by kernel_rfl

theorem T_spec_l1Once_ok (N : Nat) : chkBody Try.f57 (T_spec_l1Once_sg N).ps = true := by kernel_rfl

theorem T_spec_l1Once_callable : Callable Try.prog 57 := callable_of Try.func57 (show chkFn Try.f57 = true by kernel_rfl)

theorem T_spec_l1Once_good (N : Nat) : Good Try.prog 57 (T_spec_l1Once_sg N) :=
  good_body mixedOk tabOk (ctx_cons (T_spec_l1Below_good N) T_spec_l1Below_callable ctx_nil) Try.func57 (T_spec_l1Once_ok N) (fun d _ h => ⟨N, (T_spec_l1Once_den N d.1 d.2.1).trans h⟩)

noncomputable def T_spec_l1PickInt_sg (N : Nat) : Sig := Sig.of [.box (.prod (.slice (.int .u8)) (.prod (.int .i64) (.int .i64))), .v (.slice (.int .i64)) false] [.v (.int .i64) false] (fun d => T_spec_l1PickInt N d.1 d.2.1)

def T_spec_l1PickInt_ann : Nat → List Ghost
  | _ => []

noncomputable def T_spec_l1PickInt_ctx (N : Nat) : Ctx := [(54, T_spec_l1Below_sg N)]

theorem T_spec_l1PickInt_den (N : Nat) (c1 : List Int × Int × Int) (list2 : List Int) :
    den (R := ODen (T_spec_l1PickInt_sg N).ps × RDen (T_spec_l1PickInt_sg N).rs) tab (T_spec_l1PickInt_ctx N) T_spec_l1PickInt_ann N (T_spec_l1PickInt_sg N) Try.f58 (c1, list2, ()) some =
    ((T_spec_l1Below N c1 (ilen list2)).bind fun o3 =>
    (bif inb o3.2.1 (List.length list2) then
      (some (α := ODen (T_spec_l1PickInt_sg N).ps × RDen (T_spec_l1PickInt_sg N).rs) ((o3.1.1, ()), (List.getD list2 (Int.toNat o3.2.1) (0 : Int), ()))) else none)) := by kernel_rfl

theorem T_spec_l1PickInt_ok (N : Nat) : chkBody Try.f58 (T_spec_l1PickInt_sg N).ps = true := by kernel_rfl

theorem T_spec_l1PickInt_callable : Callable Try.prog 58 := callable_of Try.func58 (show chkFn Try.f58 = true by kernel_rfl)

theorem T_spec_l1PickInt_good (N : Nat) : Good Try.prog 58 (T_spec_l1PickInt_sg N) :=
  good_body mixedOk tabOk (ctx_cons (T_spec_l1Below_good N) T_spec_l1Below_callable ctx_nil) Try.func58 (T_spec_l1PickInt_ok N) (fun d _ h => ⟨N, (T_spec_l1PickInt_den N d.1 d.2.1).trans h⟩)

noncomputable def T_spec_l27Num_sg (N : Nat) : Sig := Sig.of [.box (.prod (.slice (.int .u8)) (.prod (.int .i64) (.int .i64)))] [.v (.int .i64) false] (fun d => T_spec_l27Num N d.1)

def T_spec_l27Num_ann : Nat → List Ghost
  | _ => []

noncomputable def T_spec_l27Num_ctx (N : Nat) : Ctx := [(57, T_spec_l1Once_sg N), (58, T_spec_l1PickInt_sg N), (54, T_spec_l1Below_sg N)]

theorem T_spec_l27Num_den (N : Nat) (c1 : List Int × Int × Int) :
    den (R := ODen (T_spec_l27Num_sg N).ps × RDen (T_spec_l27Num_sg N).rs) tab (T_spec_l27Num_ctx N) T_spec_l27Num_ann N (T_spec_l27Num_sg N) Try.f55 (c1, ()) some =
    ((T_spec_l1Once N c1 (8 : Int)).bind fun o2 =>
    (bif o2.2.1 then
      ((T_spec_l1PickInt N o2.1.1 ([(-1 : Int), (9223372036854775807 : Int), (-9223372036854775808 : Int), (899 : Int), (60 : Int), (0 : Int)])).bind fun o3 =>
        (some (α := ODen (T_spec_l27Num_sg N).ps × RDen (T_spec_l27Num_sg N).rs) ((o3.1.1, ()), (o3.2.1, ()))))
      else
      ((T_spec_l1Below N o2.1.1 (200 : Int)).bind fun o4 =>
        (some (α := ODen (T_spec_l27Num_sg N).ps × RDen (T_spec_l27Num_sg N).rs) ((o4.1.1, ()), (o4.2.1, ())))))) := by kernel_rfl

theorem T_spec_l27Num_ok (N : Nat) : chkBody Try.f55 (T_spec_l27Num_sg N).ps = true := by kernel_rfl

theorem T_spec_l27Num_callable : Callable Try.prog 55 := callable_of Try.func55 (show chkFn Try.f55 = true by kernel_rfl)

theorem T_spec_l27Num_good (N : Nat) : Good Try.prog 55 (T_spec_l27Num_sg N) :=
  good_body mixedOk tabOk (ctx_cons (T_spec_l1Once_good N) T_spec_l1Once_callable (ctx_cons (T_spec_l1PickInt_good N) T_spec_l1PickInt_callable (ctx_cons (T_spec_l1Below_good N) T_spec_l1Below_callable ctx_nil))) Try.func55 (T_spec_l27Num_ok N) (fun d _ h => ⟨N, (T_spec_l27Num_den N d.1).trans h⟩)

noncomputable def T_spec_l27List_sg (N : Nat) : Sig := Sig.of [.box (.prod (.slice (.int .u8)) (.prod (.int .i64) (.int .i64)))] [.v (.own (.int .i64)) false] (fun d => T_spec_l27List N d.1)

def T_spec_l27List_ann : Nat → List Ghost
  | 3 => [.canon [0, 3, 4, 9]]
  | 4 => [.canon [0, 3, 4]]
  | 5 => [.canon [0, 3, 4]]
  | 100003 => [.canon [0, 3, 4]]
  | _ => []

noncomputable def T_spec_l27List_ctx (N : Nat) : Ctx := [(54, T_spec_l1Below_sg N), (55, T_spec_l27Num_sg N)]

def T_spec_l27List_lp0_sh (n3 : Int) (b4 : List Int × Int × Int) (l5 : List Int) : St := { env := [(0, .s (.one (.ptr 0 0))), (3, .s (.one (.own 1))), (4, .s (.one (.val (.int .i64) (n3 : Int))))], objs := [(0, .box [.val (.slice (.int .u8)) (b4.1 : List Int), .val (.int .i64) (b4.2.1 : Int), .val (.int .i64) (b4.2.2 : Int)]), (1, .arr (.int .i64) (l5 : List Int))], nx := 2 }

def T_spec_l27List_lp0_e0 (n7 : Int) (t8 : Bool) (b9 : List Int × Int × Int) (l10 : List Int) : St := { env := [(0, .s (.one (.ptr 0 0))), (3, .s (.one (.own 1))), (4, .s (.one (.val (.int .i64) (n7 : Int)))), (9, .s (.one (.val (.bool) (t8 : Bool))))], objs := [(0, .box [.val (.slice (.int .u8)) (b9.1 : List Int), .val (.int .i64) (b9.2.1 : Int), .val (.int .i64) (b9.2.2 : Int)]), (1, .arr (.int .i64) (l10 : List Int))], nx := 2 }

noncomputable def T_spec_l27List_lp0_m (N : Nat) {R : Type} (n : Nat) (st : St) (K : Ex → St → Option R) : Option R := loopN (roundG (T_spec_l27List_ann 100003) fun st k => sx tab (T_spec_l27List_ctx N) T_spec_l27List_ann N (nthLoop Try.f48 0) st k) n st K

theorem T_spec_l27List_lp0_step (N : Nat) {R : Type} (n : Nat) (K : Ex → St → Option R) (n3 : Int) (b4 : List Int × Int × Int) (l5 : List Int) :
    T_spec_l27List_lp0_m N (n + 1) (T_spec_l27List_lp0_sh n3 b4 l5) K =
    (bif decide (n3 > (0 : Int)) then
    ((T_spec_l27Num N b4).bind fun o11 =>
      (bif room ((List.length l5) + (List.length ([o11.2.1]))) then
        (T_spec_l27List_lp0_m N n (T_spec_l27List_lp0_sh (isub .i64 n3 (1 : Int)) o11.1.1 (List.append l5 ([o11.2.1]))) K) else none))
    else
    (K (.exit 0) (T_spec_l27List_lp0_e0 n3 (decide (n3 > (0 : Int))) b4 l5))) := by kernel_rfl

theorem T_spec_l27List_lp0_eq (N : Nat) {R : Type} (K : Ex → St → Option R) : ∀ (n : Nat) (n3 : Int) (b4 : List Int × Int × Int) (l5 : List Int), T_spec_l27List_lp0_m N n (T_spec_l27List_lp0_sh n3 b4 l5) K = T_spec_l27List_lp0 N (fun n7 t8 b9 l10 => (K (.exit 0) (T_spec_l27List_lp0_e0 n7 t8 b9 l10))) n n3 b4 l5
  | 0, _, _, _ => rfl
  | n + 1, n3, b4, l5 => by rw [T_spec_l27List_lp0_step, T_spec_l27List_lp0]; (try simp only [T_spec_l27List_lp0_eq N K n])

theorem T_spec_l27List_c1 (N : Nat) (n12 : Int) (t13 : Bool) (b14 : List Int × Int × Int) (l15 : List Int) :
    ((ctxK (R := ODen (T_spec_l27List_sg N).ps × RDen (T_spec_l27List_sg N).rs) tab (T_spec_l27List_ctx N) T_spec_l27List_ann N (theCode Try.f48) [1, 1, 0, 1, 0] (retK tab (T_spec_l27List_sg N) Try.f48.results.toList some)) (.exit 0) (T_spec_l27List_lp0_e0 n12 t13 b14 l15)) =
    (some (α := ODen (T_spec_l27List_sg N).ps × RDen (T_spec_l27List_sg N).rs) ((b14, ()), (l15, ()))) := by kernel_rfl

theorem T_spec_l27List_den (N : Nat) (c1 : List Int × Int × Int) :
    den (R := ODen (T_spec_l27List_sg N).ps × RDen (T_spec_l27List_sg N).rs) tab (T_spec_l27List_ctx N) T_spec_l27List_ann N (T_spec_l27List_sg N) Try.f48 (c1, ()) some =
    ((T_spec_l1Below N c1 (6 : Int)).bind fun o2 =>
    (T_spec_l27List_lp0 N
      (fun n12 t13 b14 l15 =>
        (some (α := ODen (T_spec_l27List_sg N).ps × RDen (T_spec_l27List_sg N).rs) ((b14, ()), (l15, ()))))
       N o2.2.1 o2.1.1 ([] : List Int))) := by
  have h : den (R := ODen (T_spec_l27List_sg N).ps × RDen (T_spec_l27List_sg N).rs) tab (T_spec_l27List_ctx N) T_spec_l27List_ann N (T_spec_l27List_sg N) Try.f48 (c1, ()) some =
    ((T_spec_l1Below N c1 (6 : Int)).bind fun o2 =>
    (T_spec_l27List_lp0_m N N (T_spec_l27List_lp0_sh o2.2.1 o2.1.1 ([] : List Int)) (ctxK (R := ODen (T_spec_l27List_sg N).ps × RDen (T_spec_l27List_sg N).rs) tab (T_spec_l27List_ctx N) T_spec_l27List_ann N (theCode Try.f48) [1, 1, 0, 1, 0] (retK tab (T_spec_l27List_sg N) Try.f48.results.toList some)))) := by kernel_rfl
  rw [h]
  (try simp only [T_spec_l27List_lp0_eq, T_spec_l27List_c1]) <;> rfl

theorem T_spec_l27List_ok (N : Nat) : chkBody Try.f48 (T_spec_l27List_sg N).ps = true := by kernel_rfl

theorem T_spec_l27List_callable : Callable Try.prog 48 := callable_of Try.func48 (show chkFn Try.f48 = true by kernel_rfl)

theorem T_spec_l27List_good (N : Nat) : Good Try.prog 48 (T_spec_l27List_sg N) :=
  good_body mixedOk tabOk (ctx_cons (T_spec_l1Below_good N) T_spec_l1Below_callable (ctx_cons (T_spec_l27Num_good N) T_spec_l27Num_callable ctx_nil)) Try.func48 (T_spec_l27List_ok N) (fun d _ h => ⟨N, (T_spec_l27List_den N d.1).trans h⟩)

noncomputable def T_spec_DrawSigSets_sg (N : Nat) : Sig := Sig.of [.v (.slice (.int .u8)) false] [.v (.own (.int .i64)) false, .v (.own (.int .i64)) false] (fun d => T_spec_DrawSigSets N d.1)

def T_spec_DrawSigSets_ann : Nat → List Ghost
  | _ => []

noncomputable def T_spec_DrawSigSets_ctx (N : Nat) : Ctx := [(47, T_spec_l1New_sg N), (48, T_spec_l27List_sg N)]

theorem T_spec_DrawSigSets_den (N : Nat) (code1 : List Int) :
    den (R := ODen (T_spec_DrawSigSets_sg N).ps × RDen (T_spec_DrawSigSets_sg N).rs) tab (T_spec_DrawSigSets_ctx N) T_spec_DrawSigSets_ann N (T_spec_DrawSigSets_sg N) Try.f29 (code1, ()) some =
    ((T_spec_l1New N code1).bind fun o2 =>
    ((T_spec_l27List N o2.2.1).bind fun o3 =>
      ((T_spec_l27List N o3.1.1).bind fun o4 =>
        (some (α := ODen (T_spec_DrawSigSets_sg N).ps × RDen (T_spec_DrawSigSets_sg N).rs) ((), (o3.2.1, (o4.2.1, ()))))))) := by kernel_rfl

theorem T_spec_DrawSigSets_ok (N : Nat) : chkBody Try.f29 (T_spec_DrawSigSets_sg N).ps = true := by kernel_rfl

theorem T_spec_DrawSigSets_callable : Callable Try.prog 29 := callable_of Try.func29 (show chkFn Try.f29 = true by kernel_rfl)

theorem T_spec_DrawSigSets_good (N : Nat) : Good Try.prog 29 (T_spec_DrawSigSets_sg N) :=
  good_body mixedOk tabOk (ctx_cons (T_spec_l1New_good N) T_spec_l1New_callable (ctx_cons (T_spec_l27List_good N) T_spec_l27List_callable ctx_nil)) Try.func29 (T_spec_DrawSigSets_ok N) (fun d _ h => ⟨N, (T_spec_DrawSigSets_den N d.1).trans h⟩)

noncomputable def T_impl_remainder_sg (N : Nat) : Sig := Sig.of [.v (.int .i64) false, .v (.int .i64) false] [.v (.int .i64) false] (fun d => T_impl_remainder N d.1 d.2.1)

def T_impl_remainder_ann : Nat → List Ghost
  | _ => []

noncomputable def T_impl_remainder_ctx (N : Nat) : Ctx := []

theorem T_impl_remainder_den (N : Nat) (x1 : Int) (n2 : Int) :
    den (R := ODen (T_impl_remainder_sg N).ps × RDen (T_impl_remainder_sg N).rs) tab (T_impl_remainder_ctx N) T_impl_remainder_ann N (T_impl_remainder_sg N) Try.f51 (x1, n2, ()) some =
    (bif inz n2 then
    (bif inz n2 then
      (some (α := ODen (T_impl_remainder_sg N).ps × RDen (T_impl_remainder_sg N).rs) ((), (irem (iadd .i64 (irem x1 n2) n2) n2, ()))) else none) else none) := by kernel_rfl

theorem T_impl_remainder_ok (N : Nat) : chkBody Try.f51 (T_impl_remainder_sg N).ps = true := by kernel_rfl

theorem T_impl_remainder_callable : Callable Try.prog 51 := callable_of Try.func51 (show chkFn Try.f51 = true by kernel_rfl)

theorem T_impl_remainder_good (N : Nat) : Good Try.prog 51 (T_impl_remainder_sg N) :=
  good_body mixedOk tabOk ctx_nil Try.func51 (T_impl_remainder_ok N) (fun d _ h => ⟨N, (T_impl_remainder_den N d.1 d.2.1).trans h⟩)

noncomputable def T_impl_SigOne_sg (N : Nat) : Sig := Sig.of [.v (.int .i64) false] [.v (.int .i64) false] (fun d => T_impl_SigOne N d.1)

def T_impl_SigOne_ann : Nat → List Ghost
  | _ => []

noncomputable def T_impl_SigOne_ctx (N : Nat) : Ctx := [(51, T_impl_remainder_sg N)]

theorem T_impl_SigOne_den (N : Nat) (x1 : Int) :
    den (R := ODen (T_impl_SigOne_sg N).ps × RDen (T_impl_SigOne_sg N).rs) tab (T_impl_SigOne_ctx N) T_impl_SigOne_ann N (T_impl_SigOne_sg N) Try.f38 (x1, ()) some =
    ((T_impl_remainder N x1 (29 : Int)).bind fun o2 =>
    (bif inn o2.2.1 then
      ((T_impl_remainder N x1 (31 : Int)).bind fun o3 =>
        (bif inn (iadd .i64 (29 : Int) o3.2.1) then
          (some (α := ODen (T_impl_SigOne_sg N).ps × RDen (T_impl_SigOne_sg N).rs) ((), (ior .i64 (ishl .i64 (1 : Int) o2.2.1) (ishl .i64 (1 : Int) (iadd .i64 (29 : Int) o3.2.1)), ()))) else none)) else none)) := by kernel_rfl

theorem T_impl_SigOne_ok (N : Nat) : chkBody Try.f38 (T_impl_SigOne_sg N).ps = true := by kernel_rfl

theorem T_impl_SigOne_callable : Callable Try.prog 38 := callable_of Try.func38 (show chkFn Try.f38 = true by kernel_rfl)

theorem T_impl_SigOne_good (N : Nat) : Good Try.prog 38 (T_impl_SigOne_sg N) :=
  good_body mixedOk tabOk (ctx_cons (T_impl_remainder_good N) T_impl_remainder_callable ctx_nil) Try.func38 (T_impl_SigOne_ok N) (fun d _ h => ⟨N, (T_impl_SigOne_den N d.1).trans h⟩)

noncomputable def T_impl_SigOf_sg (N : Nat) : Sig := Sig.of [.v (.slice (.int .i64)) false] [.v (.int .i64) false] (fun d => T_impl_SigOf N d.1)

def T_impl_SigOf_ann : Nat → List Ghost
  | 3 => [.canon [3, 6, 7, 8, 9]]
  | 4 => [.canon [3, 5, 6, 7, 8]]
  | 5 => [.canon [3, 6, 7, 8]]
  | 6 => [.canon [3, 6, 7, 8]]
  | 100003 => [.canon [3, 6, 7, 8]]
  | _ => []

noncomputable def T_impl_SigOf_ctx (N : Nat) : Ctx := [(38, T_impl_SigOne_sg N)]

def T_impl_SigOf_lp0_sh (out2 : Int) (t3 : List Int) (t5 : Int) : St := { env := [(3, .s (.one (.val (.int .i64) (out2 : Int)))), (6, .s (.one (.val (.slice (.int .i64)) (t3 : List Int)))), (7, .s (.one (.val (.int .i64) (ilen t3 : Int)))), (8, .s (.one (.val (.int .i64) (t5 : Int))))], objs := [], nx := 0 }

def T_impl_SigOf_lp0_e0 (t3 : List Int) (out8 : Int) (t9 : Int) (t10 : Bool) : St := { env := [(3, .s (.one (.val (.int .i64) (out8 : Int)))), (6, .s (.one (.val (.slice (.int .i64)) (t3 : List Int)))), (7, .s (.one (.val (.int .i64) (ilen t3 : Int)))), (8, .s (.one (.val (.int .i64) (t9 : Int)))), (9, .s (.one (.val (.bool) (t10 : Bool))))], objs := [], nx := 0 }

noncomputable def T_impl_SigOf_lp0_m (N : Nat) {R : Type} (n : Nat) (st : St) (K : Ex → St → Option R) : Option R := loopN (roundG (T_impl_SigOf_ann 100003) fun st k => sx tab (T_impl_SigOf_ctx N) T_impl_SigOf_ann N (nthLoop Try.f11 0) st k) n st K

theorem T_impl_SigOf_lp0_step (N : Nat) {R : Type} (n : Nat) (K : Ex → St → Option R) (out2 : Int) (t3 : List Int) (t5 : Int) :
    T_impl_SigOf_lp0_m N (n + 1) (T_impl_SigOf_lp0_sh out2 t3 t5) K =
    (bif decide (t5 < (ilen t3)) then
    (bif inb t5 (List.length t3) then
      ((T_impl_SigOne N (List.getD t3 (Int.toNat t5) (0 : Int))).bind fun o11 =>
        (T_impl_SigOf_lp0_m N n (T_impl_SigOf_lp0_sh (ior .i64 out2 o11.2.1) t3 (iadd .i64 t5 (1 : Int))) K)) else none)
    else
    (K (.exit 0) (T_impl_SigOf_lp0_e0 t3 out2 t5 (decide (t5 < (ilen t3)))))) := by kernel_rfl

theorem T_impl_SigOf_lp0_eq (N : Nat) {R : Type} (t3 : List Int) (K : Ex → St → Option R) : ∀ (n : Nat) (out2 : Int) (t5 : Int), T_impl_SigOf_lp0_m N n (T_impl_SigOf_lp0_sh out2 t3 t5) K = T_impl_SigOf_lp0 N t3 (fun out8 t9 t10 => (K (.exit 0) (T_impl_SigOf_lp0_e0 t3 out8 t9 t10))) n out2 t5
  | 0, _, _ => rfl
  | n + 1, out2, t5 => by rw [T_impl_SigOf_lp0_step, T_impl_SigOf_lp0]; (try simp only [T_impl_SigOf_lp0_eq N t3 K n])

theorem T_impl_SigOf_c1 (N : Nat) (l1 : List Int) (out12 : Int) (t13 : Int) (t14 : Bool) :
    ((ctxK (R := ODen (T_impl_SigOf_sg N).ps × RDen (T_impl_SigOf_sg N).rs) tab (T_impl_SigOf_ctx N) T_impl_SigOf_ann N (theCode Try.f11) [1, 1, 0, 1, 0] (retK tab (T_impl_SigOf_sg N) Try.f11.results.toList some)) (.exit 0) (T_impl_SigOf_lp0_e0 l1 out12 t13 t14)) =
    (some (α := ODen (T_impl_SigOf_sg N).ps × RDen (T_impl_SigOf_sg N).rs) ((), (out12, ()))) := by kernel_rfl

theorem T_impl_SigOf_den (N : Nat) (l1 : List Int) :
    den (R := ODen (T_impl_SigOf_sg N).ps × RDen (T_impl_SigOf_sg N).rs) tab (T_impl_SigOf_ctx N) T_impl_SigOf_ann N (T_impl_SigOf_sg N) Try.f11 (l1, ()) some =
    (T_impl_SigOf_lp0 N l1
    (fun out12 t13 t14 =>
      (some (α := ODen (T_impl_SigOf_sg N).ps × RDen (T_impl_SigOf_sg N).rs) ((), (out12, ()))))
     N (0 : Int) (0 : Int)) := by
  have h : den (R := ODen (T_impl_SigOf_sg N).ps × RDen (T_impl_SigOf_sg N).rs) tab (T_impl_SigOf_ctx N) T_impl_SigOf_ann N (T_impl_SigOf_sg N) Try.f11 (l1, ()) some =
    (T_impl_SigOf_lp0_m N N (T_impl_SigOf_lp0_sh (0 : Int) l1 (0 : Int)) (ctxK (R := ODen (T_impl_SigOf_sg N).ps × RDen (T_impl_SigOf_sg N).rs) tab (T_impl_SigOf_ctx N) T_impl_SigOf_ann N (theCode Try.f11) [1, 1, 0, 1, 0] (retK tab (T_impl_SigOf_sg N) Try.f11.results.toList some))) := by kernel_rfl
  rw [h]
  (try simp only [T_impl_SigOf_lp0_eq, T_impl_SigOf_c1]) <;> rfl

theorem T_impl_SigOf_ok (N : Nat) : chkBody Try.f11 (T_impl_SigOf_sg N).ps = true := by kernel_rfl

theorem T_impl_SigOf_callable : Callable Try.prog 11 := callable_of Try.func11 (show chkFn Try.f11 = true by kernel_rfl)

theorem T_impl_SigOf_good (N : Nat) : Good Try.prog 11 (T_impl_SigOf_sg N) :=
  good_body mixedOk tabOk (ctx_cons (T_impl_SigOne_good N) T_impl_SigOne_callable ctx_nil) Try.func11 (T_impl_SigOf_ok N) (fun d _ h => ⟨N, (T_impl_SigOf_den N d.1).trans h⟩)

noncomputable def T_impl_bits_sg (N : Nat) : Sig := Sig.of [.v (.int .i64) false] [.v (.int .i64) false] (fun d => T_impl_bits N d.1)

def T_impl_bits_ann : Nat → List Ghost
  | _ => []

noncomputable def T_impl_bits_ctx (N : Nat) : Ctx := []

theorem T_impl_bits_den (N : Nat) (sig1 : Int) :
    den (R := ODen (T_impl_bits_sg N).ps × RDen (T_impl_bits_sg N).rs) tab (T_impl_bits_ctx N) T_impl_bits_ann N (T_impl_bits_sg N) Try.f49 (sig1, ()) some =
    (bif decide (sig1 < (0 : Int)) then
    (some (α := ODen (T_impl_bits_sg N).ps × RDen (T_impl_bits_sg N).rs) ((), ((0 : Int), ())))
    else
    (some (α := ODen (T_impl_bits_sg N).ps × RDen (T_impl_bits_sg N).rs) ((), (iand .i64 sig1 (1152921504606846975 : Int), ())))) := by kernel_rfl

theorem T_impl_bits_ok (N : Nat) : chkBody Try.f49 (T_impl_bits_sg N).ps = true := by kernel_rfl

theorem T_impl_bits_callable : Callable Try.prog 49 := callable_of Try.func49 (show chkFn Try.f49 = true by kernel_rfl)

theorem T_impl_bits_good (N : Nat) : Good Try.prog 49 (T_impl_bits_sg N) :=
  good_body mixedOk tabOk ctx_nil Try.func49 (T_impl_bits_ok N) (fun d _ h => ⟨N, (T_impl_bits_den N d.1).trans h⟩)

noncomputable def T_impl_SigHas_sg (N : Nat) : Sig := Sig.of [.v (.int .i64) false, .v (.int .i64) false] [.v (.bool) false] (fun d => T_impl_SigHas N d.1 d.2.1)

def T_impl_SigHas_ann : Nat → List Ghost
  | _ => []

noncomputable def T_impl_SigHas_ctx (N : Nat) : Ctx := [(38, T_impl_SigOne_sg N), (49, T_impl_bits_sg N)]

theorem T_impl_SigHas_den (N : Nat) (sig1 : Int) (x2 : Int) :
    den (R := ODen (T_impl_SigHas_sg N).ps × RDen (T_impl_SigHas_sg N).rs) tab (T_impl_SigHas_ctx N) T_impl_SigHas_ann N (T_impl_SigHas_sg N) Try.f30 (sig1, x2, ()) some =
    ((T_impl_SigOne N x2).bind fun o3 =>
    ((T_impl_bits N sig1).bind fun o4 =>
      (some (α := ODen (T_impl_SigHas_sg N).ps × RDen (T_impl_SigHas_sg N).rs) ((), ((iand .i64 o4.2.1 o3.2.1) == o3.2.1, ()))))) := by kernel_rfl

theorem T_impl_SigHas_ok (N : Nat) : chkBody Try.f30 (T_impl_SigHas_sg N).ps = true := by kernel_rfl

theorem T_impl_SigHas_callable : Callable Try.prog 30 := callable_of Try.func30 (show chkFn Try.f30 = true by kernel_rfl)

theorem T_impl_SigHas_good (N : Nat) : Good Try.prog 30 (T_impl_SigHas_sg N) :=
  good_body mixedOk tabOk (ctx_cons (T_impl_SigOne_good N) T_impl_SigOne_callable (ctx_cons (T_impl_bits_good N) T_impl_bits_callable ctx_nil)) Try.func30 (T_impl_SigHas_ok N) (fun d _ h => ⟨N, (T_impl_SigHas_den N d.1 d.2.1).trans h⟩)

noncomputable def T_impl_SigSets_sg (N : Nat) : Sig := Sig.of [.v (.slice (.int .i64)) false, .v (.slice (.int .i64)) false] [.v (.bool) false] (fun d => T_impl_SigSets N d.1 d.2.1)

def T_impl_SigSets_ann : Nat → List Ghost
  | 2 => [.canon [1, 9, 10, 11, 12]]
  | 3 => [.canon [1, 6, 9, 10, 11]]
  | 4 => [.canon [1, 6, 9, 10, 11, 15, 16, 17]]
  | 5 => [.canon [1, 6, 9, 10, 11, 15, 16, 17, 18]]
  | 6 => [.canon [1, 6, 8, 9, 10, 11, 15, 16, 17]]
  | 7 => [.canon [1, 6, 9, 10, 11, 15, 16, 17, 23]]
  | 8 => [.canon [4]]
  | 9 => [.canon [1, 6, 9, 10, 11, 15, 16, 17]]
  | 10 => [.canon [1, 9, 10, 11]]
  | 100002 => [.canon [1, 9, 10, 11]]
  | 100005 => [.canon [1, 6, 9, 10, 11, 15, 16, 17]]
  | _ => []

noncomputable def T_impl_SigSets_ctx (N : Nat) : Ctx := []

def T_impl_SigSets_lp1_sh (b7 : List Int) (t9 : List Int) (t10 : Int) (t11 : Int) (t14 : Int) : St := { env := [(1, .s (.one (.val (.slice (.int .i64)) (b7 : List Int)))), (6, .s (.one (.val (.int .i64) (List.getD t9 (Int.toNat t11) (0 : Int) : Int)))), (9, .s (.one (.val (.slice (.int .i64)) (t9 : List Int)))), (10, .s (.one (.val (.int .i64) (t10 : Int)))), (11, .s (.one (.val (.int .i64) (t11 : Int)))), (15, .s (.one (.val (.slice (.int .i64)) (b7 : List Int)))), (16, .s (.one (.val (.int .i64) (ilen b7 : Int)))), (17, .s (.one (.val (.int .i64) (t14 : Int))))], objs := [], nx := 0 }

def T_impl_SigSets_lp1_e0 (b7 : List Int) (t9 : List Int) (t10 : Int) (t11 : Int) : St := { env := [(4, .s (.one (.val (.bool) (true : Bool))))], objs := [], nx := 0 }

def T_impl_SigSets_lp1_e1 (b7 : List Int) (t9 : List Int) (t10 : Int) (t11 : Int) (t15 : Int) (t16 : Bool) : St := { env := [(1, .s (.one (.val (.slice (.int .i64)) (b7 : List Int)))), (6, .s (.one (.val (.int .i64) (List.getD t9 (Int.toNat t11) (0 : Int) : Int)))), (9, .s (.one (.val (.slice (.int .i64)) (t9 : List Int)))), (10, .s (.one (.val (.int .i64) (t10 : Int)))), (11, .s (.one (.val (.int .i64) (t11 : Int)))), (15, .s (.one (.val (.slice (.int .i64)) (b7 : List Int)))), (16, .s (.one (.val (.int .i64) (ilen b7 : Int)))), (17, .s (.one (.val (.int .i64) (t15 : Int)))), (18, .s (.one (.val (.bool) (t16 : Bool))))], objs := [], nx := 0 }

noncomputable def T_impl_SigSets_lp1_m (N : Nat) {R : Type} (n : Nat) (st : St) (K : Ex → St → Option R) : Option R := loopN (roundG (T_impl_SigSets_ann 100005) fun st k => sx tab (T_impl_SigSets_ctx N) T_impl_SigSets_ann N (nthLoop Try.f31 1) st k) n st K

theorem T_impl_SigSets_lp1_step (N : Nat) {R : Type} (n : Nat) (K : Ex → St → Option R) (b7 : List Int) (t9 : List Int) (t10 : Int) (t11 : Int) (t14 : Int) :
    T_impl_SigSets_lp1_m N (n + 1) (T_impl_SigSets_lp1_sh b7 t9 t10 t11 t14) K =
    (bif decide (t14 < (ilen b7)) then
    (bif inb t14 (List.length b7) then
      (bif (List.getD t9 (Int.toNat t11) (0 : Int)) == (List.getD b7 (Int.toNat t14) (0 : Int)) then
        (K .ret (T_impl_SigSets_lp1_e0 b7 t9 t10 t11))
        else
        (T_impl_SigSets_lp1_m N n (T_impl_SigSets_lp1_sh b7 t9 t10 t11 (iadd .i64 t14 (1 : Int))) K)) else none)
    else
    (K (.exit 2) (T_impl_SigSets_lp1_e1 b7 t9 t10 t11 t14 (decide (t14 < (ilen b7)))))) := by kernel_rfl

theorem T_impl_SigSets_lp1_eq (N : Nat) {R : Type} (b7 : List Int) (t9 : List Int) (t10 : Int) (t11 : Int) (K : Ex → St → Option R) : ∀ (n : Nat) (t14 : Int), T_impl_SigSets_lp1_m N n (T_impl_SigSets_lp1_sh b7 t9 t10 t11 t14) K = T_impl_SigSets_lp1 N b7 t9 t10 t11 (K .ret (T_impl_SigSets_lp1_e0 b7 t9 t10 t11)) (fun t15 t16 => (K (.exit 2) (T_impl_SigSets_lp1_e1 b7 t9 t10 t11 t15 t16))) n t14
  | 0, _ => rfl
  | n + 1, t14 => by rw [T_impl_SigSets_lp1_step, T_impl_SigSets_lp1]; (try simp only [T_impl_SigSets_lp1_eq N b7 t9 t10 t11 K n])

def T_impl_SigSets_lp0_sh (b3 : List Int) (t4 : List Int) (t6 : Int) : St := { env := [(1, .s (.one (.val (.slice (.int .i64)) (b3 : List Int)))), (9, .s (.one (.val (.slice (.int .i64)) (t4 : List Int)))), (10, .s (.one (.val (.int .i64) (ilen t4 : Int)))), (11, .s (.one (.val (.int .i64) (t6 : Int))))], objs := [], nx := 0 }

def T_impl_SigSets_lp0_e0 (b3 : List Int) (t4 : List Int) : St := { env := [(4, .s (.one (.val (.bool) (true : Bool))))], objs := [], nx := 0 }

def T_impl_SigSets_lp0_e1 (b3 : List Int) (t4 : List Int) (t21 : Int) (t22 : Bool) : St := { env := [(1, .s (.one (.val (.slice (.int .i64)) (b3 : List Int)))), (9, .s (.one (.val (.slice (.int .i64)) (t4 : List Int)))), (10, .s (.one (.val (.int .i64) (ilen t4 : Int)))), (11, .s (.one (.val (.int .i64) (t21 : Int)))), (12, .s (.one (.val (.bool) (t22 : Bool))))], objs := [], nx := 0 }

noncomputable def T_impl_SigSets_lp0_m (N : Nat) {R : Type} (n : Nat) (st : St) (K : Ex → St → Option R) : Option R := loopN (roundG (T_impl_SigSets_ann 100002) fun st k => sx tab (T_impl_SigSets_ctx N) T_impl_SigSets_ann N (nthLoop Try.f31 0) st k) n st K

theorem T_impl_SigSets_c1 (N : Nat) {R : Type} (n : Nat) (K : Ex → St → Option R) (b3 : List Int) (t4 : List Int) (t6 : Int) :
    ((ctxK tab (T_impl_SigSets_ctx N) T_impl_SigSets_ann N (nthLoop Try.f31 0) [1, 1, 0, 0, 1, 1, 0] (backK (T_impl_SigSets_ann 100002) (T_impl_SigSets_lp0_m N n) K)) .ret (T_impl_SigSets_lp1_e0 b3 t4 (ilen t4) t6)) =
    (K .ret (T_impl_SigSets_lp0_e0 b3 t4)) := by kernel_rfl

theorem T_impl_SigSets_c2 (N : Nat) {R : Type} (n : Nat) (K : Ex → St → Option R) (b3 : List Int) (t4 : List Int) (t6 : Int) (t23 : Int) (t24 : Bool) :
    ((ctxK tab (T_impl_SigSets_ctx N) T_impl_SigSets_ann N (nthLoop Try.f31 0) [1, 1, 0, 0, 1, 1, 0] (backK (T_impl_SigSets_ann 100002) (T_impl_SigSets_lp0_m N n) K)) (.exit 2) (T_impl_SigSets_lp1_e1 b3 t4 (ilen t4) t6 t23 t24)) =
    (T_impl_SigSets_lp0_m N n (T_impl_SigSets_lp0_sh b3 t4 (iadd .i64 t6 (1 : Int))) K) := by kernel_rfl

theorem T_impl_SigSets_lp0_step (N : Nat) {R : Type} (n : Nat) (K : Ex → St → Option R) (b3 : List Int) (t4 : List Int) (t6 : Int) :
    T_impl_SigSets_lp0_m N (n + 1) (T_impl_SigSets_lp0_sh b3 t4 t6) K =
    (bif decide (t6 < (ilen t4)) then
    (bif inb t6 (List.length t4) then
      (T_impl_SigSets_lp1 N b3 t4 (ilen t4) t6
        (K .ret (T_impl_SigSets_lp0_e0 b3 t4))
        (fun t23 t24 =>
          (T_impl_SigSets_lp0_m N n (T_impl_SigSets_lp0_sh b3 t4 (iadd .i64 t6 (1 : Int))) K))
         N (0 : Int)) else none)
    else
    (K (.exit 0) (T_impl_SigSets_lp0_e1 b3 t4 t6 (decide (t6 < (ilen t4)))))) := by
  have h : T_impl_SigSets_lp0_m N (n + 1) (T_impl_SigSets_lp0_sh b3 t4 t6) K =
    (bif decide (t6 < (ilen t4)) then
    (bif inb t6 (List.length t4) then
      (T_impl_SigSets_lp1_m N N (T_impl_SigSets_lp1_sh b3 t4 (ilen t4) t6 (0 : Int)) (ctxK tab (T_impl_SigSets_ctx N) T_impl_SigSets_ann N (nthLoop Try.f31 0) [1, 1, 0, 0, 1, 1, 0] (backK (T_impl_SigSets_ann 100002) (T_impl_SigSets_lp0_m N n) K))) else none)
    else
    (K (.exit 0) (T_impl_SigSets_lp0_e1 b3 t4 t6 (decide (t6 < (ilen t4)))))) := by kernel_rfl
  rw [h]
  (try simp only [T_impl_SigSets_lp1_eq, T_impl_SigSets_c1, T_impl_SigSets_c2]) <;> rfl

theorem T_impl_SigSets_lp0_eq (N : Nat) {R : Type} (b3 : List Int) (t4 : List Int) (K : Ex → St → Option R) : ∀ (n : Nat) (t6 : Int), T_impl_SigSets_lp0_m N n (T_impl_SigSets_lp0_sh b3 t4 t6) K = T_impl_SigSets_lp0 N b3 t4 (K .ret (T_impl_SigSets_lp0_e0 b3 t4)) (fun t21 t22 => (K (.exit 0) (T_impl_SigSets_lp0_e1 b3 t4 t21 t22))) n t6
  | 0, _ => rfl
  | n + 1, t6 => by rw [T_impl_SigSets_lp0_step, T_impl_SigSets_lp0]; (try simp only [T_impl_SigSets_lp0_eq N b3 t4 K n])

theorem T_impl_SigSets_c3 (N : Nat) (b2 : List Int) (a1 : List Int) :
    ((ctxK (R := ODen (T_impl_SigSets_sg N).ps × RDen (T_impl_SigSets_sg N).rs) tab (T_impl_SigSets_ctx N) T_impl_SigSets_ann N (theCode Try.f31) [1, 0, 1, 0] (retK tab (T_impl_SigSets_sg N) Try.f31.results.toList some)) .ret (T_impl_SigSets_lp0_e0 b2 a1)) =
    (some (α := ODen (T_impl_SigSets_sg N).ps × RDen (T_impl_SigSets_sg N).rs) ((), (true, ()))) := by kernel_rfl

theorem T_impl_SigSets_c4 (N : Nat) (b2 : List Int) (a1 : List Int) (t25 : Int) (t26 : Bool) :
    ((ctxK (R := ODen (T_impl_SigSets_sg N).ps × RDen (T_impl_SigSets_sg N).rs) tab (T_impl_SigSets_ctx N) T_impl_SigSets_ann N (theCode Try.f31) [1, 0, 1, 0] (retK tab (T_impl_SigSets_sg N) Try.f31.results.toList some)) (.exit 0) (T_impl_SigSets_lp0_e1 b2 a1 t25 t26)) =
    (some (α := ODen (T_impl_SigSets_sg N).ps × RDen (T_impl_SigSets_sg N).rs) ((), (false, ()))) := by kernel_rfl

theorem T_impl_SigSets_den (N : Nat) (a1 : List Int) (b2 : List Int) :
    den (R := ODen (T_impl_SigSets_sg N).ps × RDen (T_impl_SigSets_sg N).rs) tab (T_impl_SigSets_ctx N) T_impl_SigSets_ann N (T_impl_SigSets_sg N) Try.f31 (a1, b2, ()) some =
    (T_impl_SigSets_lp0 N b2 a1
    (some (α := ODen (T_impl_SigSets_sg N).ps × RDen (T_impl_SigSets_sg N).rs) ((), (true, ())))
    (fun t25 t26 =>
      (some (α := ODen (T_impl_SigSets_sg N).ps × RDen (T_impl_SigSets_sg N).rs) ((), (false, ()))))
     N (0 : Int)) := by
  have h : den (R := ODen (T_impl_SigSets_sg N).ps × RDen (T_impl_SigSets_sg N).rs) tab (T_impl_SigSets_ctx N) T_impl_SigSets_ann N (T_impl_SigSets_sg N) Try.f31 (a1, b2, ()) some =
    (T_impl_SigSets_lp0_m N N (T_impl_SigSets_lp0_sh b2 a1 (0 : Int)) (ctxK (R := ODen (T_impl_SigSets_sg N).ps × RDen (T_impl_SigSets_sg N).rs) tab (T_impl_SigSets_ctx N) T_impl_SigSets_ann N (theCode Try.f31) [1, 0, 1, 0] (retK tab (T_impl_SigSets_sg N) Try.f31.results.toList some))) := by kernel_rfl
  rw [h]
  (try simp only [T_impl_SigSets_lp0_eq, T_impl_SigSets_c3, T_impl_SigSets_c4]) <;> rfl

theorem T_impl_SigSets_ok (N : Nat) : chkBody Try.f31 (T_impl_SigSets_sg N).ps = true := by kernel_rfl

theorem T_impl_SigSets_callable : Callable Try.prog 31 := callable_of Try.func31 (show chkFn Try.f31 = true by kernel_rfl)

theorem T_impl_SigSets_good (N : Nat) : Good Try.prog 31 (T_impl_SigSets_sg N) :=
  good_body mixedOk tabOk ctx_nil Try.func31 (T_impl_SigSets_ok N) (fun d _ h => ⟨N, (T_impl_SigSets_den N d.1 d.2.1).trans h⟩)

noncomputable def T_spec_SigSets_sg (N : Nat) : Sig := Sig.of [.v (.slice (.int .i64)) false, .v (.slice (.int .i64)) false] [.v (.bool) false] (fun d => T_spec_SigSets N d.1 d.2.1)

def T_spec_SigSets_ann : Nat → List Ghost
  | 2 => [.canon [0, 1, 5, 10]]
  | 3 => [.canon [0, 1, 5]]
  | 4 => [.canon [0, 1, 5, 6]]
  | 5 => [.canon [0, 1, 5, 6, 16]]
  | 6 => [.canon [0, 1, 5, 6]]
  | 7 => [.canon [0, 1, 5, 6, 27]]
  | 8 => [.canon [4]]
  | 100002 => [.canon [0, 1, 5]]
  | 100005 => [.canon [0, 1, 5, 6]]
  | _ => []

noncomputable def T_spec_SigSets_ctx (N : Nat) : Ctx := []

def T_spec_SigSets_lp1_sh (a6 : List Int) (b7 : List Int) (i8 : Int) (k9 : Int) : St := { env := [(0, .s (.one (.val (.slice (.int .i64)) (a6 : List Int)))), (1, .s (.one (.val (.slice (.int .i64)) (b7 : List Int)))), (5, .s (.one (.val (.int .i64) (i8 : Int)))), (6, .s (.one (.val (.int .i64) (k9 : Int))))], objs := [], nx := 0 }

def T_spec_SigSets_lp1_e0 (a6 : List Int) (b7 : List Int) (i8 : Int) : St := { env := [(4, .s (.one (.val (.bool) (true : Bool))))], objs := [], nx := 0 }

def T_spec_SigSets_lp1_e1 (a6 : List Int) (b7 : List Int) (i8 : Int) (k10 : Int) (t11 : Bool) : St := { env := [(0, .s (.one (.val (.slice (.int .i64)) (a6 : List Int)))), (1, .s (.one (.val (.slice (.int .i64)) (b7 : List Int)))), (5, .s (.one (.val (.int .i64) (i8 : Int)))), (6, .s (.one (.val (.int .i64) (k10 : Int)))), (16, .s (.one (.val (.bool) (t11 : Bool))))], objs := [], nx := 0 }

noncomputable def T_spec_SigSets_lp1_m (N : Nat) {R : Type} (n : Nat) (st : St) (K : Ex → St → Option R) : Option R := loopN (roundG (T_spec_SigSets_ann 100005) fun st k => sx tab (T_spec_SigSets_ctx N) T_spec_SigSets_ann N (nthLoop Try.f32 1) st k) n st K

theorem T_spec_SigSets_lp1_step (N : Nat) {R : Type} (n : Nat) (K : Ex → St → Option R) (a6 : List Int) (b7 : List Int) (i8 : Int) (k9 : Int) :
    T_spec_SigSets_lp1_m N (n + 1) (T_spec_SigSets_lp1_sh a6 b7 i8 k9) K =
    (bif decide (k9 < (ilen b7)) then
    (bif inb i8 (List.length a6) then
      (bif inb k9 (List.length b7) then
        (bif (List.getD a6 (Int.toNat i8) (0 : Int)) == (List.getD b7 (Int.toNat k9) (0 : Int)) then
          (K .ret (T_spec_SigSets_lp1_e0 a6 b7 i8))
          else
          (T_spec_SigSets_lp1_m N n (T_spec_SigSets_lp1_sh a6 b7 i8 (iadd .i64 k9 (1 : Int))) K)) else none) else none)
    else
    (K (.exit 2) (T_spec_SigSets_lp1_e1 a6 b7 i8 k9 (decide (k9 < (ilen b7)))))) := by kernel_rfl

theorem T_spec_SigSets_lp1_eq (N : Nat) {R : Type} (a6 : List Int) (b7 : List Int) (i8 : Int) (K : Ex → St → Option R) : ∀ (n : Nat) (k9 : Int), T_spec_SigSets_lp1_m N n (T_spec_SigSets_lp1_sh a6 b7 i8 k9) K = T_spec_SigSets_lp1 N a6 b7 i8 (K .ret (T_spec_SigSets_lp1_e0 a6 b7 i8)) (fun k10 t11 => (K (.exit 2) (T_spec_SigSets_lp1_e1 a6 b7 i8 k10 t11))) n k9
  | 0, _ => rfl
  | n + 1, k9 => by rw [T_spec_SigSets_lp1_step, T_spec_SigSets_lp1]; (try simp only [T_spec_SigSets_lp1_eq N a6 b7 i8 K n])

def T_spec_SigSets_lp0_sh (a3 : List Int) (b4 : List Int) (i5 : Int) : St := { env := [(0, .s (.one (.val (.slice (.int .i64)) (a3 : List Int)))), (1, .s (.one (.val (.slice (.int .i64)) (b4 : List Int)))), (5, .s (.one (.val (.int .i64) (i5 : Int))))], objs := [], nx := 0 }

def T_spec_SigSets_lp0_e0 (a3 : List Int) (b4 : List Int) : St := { env := [(4, .s (.one (.val (.bool) (true : Bool))))], objs := [], nx := 0 }

def T_spec_SigSets_lp0_e1 (a3 : List Int) (b4 : List Int) (i14 : Int) (t15 : Bool) : St := { env := [(0, .s (.one (.val (.slice (.int .i64)) (a3 : List Int)))), (1, .s (.one (.val (.slice (.int .i64)) (b4 : List Int)))), (5, .s (.one (.val (.int .i64) (i14 : Int)))), (10, .s (.one (.val (.bool) (t15 : Bool))))], objs := [], nx := 0 }

noncomputable def T_spec_SigSets_lp0_m (N : Nat) {R : Type} (n : Nat) (st : St) (K : Ex → St → Option R) : Option R := loopN (roundG (T_spec_SigSets_ann 100002) fun st k => sx tab (T_spec_SigSets_ctx N) T_spec_SigSets_ann N (nthLoop Try.f32 0) st k) n st K

theorem T_spec_SigSets_c1 (N : Nat) {R : Type} (n : Nat) (K : Ex → St → Option R) (a3 : List Int) (b4 : List Int) (i5 : Int) :
    ((ctxK tab (T_spec_SigSets_ctx N) T_spec_SigSets_ann N (nthLoop Try.f32 0) [1, 0, 0, 1, 0] (backK (T_spec_SigSets_ann 100002) (T_spec_SigSets_lp0_m N n) K)) .ret (T_spec_SigSets_lp1_e0 a3 b4 i5)) =
    (K .ret (T_spec_SigSets_lp0_e0 a3 b4)) := by kernel_rfl

theorem T_spec_SigSets_c2 (N : Nat) {R : Type} (n : Nat) (K : Ex → St → Option R) (a3 : List Int) (b4 : List Int) (i5 : Int) (k16 : Int) (t17 : Bool) :
    ((ctxK tab (T_spec_SigSets_ctx N) T_spec_SigSets_ann N (nthLoop Try.f32 0) [1, 0, 0, 1, 0] (backK (T_spec_SigSets_ann 100002) (T_spec_SigSets_lp0_m N n) K)) (.exit 2) (T_spec_SigSets_lp1_e1 a3 b4 i5 k16 t17)) =
    (T_spec_SigSets_lp0_m N n (T_spec_SigSets_lp0_sh a3 b4 (iadd .i64 i5 (1 : Int))) K) := by kernel_rfl

theorem T_spec_SigSets_lp0_step (N : Nat) {R : Type} (n : Nat) (K : Ex → St → Option R) (a3 : List Int) (b4 : List Int) (i5 : Int) :
    T_spec_SigSets_lp0_m N (n + 1) (T_spec_SigSets_lp0_sh a3 b4 i5) K =
    (bif decide (i5 < (ilen a3)) then
    (T_spec_SigSets_lp1 N a3 b4 i5
      (K .ret (T_spec_SigSets_lp0_e0 a3 b4))
      (fun k16 t17 =>
        (T_spec_SigSets_lp0_m N n (T_spec_SigSets_lp0_sh a3 b4 (iadd .i64 i5 (1 : Int))) K))
       N (0 : Int))
    else
    (K (.exit 0) (T_spec_SigSets_lp0_e1 a3 b4 i5 (decide (i5 < (ilen a3)))))) := by
  have h : T_spec_SigSets_lp0_m N (n + 1) (T_spec_SigSets_lp0_sh a3 b4 i5) K =
    (bif decide (i5 < (ilen a3)) then
    (T_spec_SigSets_lp1_m N N (T_spec_SigSets_lp1_sh a3 b4 i5 (0 : Int)) (ctxK tab (T_spec_SigSets_ctx N) T_spec_SigSets_ann N (nthLoop Try.f32 0) [1, 0, 0, 1, 0] (backK (T_spec_SigSets_ann 100002) (T_spec_SigSets_lp0_m N n) K)))
    else
    (K (.exit 0) (T_spec_SigSets_lp0_e1 a3 b4 i5 (decide (i5 < (ilen a3)))))) := by kernel_rfl
  rw [h]
  (try simp only [T_spec_SigSets_lp1_eq, T_spec_SigSets_c1, T_spec_SigSets_c2]) <;> rfl

theorem T_spec_SigSets_lp0_eq (N : Nat) {R : Type} (a3 : List Int) (b4 : List Int) (K : Ex → St → Option R) : ∀ (n : Nat) (i5 : Int), T_spec_SigSets_lp0_m N n (T_spec_SigSets_lp0_sh a3 b4 i5) K = T_spec_SigSets_lp0 N a3 b4 (K .ret (T_spec_SigSets_lp0_e0 a3 b4)) (fun i14 t15 => (K (.exit 0) (T_spec_SigSets_lp0_e1 a3 b4 i14 t15))) n i5
  | 0, _ => rfl
  | n + 1, i5 => by rw [T_spec_SigSets_lp0_step, T_spec_SigSets_lp0]; (try simp only [T_spec_SigSets_lp0_eq N a3 b4 K n])

theorem T_spec_SigSets_c3 (N : Nat) (a1 : List Int) (b2 : List Int) :
    ((ctxK (R := ODen (T_spec_SigSets_sg N).ps × RDen (T_spec_SigSets_sg N).rs) tab (T_spec_SigSets_ctx N) T_spec_SigSets_ann N (theCode Try.f32) [1, 0, 1, 0] (retK tab (T_spec_SigSets_sg N) Try.f32.results.toList some)) .ret (T_spec_SigSets_lp0_e0 a1 b2)) =
    (some (α := ODen (T_spec_SigSets_sg N).ps × RDen (T_spec_SigSets_sg N).rs) ((), (true, ()))) := by kernel_rfl

theorem T_spec_SigSets_c4 (N : Nat) (a1 : List Int) (b2 : List Int) (i18 : Int) (t19 : Bool) :
    ((ctxK (R := ODen (T_spec_SigSets_sg N).ps × RDen (T_spec_SigSets_sg N).rs) tab (T_spec_SigSets_ctx N) T_spec_SigSets_ann N (theCode Try.f32) [1, 0, 1, 0] (retK tab (T_spec_SigSets_sg N) Try.f32.results.toList some)) (.exit 0) (T_spec_SigSets_lp0_e1 a1 b2 i18 t19)) =
    (some (α := ODen (T_spec_SigSets_sg N).ps × RDen (T_spec_SigSets_sg N).rs) ((), (false, ()))) := by kernel_rfl

theorem T_spec_SigSets_den (N : Nat) (a1 : List Int) (b2 : List Int) :
    den (R := ODen (T_spec_SigSets_sg N).ps × RDen (T_spec_SigSets_sg N).rs) tab (T_spec_SigSets_ctx N) T_spec_SigSets_ann N (T_spec_SigSets_sg N) Try.f32 (a1, b2, ()) some =
    (T_spec_SigSets_lp0 N a1 b2
    (some (α := ODen (T_spec_SigSets_sg N).ps × RDen (T_spec_SigSets_sg N).rs) ((), (true, ())))
    (fun i18 t19 =>
      (some (α := ODen (T_spec_SigSets_sg N).ps × RDen (T_spec_SigSets_sg N).rs) ((), (false, ()))))
     N (0 : Int)) := by
  have h : den (R := ODen (T_spec_SigSets_sg N).ps × RDen (T_spec_SigSets_sg N).rs) tab (T_spec_SigSets_ctx N) T_spec_SigSets_ann N (T_spec_SigSets_sg N) Try.f32 (a1, b2, ()) some =
    (T_spec_SigSets_lp0_m N N (T_spec_SigSets_lp0_sh a1 b2 (0 : Int)) (ctxK (R := ODen (T_spec_SigSets_sg N).ps × RDen (T_spec_SigSets_sg N).rs) tab (T_spec_SigSets_ctx N) T_spec_SigSets_ann N (theCode Try.f32) [1, 0, 1, 0] (retK tab (T_spec_SigSets_sg N) Try.f32.results.toList some))) := by kernel_rfl
  rw [h]
  (try simp only [T_spec_SigSets_lp0_eq, T_spec_SigSets_c3, T_spec_SigSets_c4]) <;> rfl

theorem T_spec_SigSets_ok (N : Nat) : chkBody Try.f32 (T_spec_SigSets_sg N).ps = true := by kernel_rfl

theorem T_spec_SigSets_callable : Callable Try.prog 32 := callable_of Try.func32 (show chkFn Try.f32 = true by kernel_rfl)

theorem T_spec_SigSets_good (N : Nat) : Good Try.prog 32 (T_spec_SigSets_sg N) :=
  good_body mixedOk tabOk ctx_nil Try.func32 (T_spec_SigSets_ok N) (fun d _ h => ⟨N, (T_spec_SigSets_den N d.1 d.2.1).trans h⟩)

noncomputable def T_impl_SigMay_sg (N : Nat) : Sig := Sig.of [.v (.int .i64) false, .v (.int .i64) false] [.v (.bool) false] (fun d => T_impl_SigMay N d.1 d.2.1)

def T_impl_SigMay_ann : Nat → List Ghost
  | _ => []

noncomputable def T_impl_SigMay_ctx (N : Nat) : Ctx := [(49, T_impl_bits_sg N)]

theorem T_impl_SigMay_den (N : Nat) (a1 : Int) (b2 : Int) :
    den (R := ODen (T_impl_SigMay_sg N).ps × RDen (T_impl_SigMay_sg N).rs) tab (T_impl_SigMay_ctx N) T_impl_SigMay_ann N (T_impl_SigMay_sg N) Try.f33 (a1, b2, ()) some =
    ((T_impl_bits N a1).bind fun o3 =>
    ((T_impl_bits N b2).bind fun o4 =>
      (bif (iand .i64 (iand .i64 o3.2.1 o4.2.1) (536870911 : Int)) != (0 : Int) then
        (some (α := ODen (T_impl_SigMay_sg N).ps × RDen (T_impl_SigMay_sg N).rs) ((), ((iandn .i64 (iand .i64 o3.2.1 o4.2.1) (536870911 : Int)) != (0 : Int), ())))
        else
        (some (α := ODen (T_impl_SigMay_sg N).ps × RDen (T_impl_SigMay_sg N).rs) ((), (false, ())))))) := by kernel_rfl

theorem T_impl_SigMay_ok (N : Nat) : chkBody Try.f33 (T_impl_SigMay_sg N).ps = true := by kernel_rfl

theorem T_impl_SigMay_callable : Callable Try.prog 33 := callable_of Try.func33 (show chkFn Try.f33 = true by kernel_rfl)

theorem T_impl_SigMay_good (N : Nat) : Good Try.prog 33 (T_impl_SigMay_sg N) :=
  good_body mixedOk tabOk (ctx_cons (T_impl_bits_good N) T_impl_bits_callable ctx_nil) Try.func33 (T_impl_SigMay_ok N) (fun d _ h => ⟨N, (T_impl_SigMay_den N d.1 d.2.1).trans h⟩)

noncomputable def T_impl_SigCount_sg (N : Nat) : Sig := Sig.of [.v (.int .i64) false] [.v (.int .i64) false] (fun d => T_impl_SigCount N d.1)

def T_impl_SigCount_ann : Nat → List Ghost
  | 3 => [.canon [3, 4, 8]]
  | 4 => [.canon [3, 4]]
  | 5 => [.canon [3, 4]]
  | 100003 => [.canon [3, 4]]
  | _ => []

noncomputable def T_impl_SigCount_ctx (N : Nat) : Ctx := [(49, T_impl_bits_sg N)]

def T_impl_SigCount_lp0_sh (n3 : Int) (x4 : Int) : St := { env := [(3, .s (.one (.val (.int .i64) (n3 : Int)))), (4, .s (.one (.val (.int .i64) (x4 : Int))))], objs := [], nx := 0 }

def T_impl_SigCount_lp0_e0 (n5 : Int) (x6 : Int) (t7 : Bool) : St := { env := [(3, .s (.one (.val (.int .i64) (n5 : Int)))), (4, .s (.one (.val (.int .i64) (x6 : Int)))), (8, .s (.one (.val (.bool) (t7 : Bool))))], objs := [], nx := 0 }

noncomputable def T_impl_SigCount_lp0_m (N : Nat) {R : Type} (n : Nat) (st : St) (K : Ex → St → Option R) : Option R := loopN (roundG (T_impl_SigCount_ann 100003) fun st k => sx tab (T_impl_SigCount_ctx N) T_impl_SigCount_ann N (nthLoop Try.f34 0) st k) n st K

theorem T_impl_SigCount_lp0_step (N : Nat) {R : Type} (n : Nat) (K : Ex → St → Option R) (n3 : Int) (x4 : Int) :
    T_impl_SigCount_lp0_m N (n + 1) (T_impl_SigCount_lp0_sh n3 x4) K =
    (bif decide (x4 > (0 : Int)) then
    (T_impl_SigCount_lp0_m N n (T_impl_SigCount_lp0_sh (iadd .i64 n3 (1 : Int)) (iand .i64 x4 (isub .i64 x4 (1 : Int)))) K)
    else
    (K (.exit 0) (T_impl_SigCount_lp0_e0 n3 x4 (decide (x4 > (0 : Int)))))) := by kernel_rfl

theorem T_impl_SigCount_lp0_eq (N : Nat) {R : Type} (K : Ex → St → Option R) : ∀ (n : Nat) (n3 : Int) (x4 : Int), T_impl_SigCount_lp0_m N n (T_impl_SigCount_lp0_sh n3 x4) K = T_impl_SigCount_lp0 N (fun n5 x6 t7 => (K (.exit 0) (T_impl_SigCount_lp0_e0 n5 x6 t7))) n n3 x4
  | 0, _, _ => rfl
  | n + 1, n3, x4 => by rw [T_impl_SigCount_lp0_step, T_impl_SigCount_lp0]; (try simp only [T_impl_SigCount_lp0_eq N K n])

theorem T_impl_SigCount_c1 (N : Nat) (n8 : Int) (x9 : Int) (t10 : Bool) :
    ((ctxK (R := ODen (T_impl_SigCount_sg N).ps × RDen (T_impl_SigCount_sg N).rs) tab (T_impl_SigCount_ctx N) T_impl_SigCount_ann N (theCode Try.f34) [1, 1, 0, 1, 0] (retK tab (T_impl_SigCount_sg N) Try.f34.results.toList some)) (.exit 0) (T_impl_SigCount_lp0_e0 n8 x9 t10)) =
    (some (α := ODen (T_impl_SigCount_sg N).ps × RDen (T_impl_SigCount_sg N).rs) ((), (n8, ()))) := by kernel_rfl

theorem T_impl_SigCount_den (N : Nat) (sig1 : Int) :
    den (R := ODen (T_impl_SigCount_sg N).ps × RDen (T_impl_SigCount_sg N).rs) tab (T_impl_SigCount_ctx N) T_impl_SigCount_ann N (T_impl_SigCount_sg N) Try.f34 (sig1, ()) some =
    ((T_impl_bits N sig1).bind fun o2 =>
    (T_impl_SigCount_lp0 N
      (fun n8 x9 t10 =>
        (some (α := ODen (T_impl_SigCount_sg N).ps × RDen (T_impl_SigCount_sg N).rs) ((), (n8, ()))))
       N (0 : Int) o2.2.1)) := by
  have h : den (R := ODen (T_impl_SigCount_sg N).ps × RDen (T_impl_SigCount_sg N).rs) tab (T_impl_SigCount_ctx N) T_impl_SigCount_ann N (T_impl_SigCount_sg N) Try.f34 (sig1, ()) some =
    ((T_impl_bits N sig1).bind fun o2 =>
    (T_impl_SigCount_lp0_m N N (T_impl_SigCount_lp0_sh (0 : Int) o2.2.1) (ctxK (R := ODen (T_impl_SigCount_sg N).ps × RDen (T_impl_SigCount_sg N).rs) tab (T_impl_SigCount_ctx N) T_impl_SigCount_ann N (theCode Try.f34) [1, 1, 0, 1, 0] (retK tab (T_impl_SigCount_sg N) Try.f34.results.toList some)))) := by kernel_rfl
  rw [h]
  (try simp only [T_impl_SigCount_lp0_eq, T_impl_SigCount_c1]) <;> rfl

theorem T_impl_SigCount_ok (N : Nat) : chkBody Try.f34 (T_impl_SigCount_sg N).ps = true := by kernel_rfl

theorem T_impl_SigCount_callable : Callable Try.prog 34 := callable_of Try.func34 (show chkFn Try.f34 = true by kernel_rfl)

theorem T_impl_SigCount_good (N : Nat) : Good Try.prog 34 (T_impl_SigCount_sg N) :=
  good_body mixedOk tabOk (ctx_cons (T_impl_bits_good N) T_impl_bits_callable ctx_nil) Try.func34 (T_impl_SigCount_ok N) (fun d _ h => ⟨N, (T_impl_SigCount_den N d.1).trans h⟩)

noncomputable def T_laws_FnSigs_sg (N : Nat) : Sig := Sig.of [.v (.slice (.int .u8)) false] [.v (.bool) false] (fun d => T_laws_FnSigs N d.1)

def T_laws_FnSigs_ann : Nat → List Ghost
  | 7 => [.canon [3, 4, 5, 6, 7, 22]]
  | 8 => [.canon [3, 4, 5, 6, 7]]
  | 9 => [.canon [3, 4, 5, 6, 7, 45]]
  | 10 => [.canon [2]]
  | 100007 => [.canon [3, 4, 5, 6, 7]]
  | _ => []

noncomputable def T_laws_FnSigs_ctx (N : Nat) : Ctx := [(28, T_laws_big_sg N), (29, T_spec_DrawSigSets_sg N), (11, T_impl_SigOf_sg N), (30, T_impl_SigHas_sg N), (31, T_impl_SigSets_sg N), (32, T_spec_SigSets_sg N), (33, T_impl_SigMay_sg N), (34, T_impl_SigCount_sg N)]

def T_laws_FnSigs_lp0_sh (s6 : Int) (t7 : Int) (i8 : Int) (l9 : List Int) (l10 : List Int) : St := { env := [(3, .s (.one (.own 0))), (4, .s (.one (.own 1))), (5, .s (.one (.val (.int .i64) (s6 : Int)))), (6, .s (.one (.val (.int .i64) (t7 : Int)))), (7, .s (.one (.val (.int .i64) (i8 : Int))))], objs := [(0, .arr (.int .i64) (l9 : List Int)), (1, .arr (.int .i64) (l10 : List Int))], nx := 2 }

def T_laws_FnSigs_lp0_e0 (s6 : Int) (t7 : Int) (l9 : List Int) (l10 : List Int) : St := { env := [(2, .s (.one (.val (.bool) (false : Bool))))], objs := [], nx := 0 }

def T_laws_FnSigs_lp0_e1 (s6 : Int) (t7 : Int) (l9 : List Int) (l10 : List Int) (i14 : Int) (t15 : Bool) : St := { env := [(3, .s (.one (.own 0))), (4, .s (.one (.own 1))), (5, .s (.one (.val (.int .i64) (s6 : Int)))), (6, .s (.one (.val (.int .i64) (t7 : Int)))), (7, .s (.one (.val (.int .i64) (i14 : Int)))), (22, .s (.one (.val (.bool) (t15 : Bool))))], objs := [(0, .arr (.int .i64) (l9 : List Int)), (1, .arr (.int .i64) (l10 : List Int))], nx := 2 }

noncomputable def T_laws_FnSigs_lp0_m (N : Nat) {R : Type} (n : Nat) (st : St) (K : Ex → St → Option R) : Option R := loopN (roundG (T_laws_FnSigs_ann 100007) fun st k => sx tab (T_laws_FnSigs_ctx N) T_laws_FnSigs_ann N (nthLoop Try.f8 0) st k) n st K

theorem T_laws_FnSigs_lp0_step (N : Nat) {R : Type} (n : Nat) (K : Ex → St → Option R) (s6 : Int) (t7 : Int) (i8 : Int) (l9 : List Int) (l10 : List Int) :
    T_laws_FnSigs_lp0_m N (n + 1) (T_laws_FnSigs_lp0_sh s6 t7 i8 l9 l10) K =
    (bif decide (i8 < (ilen l9)) then
    (bif inb i8 (List.length l9) then
      ((T_impl_SigHas N s6 (List.getD l9 (Int.toNat i8) (0 : Int))).bind fun o16 =>
        (bif !o16.2.1 then
          (K .ret (T_laws_FnSigs_lp0_e0 s6 t7 l9 l10))
          else
          (bif room ((List.length ([] : List Int)) + (List.length l10)) then
            (bif room ((List.length (List.append ([] : List Int) l10)) + (List.length l9)) then
              ((T_impl_SigOf N (List.append (List.append ([] : List Int) l10) l9)).bind fun o17 =>
                (bif inb i8 (List.length l9) then
                  ((T_impl_SigHas N o17.2.1 (List.getD l9 (Int.toNat i8) (0 : Int))).bind fun o18 =>
                    (bif !o18.2.1 then
                      (K .ret (T_laws_FnSigs_lp0_e0 s6 t7 l9 l10))
                      else
                      (T_laws_FnSigs_lp0_m N n (T_laws_FnSigs_lp0_sh s6 t7 (iadd .i64 i8 (1 : Int)) l9 l10) K))) else none)) else none) else none))) else none)
    else
    (K (.exit 0) (T_laws_FnSigs_lp0_e1 s6 t7 l9 l10 i8 (decide (i8 < (ilen l9)))))) := by kernel_rfl

theorem T_laws_FnSigs_lp0_eq (N : Nat) {R : Type} (s6 : Int) (t7 : Int) (l9 : List Int) (l10 : List Int) (K : Ex → St → Option R) : ∀ (n : Nat) (i8 : Int), T_laws_FnSigs_lp0_m N n (T_laws_FnSigs_lp0_sh s6 t7 i8 l9 l10) K = T_laws_FnSigs_lp0 N s6 t7 l9 l10 (K .ret (T_laws_FnSigs_lp0_e0 s6 t7 l9 l10)) (fun i14 t15 => (K (.exit 0) (T_laws_FnSigs_lp0_e1 s6 t7 l9 l10 i14 t15))) n i8
  | 0, _ => rfl
  | n + 1, i8 => by rw [T_laws_FnSigs_lp0_step, T_laws_FnSigs_lp0]; (try simp only [T_laws_FnSigs_lp0_eq N s6 t7 l9 l10 K n])

theorem T_laws_FnSigs_c1 (N : Nat) (o4 : Unit × Int × Unit) (o5 : Unit × Int × Unit) (o3 : Unit × List Int × List Int × Unit) :
    ((ctxK (R := ODen (T_laws_FnSigs_sg N).ps × RDen (T_laws_FnSigs_sg N).rs) tab (T_laws_FnSigs_ctx N) T_laws_FnSigs_ann N (theCode Try.f8) [1, 1, 1, 1, 1, 0, 1, 0] (retK tab (T_laws_FnSigs_sg N) Try.f8.results.toList some)) .ret (T_laws_FnSigs_lp0_e0 o4.2.1 o5.2.1 o3.2.1 o3.2.2.1)) =
    (some (α := ODen (T_laws_FnSigs_sg N).ps × RDen (T_laws_FnSigs_sg N).rs) ((), (false, ()))) := by kernel_rfl

theorem T_laws_FnSigs_c2 (N : Nat) (o4 : Unit × Int × Unit) (o5 : Unit × Int × Unit) (o3 : Unit × List Int × List Int × Unit) (i19 : Int) (t20 : Bool) :
    ((ctxK (R := ODen (T_laws_FnSigs_sg N).ps × RDen (T_laws_FnSigs_sg N).rs) tab (T_laws_FnSigs_ctx N) T_laws_FnSigs_ann N (theCode Try.f8) [1, 1, 1, 1, 1, 0, 1, 0] (retK tab (T_laws_FnSigs_sg N) Try.f8.results.toList some)) (.exit 0) (T_laws_FnSigs_lp0_e1 o4.2.1 o5.2.1 o3.2.1 o3.2.2.1 i19 t20)) =
    ((T_impl_SigSets N o3.2.1 o3.2.2.1).bind fun o21 =>
    ((T_spec_SigSets N o3.2.1 o3.2.2.1).bind fun o22 =>
      (bif !(beq o21.2.1 o22.2.1) then
        (some (α := ODen (T_laws_FnSigs_sg N).ps × RDen (T_laws_FnSigs_sg N).rs) ((), (false, ())))
        else
        ((T_impl_SigSets N o3.2.1 o3.2.2.1).bind fun o23 =>
          (bif o23.2.1 then
            ((T_impl_SigMay N o4.2.1 o5.2.1).bind fun o24 =>
              (bif !o24.2.1 then
                (some (α := ODen (T_laws_FnSigs_sg N).ps × RDen (T_laws_FnSigs_sg N).rs) ((), (false, ())))
                else
                ((T_impl_SigMay N o4.2.1 o5.2.1).bind fun o25 =>
                  ((T_impl_SigMay N o5.2.1 o4.2.1).bind fun o26 =>
                    (bif beq o25.2.1 o26.2.1 then
                      ((T_impl_SigCount N o4.2.1).bind fun o27 =>
                        (bif decide (o27.2.1 ≤ (imul .i64 (2 : Int) (ilen o3.2.1))) then
                          ((T_impl_SigCount N o4.2.1).bind fun o28 =>
                            (some (α := ODen (T_laws_FnSigs_sg N).ps × RDen (T_laws_FnSigs_sg N).rs) ((), (beq ((ilen o3.2.1) == (0 : Int)) (o28.2.1 == (0 : Int)), ()))))
                          else
                          (some (α := ODen (T_laws_FnSigs_sg N).ps × RDen (T_laws_FnSigs_sg N).rs) ((), (false, ())))))
                      else
                      (some (α := ODen (T_laws_FnSigs_sg N).ps × RDen (T_laws_FnSigs_sg N).rs) ((), (false, ()))))))))
            else
            ((T_impl_SigMay N o4.2.1 o5.2.1).bind fun o29 =>
              ((T_impl_SigMay N o5.2.1 o4.2.1).bind fun o30 =>
                (bif beq o29.2.1 o30.2.1 then
                  ((T_impl_SigCount N o4.2.1).bind fun o31 =>
                    (bif decide (o31.2.1 ≤ (imul .i64 (2 : Int) (ilen o3.2.1))) then
                      ((T_impl_SigCount N o4.2.1).bind fun o32 =>
                        (some (α := ODen (T_laws_FnSigs_sg N).ps × RDen (T_laws_FnSigs_sg N).rs) ((), (beq ((ilen o3.2.1) == (0 : Int)) (o32.2.1 == (0 : Int)), ()))))
                      else
                      (some (α := ODen (T_laws_FnSigs_sg N).ps × RDen (T_laws_FnSigs_sg N).rs) ((), (false, ())))))
                  else
                  (some (α := ODen (T_laws_FnSigs_sg N).ps × RDen (T_laws_FnSigs_sg N).rs) ((), (false, ()))))))))))) := by kernel_rfl

theorem T_laws_FnSigs_den (N : Nat) (code1 : List Int) :
    den (R := ODen (T_laws_FnSigs_sg N).ps × RDen (T_laws_FnSigs_sg N).rs) tab (T_laws_FnSigs_ctx N) T_laws_FnSigs_ann N (T_laws_FnSigs_sg N) Try.f8 (code1, ()) some =
    ((T_laws_big N code1).bind fun o2 =>
    (bif o2.2.1 then
      (some (α := ODen (T_laws_FnSigs_sg N).ps × RDen (T_laws_FnSigs_sg N).rs) ((), (true, ())))
      else
      ((T_spec_DrawSigSets N code1).bind fun o3 =>
        ((T_impl_SigOf N o3.2.1).bind fun o4 =>
          ((T_impl_SigOf N o3.2.2.1).bind fun o5 =>
            (T_laws_FnSigs_lp0 N o4.2.1 o5.2.1 o3.2.1 o3.2.2.1
              (some (α := ODen (T_laws_FnSigs_sg N).ps × RDen (T_laws_FnSigs_sg N).rs) ((), (false, ())))
              (fun i19 t20 =>
                ((T_impl_SigSets N o3.2.1 o3.2.2.1).bind fun o21 =>
                  ((T_spec_SigSets N o3.2.1 o3.2.2.1).bind fun o22 =>
                    (bif !(beq o21.2.1 o22.2.1) then
                      (some (α := ODen (T_laws_FnSigs_sg N).ps × RDen (T_laws_FnSigs_sg N).rs) ((), (false, ())))
                      else
                      ((T_impl_SigSets N o3.2.1 o3.2.2.1).bind fun o23 =>
                        (bif o23.2.1 then
                          ((T_impl_SigMay N o4.2.1 o5.2.1).bind fun o24 =>
                            (bif !o24.2.1 then
                              (some (α := ODen (T_laws_FnSigs_sg N).ps × RDen (T_laws_FnSigs_sg N).rs) ((), (false, ())))
                              else
                              ((T_impl_SigMay N o4.2.1 o5.2.1).bind fun o25 =>
                                ((T_impl_SigMay N o5.2.1 o4.2.1).bind fun o26 =>
                                  (bif beq o25.2.1 o26.2.1 then
                                    ((T_impl_SigCount N o4.2.1).bind fun o27 =>
                                      (bif decide (o27.2.1 ≤ (imul .i64 (2 : Int) (ilen o3.2.1))) then
                                        ((T_impl_SigCount N o4.2.1).bind fun o28 =>
                                          (some (α := ODen (T_laws_FnSigs_sg N).ps × RDen (T_laws_FnSigs_sg N).rs) ((), (beq ((ilen o3.2.1) == (0 : Int)) (o28.2.1 == (0 : Int)), ()))))
                                        else
                                        (some (α := ODen (T_laws_FnSigs_sg N).ps × RDen (T_laws_FnSigs_sg N).rs) ((), (false, ())))))
                                    else
                                    (some (α := ODen (T_laws_FnSigs_sg N).ps × RDen (T_laws_FnSigs_sg N).rs) ((), (false, ()))))))))
                          else
                          ((T_impl_SigMay N o4.2.1 o5.2.1).bind fun o29 =>
                            ((T_impl_SigMay N o5.2.1 o4.2.1).bind fun o30 =>
                              (bif beq o29.2.1 o30.2.1 then
                                ((T_impl_SigCount N o4.2.1).bind fun o31 =>
                                  (bif decide (o31.2.1 ≤ (imul .i64 (2 : Int) (ilen o3.2.1))) then
                                    ((T_impl_SigCount N o4.2.1).bind fun o32 =>
                                      (some (α := ODen (T_laws_FnSigs_sg N).ps × RDen (T_laws_FnSigs_sg N).rs) ((), (beq ((ilen o3.2.1) == (0 : Int)) (o32.2.1 == (0 : Int)), ()))))
                                    else
                                    (some (α := ODen (T_laws_FnSigs_sg N).ps × RDen (T_laws_FnSigs_sg N).rs) ((), (false, ())))))
                                else
                                (some (α := ODen (T_laws_FnSigs_sg N).ps × RDen (T_laws_FnSigs_sg N).rs) ((), (false, ()))))))))))))
               N (0 : Int))))))) := by
  have h : den (R := ODen (T_laws_FnSigs_sg N).ps × RDen (T_laws_FnSigs_sg N).rs) tab (T_laws_FnSigs_ctx N) T_laws_FnSigs_ann N (T_laws_FnSigs_sg N) Try.f8 (code1, ()) some =
    ((T_laws_big N code1).bind fun o2 =>
    (bif o2.2.1 then
      (some (α := ODen (T_laws_FnSigs_sg N).ps × RDen (T_laws_FnSigs_sg N).rs) ((), (true, ())))
      else
      ((T_spec_DrawSigSets N code1).bind fun o3 =>
        ((T_impl_SigOf N o3.2.1).bind fun o4 =>
          ((T_impl_SigOf N o3.2.2.1).bind fun o5 =>
            (T_laws_FnSigs_lp0_m N N (T_laws_FnSigs_lp0_sh o4.2.1 o5.2.1 (0 : Int) o3.2.1 o3.2.2.1) (ctxK (R := ODen (T_laws_FnSigs_sg N).ps × RDen (T_laws_FnSigs_sg N).rs) tab (T_laws_FnSigs_ctx N) T_laws_FnSigs_ann N (theCode Try.f8) [1, 1, 1, 1, 1, 0, 1, 0] (retK tab (T_laws_FnSigs_sg N) Try.f8.results.toList some)))))))) := by kernel_rfl
  rw [h]
  (try simp only [T_laws_FnSigs_lp0_eq, T_laws_FnSigs_c1, T_laws_FnSigs_c2]) <;> rfl

theorem T_laws_FnSigs_ok (N : Nat) : chkBody Try.f8 (T_laws_FnSigs_sg N).ps = true := by kernel_rfl

theorem T_laws_FnSigs_callable : Callable Try.prog 8 := callable_of Try.func8 (show chkFn Try.f8 = true by kernel_rfl)

theorem T_laws_FnSigs_good (N : Nat) : Good Try.prog 8 (T_laws_FnSigs_sg N) :=
  good_body mixedOk tabOk (ctx_cons (T_laws_big_good N) T_laws_big_callable (ctx_cons (T_spec_DrawSigSets_good N) T_spec_DrawSigSets_callable (ctx_cons (T_impl_SigOf_good N) T_impl_SigOf_callable (ctx_cons (T_impl_SigHas_good N) T_impl_SigHas_callable (ctx_cons (T_impl_SigSets_good N) T_impl_SigSets_callable (ctx_cons (T_spec_SigSets_good N) T_spec_SigSets_callable (ctx_cons (T_impl_SigMay_good N) T_impl_SigMay_callable (ctx_cons (T_impl_SigCount_good N) T_impl_SigCount_callable ctx_nil)))))))) Try.func8 (T_laws_FnSigs_ok N) (fun d _ h => ⟨N, (T_laws_FnSigs_den N d.1).trans h⟩)

end Go.Sx
