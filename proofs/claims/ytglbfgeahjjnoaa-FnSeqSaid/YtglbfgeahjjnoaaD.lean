/- Each Go function does what its Lean function says. -/
import Derived.Test.YtglbfgeahjjnoaaT
import Derived.Test.YtglbfgeahjjnoaaProg
namespace Go.Sx
open Go.Proofs
set_option linter.unusedVariables false
set_option linter.unusedSimpArgs false

def tab : Tab := [(3, ⟨.int .i64, false, .basic⟩), (4, ⟨.bool, false, .basic⟩), (5, ⟨.int .u8, false, .basic⟩), (22, ⟨.slice (.int .i64), false, .slice 3⟩), (37, ⟨.slice (.int .u8), false, .slice 5⟩), (40, ⟨.prod (.int .i64) (.prod (.int .i64) (.int .i64)), true, .struct [(0, 3), (1, 3), (2, 3)]⟩), (41, ⟨.slice (.prod (.int .i64) (.prod (.int .i64) (.int .i64))), false, .slice 40⟩), (44, ⟨.slice (.prod (.int .i64) (.prod (.int .i64) (.prod (.prod (.int .i64) (.prod (.int .i64) (.int .i64))) (.int .i64)))), false, .slice 132⟩), (45, ⟨.slice (.prod (.int .i64) (.prod (.int .i64) (.prod (.int .i64) (.prod (.int .i64) (.int .i64))))), false, .slice 99⟩), (47, ⟨.prod (.int .i64) (.prod (.prod (.int .i64) (.prod (.int .i64) (.int .i64))) (.prod (.int .i64) (.prod (.int .i64) (.prod (.slice (.prod (.int .i64) (.prod (.int .i64) (.prod (.prod (.int .i64) (.prod (.int .i64) (.int .i64))) (.int .i64))))) (.slice (.prod (.int .i64) (.prod (.int .i64) (.prod (.int .i64) (.prod (.int .i64) (.int .i64)))))))))), true, .struct [(0, 3), (1, 40), (4, 3), (5, 3), (6, 44), (7, 45)]⟩), (99, ⟨.prod (.int .i64) (.prod (.int .i64) (.prod (.int .i64) (.prod (.int .i64) (.int .i64)))), true, .struct [(0, 3), (1, 3), (2, 40)]⟩), (125, ⟨.prod (.slice (.int .u8)) (.prod (.int .i64) (.int .i64)), true, .struct [(0, 37), (1, 3), (2, 3)]⟩), (132, ⟨.prod (.int .i64) (.prod (.int .i64) (.prod (.prod (.int .i64) (.prod (.int .i64) (.int .i64))) (.int .i64))), true, .struct [(0, 3), (1, 3), (2, 40), (5, 3)]⟩)]

theorem mixedOk : Try.prog.follows .mixedOrders = true := by kernel_rfl

theorem tabOk : TabOk Try.prog tab := tab_ok (show chkTab Try.prog tab tab = true by kernel_rfl)

noncomputable def T_laws_big_sg (N : Nat) : Sig := Sig.of [.v (.slice (.int .u8)) false] [.v (.bool) false] (fun d => T_laws_big N d.1)

def T_laws_big_ann : Nat → List Ghost
  | _ => []

noncomputable def T_laws_big_ctx (N : Nat) : Ctx := []

theorem T_laws_big_den (N : Nat) (code1 : List Int) :
    den (R := ODen (T_laws_big_sg N).ps × RDen (T_laws_big_sg N).rs) tab (T_laws_big_ctx N) T_laws_big_ann N (T_laws_big_sg N) Try.f22 (code1, ()) some =
    (some (α := ODen (T_laws_big_sg N).ps × RDen (T_laws_big_sg N).rs) ((), (decide ((ilen code1) > (1048576 : Int)), ()))) := by kernel_rfl

theorem T_laws_big_ok (N : Nat) : chkBody Try.f22 (T_laws_big_sg N).ps = true := by kernel_rfl

theorem T_laws_big_callable : Callable Try.prog 22 := callable_of Try.func22 (show chkFn Try.f22 = true by kernel_rfl)

theorem T_laws_big_good (N : Nat) : Good Try.prog 22 (T_laws_big_sg N) :=
  good_body mixedOk tabOk ctx_nil Try.func22 (T_laws_big_ok N) (fun d _ h => ⟨N, (T_laws_big_den N d.1).trans h⟩)

noncomputable def T_spec_l1New_sg (N : Nat) : Sig := Sig.of [.v (.slice (.int .u8)) false] [.box (.prod (.slice (.int .u8)) (.prod (.int .i64) (.int .i64)))] (fun d => T_spec_l1New N d.1)

def T_spec_l1New_ann : Nat → List Ghost
  | 3 => [.canon [0, 3, 4, 15]]
  | 4 => [.canon [0, 3, 4]]
  | 5 => [.canon [0, 3, 4]]
  | 100003 => [.canon [0, 3, 4]]
  | _ => []

noncomputable def T_spec_l1New_ctx (N : Nat) : Ctx := []

def T_spec_l1New_lp0_sh (code2 : List Int) (h3 : Int) (i4 : Int) : St := { env := [(0, .s (.one (.val (.slice (.int .u8)) (code2 : List Int)))), (3, .s (.one (.val (.int .i64) (h3 : Int)))), (4, .s (.one (.val (.int .i64) (i4 : Int))))], objs := [], nx := 0 }

def T_spec_l1New_lp0_e0 (code2 : List Int) (h5 : Int) (i6 : Int) (t7 : Bool) : St := { env := [(0, .s (.one (.val (.slice (.int .u8)) (code2 : List Int)))), (3, .s (.one (.val (.int .i64) (h5 : Int)))), (4, .s (.one (.val (.int .i64) (i6 : Int)))), (15, .s (.one (.val (.bool) (t7 : Bool))))], objs := [], nx := 0 }

noncomputable def T_spec_l1New_lp0_m (N : Nat) {R : Type} (n : Nat) (st : St) (K : Ex → St → Option R) : Option R := loopN (roundG (T_spec_l1New_ann 100003) fun st k => sx tab (T_spec_l1New_ctx N) T_spec_l1New_ann N (nthLoop Try.f53 0) st k) n st K

theorem T_spec_l1New_lp0_step (N : Nat) {R : Type} (n : Nat) (K : Ex → St → Option R) (code2 : List Int) (h3 : Int) (i4 : Int) :
    T_spec_l1New_lp0_m N (n + 1) (T_spec_l1New_lp0_sh code2 h3 i4) K =
    (bif decide (i4 < (ilen code2)) then
    (bif decide (i4 < (4000 : Int)) then
      (bif inb i4 (List.length code2) then
        (T_spec_l1New_lp0_m N n (T_spec_l1New_lp0_sh code2 (iand .i64 (iadd .i64 (iadd .i64 (imul .i64 h3 (131 : Int)) (IntKind.wrap .i64 (List.getD code2 (Int.toNat i4) (0 : Int)))) (7 : Int)) (1073741823 : Int)) (iadd .i64 i4 (1 : Int))) K) else none)
      else
      (K (.exit 0) (T_spec_l1New_lp0_e0 code2 h3 i4 (decide (i4 < (4000 : Int))))))
    else
    (K (.exit 0) (T_spec_l1New_lp0_e0 code2 h3 i4 false))) := by kernel_rfl

theorem T_spec_l1New_lp0_eq (N : Nat) {R : Type} (code2 : List Int) (K : Ex → St → Option R) : ∀ (n : Nat) (h3 : Int) (i4 : Int), T_spec_l1New_lp0_m N n (T_spec_l1New_lp0_sh code2 h3 i4) K = T_spec_l1New_lp0 N code2 (fun h5 i6 t7 => (K (.exit 0) (T_spec_l1New_lp0_e0 code2 h5 i6 t7))) n h3 i4
  | 0, _, _ => rfl
  | n + 1, h3, i4 => by rw [T_spec_l1New_lp0_step, T_spec_l1New_lp0]; (try simp only [T_spec_l1New_lp0_eq N code2 K n])

theorem T_spec_l1New_c1 (N : Nat) (code1 : List Int) (h8 : Int) (i9 : Int) (t10 : Bool) :
    ((ctxK (R := ODen (T_spec_l1New_sg N).ps × RDen (T_spec_l1New_sg N).rs) tab (T_spec_l1New_ctx N) T_spec_l1New_ann N (theCode Try.f53) [1, 1, 0, 1, 0] (retK tab (T_spec_l1New_sg N) Try.f53.results.toList some)) (.exit 0) (T_spec_l1New_lp0_e0 code1 h8 i9 t10)) =
    (some (α := ODen (T_spec_l1New_sg N).ps × RDen (T_spec_l1New_sg N).rs) ((), ((code1, ((0 : Int), h8)), ()))) := by kernel_rfl

theorem T_spec_l1New_den (N : Nat) (code1 : List Int) :
    den (R := ODen (T_spec_l1New_sg N).ps × RDen (T_spec_l1New_sg N).rs) tab (T_spec_l1New_ctx N) T_spec_l1New_ann N (T_spec_l1New_sg N) Try.f53 (code1, ()) some =
    (T_spec_l1New_lp0 N code1
    (fun h8 i9 t10 =>
      (some (α := ODen (T_spec_l1New_sg N).ps × RDen (T_spec_l1New_sg N).rs) ((), ((code1, ((0 : Int), h8)), ()))))
     N (iadd .i64 (10101 : Int) (ilen code1)) (0 : Int)) := by
  have h : den (R := ODen (T_spec_l1New_sg N).ps × RDen (T_spec_l1New_sg N).rs) tab (T_spec_l1New_ctx N) T_spec_l1New_ann N (T_spec_l1New_sg N) Try.f53 (code1, ()) some =
    (T_spec_l1New_lp0_m N N (T_spec_l1New_lp0_sh code1 (iadd .i64 (10101 : Int) (ilen code1)) (0 : Int)) (ctxK (R := ODen (T_spec_l1New_sg N).ps × RDen (T_spec_l1New_sg N).rs) tab (T_spec_l1New_ctx N) T_spec_l1New_ann N (theCode Try.f53) [1, 1, 0, 1, 0] (retK tab (T_spec_l1New_sg N) Try.f53.results.toList some))) := by kernel_rfl
  rw [h]
  (try simp only [T_spec_l1New_lp0_eq, T_spec_l1New_c1]) <;> rfl

theorem T_spec_l1New_ok (N : Nat) : chkBody Try.f53 (T_spec_l1New_sg N).ps = true := by kernel_rfl

theorem T_spec_l1New_callable : Callable Try.prog 53 := callable_of Try.func53 (show chkFn Try.f53 = true by kernel_rfl)

theorem T_spec_l1New_good (N : Nat) : Good Try.prog 53 (T_spec_l1New_sg N) :=
  good_body mixedOk tabOk ctx_nil Try.func53 (T_spec_l1New_ok N) (fun d _ h => ⟨N, (T_spec_l1New_den N d.1).trans h⟩)

noncomputable def T_spec_l1Byte_sg (N : Nat) : Sig := Sig.of [.box (.prod (.slice (.int .u8)) (.prod (.int .i64) (.int .i64)))] [.v (.int .i64) false] (fun d => T_spec_l1Byte N d.1)

def T_spec_l1Byte_ann : Nat → List Ghost
  | _ => []

noncomputable def T_spec_l1Byte_ctx (N : Nat) : Ctx := []

theorem T_spec_l1Byte_den (N : Nat) (c1 : List Int × Int × Int) :
    den (R := ODen (T_spec_l1Byte_sg N).ps × RDen (T_spec_l1Byte_sg N).rs) tab (T_spec_l1Byte_ctx N) T_spec_l1Byte_ann N (T_spec_l1Byte_sg N) Try.f102 (c1, ()) some =
    (bif inn (33 : Int) then
    (bif inn (45 : Int) then
      (bif decide (c1.2.1 < (ilen c1.1)) then
        (bif inb c1.2.1 (List.length c1.1) then
          (some (α := ODen (T_spec_l1Byte_sg N).ps × RDen (T_spec_l1Byte_sg N).rs) (((c1.1, (iadd .i64 c1.2.1 (1 : Int), iadd .i64 (imul .i64 c1.2.2 (6364136223846793005 : Int)) (1442695040888963407 : Int))), ()), (iand .i64 (iadd .i64 (iand .i64 (ixor .i64 (ishr .i64 (iadd .i64 (imul .i64 c1.2.2 (6364136223846793005 : Int)) (1442695040888963407 : Int)) (33 : Int)) (ishr .i64 (iadd .i64 (imul .i64 c1.2.2 (6364136223846793005 : Int)) (1442695040888963407 : Int)) (45 : Int))) (255 : Int)) (IntKind.wrap .i64 (List.getD c1.1 (Int.toNat c1.2.1) (0 : Int)))) (255 : Int), ()))) else none)
        else
        (some (α := ODen (T_spec_l1Byte_sg N).ps × RDen (T_spec_l1Byte_sg N).rs) (((c1.1, (c1.2.1, iadd .i64 (imul .i64 c1.2.2 (6364136223846793005 : Int)) (1442695040888963407 : Int))), ()), (iand .i64 (ixor .i64 (ishr .i64 (iadd .i64 (imul .i64 c1.2.2 (6364136223846793005 : Int)) (1442695040888963407 : Int)) (33 : Int)) (ishr .i64 (iadd .i64 (imul .i64 c1.2.2 (6364136223846793005 : Int)) (1442695040888963407 : Int)) (45 : Int))) (255 : Int), ())))) else none) else none) := by kernel_rfl

theorem T_spec_l1Byte_ok (N : Nat) : chkBody Try.f102 (T_spec_l1Byte_sg N).ps = true := by kernel_rfl

theorem T_spec_l1Byte_callable : Callable Try.prog 102 := callable_of Try.func102 (show chkFn Try.f102 = true by kernel_rfl)

theorem T_spec_l1Byte_good (N : Nat) : Good Try.prog 102 (T_spec_l1Byte_sg N) :=
  good_body mixedOk tabOk ctx_nil Try.func102 (T_spec_l1Byte_ok N) (fun d _ h => ⟨N, (T_spec_l1Byte_den N d.1).trans h⟩)

noncomputable def T_spec_l1Below_sg (N : Nat) : Sig := Sig.of [.box (.prod (.slice (.int .u8)) (.prod (.int .i64) (.int .i64))), .v (.int .i64) false] [.v (.int .i64) false] (fun d => T_spec_l1Below N d.1 d.2.1)

def T_spec_l1Below_ann : Nat → List Ghost
  | _ => []

noncomputable def T_spec_l1Below_ctx (N : Nat) : Ctx := [(102, T_spec_l1Byte_sg N)]

theorem T_spec_l1Below_den (N : Nat) (c1 : List Int × Int × Int) (n2 : Int) :
    den (R := ODen (T_spec_l1Below_sg N).ps × RDen (T_spec_l1Below_sg N).rs) tab (T_spec_l1Below_ctx N) T_spec_l1Below_ann N (T_spec_l1Below_sg N) Try.f88 (c1, n2, ()) some =
    (bif decide (n2 ≤ (0 : Int)) then
    (some (α := ODen (T_spec_l1Below_sg N).ps × RDen (T_spec_l1Below_sg N).rs) ((c1, ()), ((0 : Int), ())))
    else
    (bif decide (n2 ≤ (256 : Int)) then
      ((T_spec_l1Byte N c1).bind fun o3 =>
        (bif inz n2 then
          (some (α := ODen (T_spec_l1Below_sg N).ps × RDen (T_spec_l1Below_sg N).rs) ((o3.1.1, ()), (irem o3.2.1 n2, ()))) else none))
      else
      ((T_spec_l1Byte N c1).bind fun o4 =>
        ((T_spec_l1Byte N o4.1.1).bind fun o5 =>
          ((T_spec_l1Byte N o5.1.1).bind fun o6 =>
            ((T_spec_l1Byte N o6.1.1).bind fun o7 =>
              (bif inz n2 then
                (some (α := ODen (T_spec_l1Below_sg N).ps × RDen (T_spec_l1Below_sg N).rs) ((o7.1.1, ()), (irem (iadd .i64 (iadd .i64 (iadd .i64 (imul .i64 o4.2.1 (16777216 : Int)) (imul .i64 o5.2.1 (65536 : Int))) (imul .i64 o6.2.1 (256 : Int))) o7.2.1) n2, ()))) else none))))))) := by kernel_rfl

theorem T_spec_l1Below_ok (N : Nat) : chkBody Try.f88 (T_spec_l1Below_sg N).ps = true := by kernel_rfl

theorem T_spec_l1Below_callable : Callable Try.prog 88 := callable_of Try.func88 (show chkFn Try.f88 = true by kernel_rfl)

theorem T_spec_l1Below_good (N : Nat) : Good Try.prog 88 (T_spec_l1Below_sg N) :=
  good_body mixedOk tabOk (ctx_cons (T_spec_l1Byte_good N) T_spec_l1Byte_callable ctx_nil) Try.func88 (T_spec_l1Below_ok N) (fun d _ h => ⟨N, (T_spec_l1Below_den N d.1 d.2.1).trans h⟩)

noncomputable def T_spec_l1Once_sg (N : Nat) : Sig := Sig.of [.box (.prod (.slice (.int .u8)) (.prod (.int .i64) (.int .i64))), .v (.int .i64) false] [.v (.bool) false] (fun d => T_spec_l1Once N d.1 d.2.1)

def T_spec_l1Once_ann : Nat → List Ghost
  | _ => []

noncomputable def T_spec_l1Once_ctx (N : Nat) : Ctx := [(88, T_spec_l1Below_sg N)]

theorem T_spec_l1Once_den (N : Nat) (c1 : List Int × Int × Int) (n2 : Int) :
    den (R := ODen (T_spec_l1Once_sg N).ps × RDen (T_spec_l1Once_sg N).rs) tab (T_spec_l1Once_ctx N) T_spec_l1Once_ann N (T_spec_l1Once_sg N) Try.f101 (c1, n2, ()) some =
    ((T_spec_l1Below N c1 n2).bind fun o3 =>
    (some (α := ODen (T_spec_l1Once_sg N).ps × RDen (T_spec_l1Once_sg N).rs) ((o3.1.1, ()), (o3.2.1 == (0 : Int), ())))) := by kernel_rfl

theorem T_spec_l1Once_ok (N : Nat) : chkBody Try.f101 (T_spec_l1Once_sg N).ps = true := by kernel_rfl

theorem T_spec_l1Once_callable : Callable Try.prog 101 := callable_of Try.func101 (show chkFn Try.f101 = true by kernel_rfl)

theorem T_spec_l1Once_good (N : Nat) : Good Try.prog 101 (T_spec_l1Once_sg N) :=
  good_body mixedOk tabOk (ctx_cons (T_spec_l1Below_good N) T_spec_l1Below_callable ctx_nil) Try.func101 (T_spec_l1Once_ok N) (fun d _ h => ⟨N, (T_spec_l1Once_den N d.1 d.2.1).trans h⟩)

noncomputable def T_spec_l1PickInt_sg (N : Nat) : Sig := Sig.of [.box (.prod (.slice (.int .u8)) (.prod (.int .i64) (.int .i64))), .v (.slice (.int .i64)) false] [.v (.int .i64) false] (fun d => T_spec_l1PickInt N d.1 d.2.1)

def T_spec_l1PickInt_ann : Nat → List Ghost
  | _ => []

noncomputable def T_spec_l1PickInt_ctx (N : Nat) : Ctx := [(88, T_spec_l1Below_sg N)]

theorem T_spec_l1PickInt_den (N : Nat) (c1 : List Int × Int × Int) (list2 : List Int) :
    den (R := ODen (T_spec_l1PickInt_sg N).ps × RDen (T_spec_l1PickInt_sg N).rs) tab (T_spec_l1PickInt_ctx N) T_spec_l1PickInt_ann N (T_spec_l1PickInt_sg N) Try.f103 (c1, list2, ()) some =
    ((T_spec_l1Below N c1 (ilen list2)).bind fun o3 =>
    (bif inb o3.2.1 (List.length list2) then
      (some (α := ODen (T_spec_l1PickInt_sg N).ps × RDen (T_spec_l1PickInt_sg N).rs) ((o3.1.1, ()), (List.getD list2 (Int.toNat o3.2.1) (0 : Int), ()))) else none)) := by kernel_rfl

theorem T_spec_l1PickInt_ok (N : Nat) : chkBody Try.f103 (T_spec_l1PickInt_sg N).ps = true := by kernel_rfl

theorem T_spec_l1PickInt_callable : Callable Try.prog 103 := callable_of Try.func103 (show chkFn Try.f103 = true by kernel_rfl)

theorem T_spec_l1PickInt_good (N : Nat) : Good Try.prog 103 (T_spec_l1PickInt_sg N) :=
  good_body mixedOk tabOk (ctx_cons (T_spec_l1Below_good N) T_spec_l1Below_callable ctx_nil) Try.func103 (T_spec_l1PickInt_ok N) (fun d _ h => ⟨N, (T_spec_l1PickInt_den N d.1 d.2.1).trans h⟩)

noncomputable def T_spec_l3Draw_sg (N : Nat) : Sig := Sig.of [.box (.prod (.slice (.int .u8)) (.prod (.int .i64) (.int .i64)))] [.v (.int .i64) false] (fun d => T_spec_l3Draw N d.1)

def T_spec_l3Draw_ann : Nat → List Ghost
  | _ => []

noncomputable def T_spec_l3Draw_ctx (N : Nat) : Ctx := [(101, T_spec_l1Once_sg N), (103, T_spec_l1PickInt_sg N), (88, T_spec_l1Below_sg N)]

theorem T_spec_l3Draw_den (N : Nat) (c1 : List Int × Int × Int) :
    den (R := ODen (T_spec_l3Draw_sg N).ps × RDen (T_spec_l3Draw_sg N).rs) tab (T_spec_l3Draw_ctx N) T_spec_l3Draw_ann N (T_spec_l3Draw_sg N) Try.f100 (c1, ()) some =
    ((T_spec_l1Once N c1 (6 : Int)).bind fun o2 =>
    (bif o2.2.1 then
      ((T_spec_l1PickInt N o2.1.1 ([(0 : Int), (65535 : Int), (65534 : Int), (256 : Int)])).bind fun o3 =>
        (some (α := ODen (T_spec_l3Draw_sg N).ps × RDen (T_spec_l3Draw_sg N).rs) ((o3.1.1, ()), (o3.2.1, ()))))
      else
      ((T_spec_l1Below N o2.1.1 (9 : Int)).bind fun o4 =>
        (some (α := ODen (T_spec_l3Draw_sg N).ps × RDen (T_spec_l3Draw_sg N).rs) ((o4.1.1, ()), (o4.2.1, ())))))) := by kernel_rfl

theorem T_spec_l3Draw_ok (N : Nat) : chkBody Try.f100 (T_spec_l3Draw_sg N).ps = true := by kernel_rfl

theorem T_spec_l3Draw_callable : Callable Try.prog 100 := callable_of Try.func100 (show chkFn Try.f100 = true by kernel_rfl)

theorem T_spec_l3Draw_good (N : Nat) : Good Try.prog 100 (T_spec_l3Draw_sg N) :=
  good_body mixedOk tabOk (ctx_cons (T_spec_l1Once_good N) T_spec_l1Once_callable (ctx_cons (T_spec_l1PickInt_good N) T_spec_l1PickInt_callable (ctx_cons (T_spec_l1Below_good N) T_spec_l1Below_callable ctx_nil))) Try.func100 (T_spec_l3Draw_ok N) (fun d _ h => ⟨N, (T_spec_l3Draw_den N d.1).trans h⟩)

noncomputable def T_spec_l25Triple_sg (N : Nat) : Sig := Sig.of [.box (.prod (.slice (.int .u8)) (.prod (.int .i64) (.int .i64)))] [.v (.prod (.int .i64) (.prod (.int .i64) (.int .i64))) true] (fun d => T_spec_l25Triple N d.1)

def T_spec_l25Triple_ann : Nat → List Ghost
  | _ => []

noncomputable def T_spec_l25Triple_ctx (N : Nat) : Ctx := [(100, T_spec_l3Draw_sg N), (101, T_spec_l1Once_sg N)]

theorem T_spec_l25Triple_den (N : Nat) (c1 : List Int × Int × Int) :
    den (R := ODen (T_spec_l25Triple_sg N).ps × RDen (T_spec_l25Triple_sg N).rs) tab (T_spec_l25Triple_ctx N) T_spec_l25Triple_ann N (T_spec_l25Triple_sg N) Try.f87 (c1, ()) some =
    ((T_spec_l3Draw N c1).bind fun o2 =>
    ((T_spec_l1Once N o2.1.1 (2 : Int)).bind fun o3 =>
      (bif o3.2.1 then
        (some (α := ODen (T_spec_l25Triple_sg N).ps × RDen (T_spec_l25Triple_sg N).rs) ((o3.1.1, ()), ((o2.2.1, (o2.2.1, o2.2.1)), ())))
        else
        ((T_spec_l3Draw N o3.1.1).bind fun o4 =>
          ((T_spec_l3Draw N o4.1.1).bind fun o5 =>
            (some (α := ODen (T_spec_l25Triple_sg N).ps × RDen (T_spec_l25Triple_sg N).rs) ((o5.1.1, ()), ((o2.2.1, (o4.2.1, o5.2.1)), ())))))))) := by kernel_rfl

theorem T_spec_l25Triple_ok (N : Nat) : chkBody Try.f87 (T_spec_l25Triple_sg N).ps = true := by kernel_rfl

theorem T_spec_l25Triple_callable : Callable Try.prog 87 := callable_of Try.func87 (show chkFn Try.f87 = true by kernel_rfl)

theorem T_spec_l25Triple_good (N : Nat) : Good Try.prog 87 (T_spec_l25Triple_sg N) :=
  good_body mixedOk tabOk (ctx_cons (T_spec_l3Draw_good N) T_spec_l3Draw_callable (ctx_cons (T_spec_l1Once_good N) T_spec_l1Once_callable ctx_nil)) Try.func87 (T_spec_l25Triple_ok N) (fun d _ h => ⟨N, (T_spec_l25Triple_den N d.1).trans h⟩)

noncomputable def T_spec_l12Picks_sg (N : Nat) : Sig := Sig.of [.box (.prod (.slice (.int .u8)) (.prod (.int .i64) (.int .i64))), .v (.int .i64) false, .v (.int .i64) false] [.v (.own (.int .i64)) false] (fun d => T_spec_l12Picks N d.1 d.2.1 d.2.2.1)

def T_spec_l12Picks_ann : Nat → List Ghost
  | 4 => [.canon [0, 1, 2, 7, 8, 9, 13]]
  | 5 => [.canon [0, 1, 2, 7, 8, 9]]
  | 6 => [.canon [0, 1, 2, 7, 8, 9, 18]]
  | 7 => [.canon [0, 1, 2, 7, 8, 9]]
  | 8 => [.canon [0, 1, 2, 7, 8, 9]]
  | 100004 => [.canon [0, 1, 2, 7, 8, 9]]
  | _ => []

noncomputable def T_spec_l12Picks_ctx (N : Nat) : Ctx := [(101, T_spec_l1Once_sg N), (88, T_spec_l1Below_sg N)]

def T_spec_l12Picks_lp0_sh (n4 : Int) (most5 : Int) (last6 : Int) (i7 : Int) (b8 : List Int × Int × Int) (l9 : List Int) : St := { env := [(0, .s (.one (.ptr 0 0))), (1, .s (.one (.val (.int .i64) (n4 : Int)))), (2, .s (.one (.val (.int .i64) (most5 : Int)))), (7, .s (.one (.own 1))), (8, .s (.one (.val (.int .i64) (last6 : Int)))), (9, .s (.one (.val (.int .i64) (i7 : Int))))], objs := [(0, .box [.val (.slice (.int .u8)) (b8.1 : List Int), .val (.int .i64) (b8.2.1 : Int), .val (.int .i64) (b8.2.2 : Int)]), (1, .arr (.int .i64) (l9 : List Int))], nx := 2 }

def T_spec_l12Picks_lp0_e0 (n4 : Int) (most5 : Int) (last12 : Int) (i13 : Int) (t14 : Bool) (b15 : List Int × Int × Int) (l16 : List Int) : St := { env := [(0, .s (.one (.ptr 0 0))), (1, .s (.one (.val (.int .i64) (n4 : Int)))), (2, .s (.one (.val (.int .i64) (most5 : Int)))), (7, .s (.one (.own 1))), (8, .s (.one (.val (.int .i64) (last12 : Int)))), (9, .s (.one (.val (.int .i64) (i13 : Int)))), (13, .s (.one (.val (.bool) (t14 : Bool))))], objs := [(0, .box [.val (.slice (.int .u8)) (b15.1 : List Int), .val (.int .i64) (b15.2.1 : Int), .val (.int .i64) (b15.2.2 : Int)]), (1, .arr (.int .i64) (l16 : List Int))], nx := 2 }

noncomputable def T_spec_l12Picks_lp0_m (N : Nat) {R : Type} (n : Nat) (st : St) (K : Ex → St → Option R) : Option R := loopN (roundG (T_spec_l12Picks_ann 100004) fun st k => sx tab (T_spec_l12Picks_ctx N) T_spec_l12Picks_ann N (nthLoop Try.f89 0) st k) n st K

theorem T_spec_l12Picks_lp0_step (N : Nat) {R : Type} (n : Nat) (K : Ex → St → Option R) (n4 : Int) (most5 : Int) (last6 : Int) (i7 : Int) (b8 : List Int × Int × Int) (l9 : List Int) :
    T_spec_l12Picks_lp0_m N (n + 1) (T_spec_l12Picks_lp0_sh n4 most5 last6 i7 b8 l9) K =
    (bif decide (i7 < most5) then
    ((T_spec_l1Once N b8 (3 : Int)).bind fun o17 =>
      (bif !o17.2.1 then
        ((T_spec_l1Below N o17.1.1 n4).bind fun o18 =>
          (bif room ((List.length l9) + (List.length ([o18.2.1]))) then
            (T_spec_l12Picks_lp0_m N n (T_spec_l12Picks_lp0_sh n4 most5 o18.2.1 (iadd .i64 i7 (1 : Int)) o18.1.1 (List.append l9 ([o18.2.1]))) K) else none))
        else
        (bif room ((List.length l9) + (List.length ([last6]))) then
          (T_spec_l12Picks_lp0_m N n (T_spec_l12Picks_lp0_sh n4 most5 last6 (iadd .i64 i7 (1 : Int)) o17.1.1 (List.append l9 ([last6]))) K) else none)))
    else
    (K (.exit 0) (T_spec_l12Picks_lp0_e0 n4 most5 last6 i7 (decide (i7 < most5)) b8 l9))) := by kernel_rfl

theorem T_spec_l12Picks_lp0_eq (N : Nat) {R : Type} (n4 : Int) (most5 : Int) (K : Ex → St → Option R) : ∀ (n : Nat) (last6 : Int) (i7 : Int) (b8 : List Int × Int × Int) (l9 : List Int), T_spec_l12Picks_lp0_m N n (T_spec_l12Picks_lp0_sh n4 most5 last6 i7 b8 l9) K = T_spec_l12Picks_lp0 N n4 most5 (fun last12 i13 t14 b15 l16 => (K (.exit 0) (T_spec_l12Picks_lp0_e0 n4 most5 last12 i13 t14 b15 l16))) n last6 i7 b8 l9
  | 0, _, _, _, _ => rfl
  | n + 1, last6, i7, b8, l9 => by rw [T_spec_l12Picks_lp0_step, T_spec_l12Picks_lp0]; (try simp only [T_spec_l12Picks_lp0_eq N n4 most5 K n])

theorem T_spec_l12Picks_c1 (N : Nat) (n2 : Int) (most3 : Int) (last19 : Int) (i20 : Int) (t21 : Bool) (b22 : List Int × Int × Int) (l23 : List Int) :
    ((ctxK (R := ODen (T_spec_l12Picks_sg N).ps × RDen (T_spec_l12Picks_sg N).rs) tab (T_spec_l12Picks_ctx N) T_spec_l12Picks_ann N (theCode Try.f89) [1, 1, 1, 0, 1, 0] (retK tab (T_spec_l12Picks_sg N) Try.f89.results.toList some)) (.exit 0) (T_spec_l12Picks_lp0_e0 n2 most3 last19 i20 t21 b22 l23)) =
    ((T_spec_l1Once N b22 (12 : Int)).bind fun o24 =>
    (bif o24.2.1 then
      (bif room ((List.length l23) + (List.length ([(-1 : Int), n2]))) then
        (some (α := ODen (T_spec_l12Picks_sg N).ps × RDen (T_spec_l12Picks_sg N).rs) ((o24.1.1, ()), (List.append l23 ([(-1 : Int), n2]), ()))) else none)
      else
      (some (α := ODen (T_spec_l12Picks_sg N).ps × RDen (T_spec_l12Picks_sg N).rs) ((o24.1.1, ()), (l23, ()))))) := by kernel_rfl

theorem T_spec_l12Picks_den (N : Nat) (c1 : List Int × Int × Int) (n2 : Int) (most3 : Int) :
    den (R := ODen (T_spec_l12Picks_sg N).ps × RDen (T_spec_l12Picks_sg N).rs) tab (T_spec_l12Picks_ctx N) T_spec_l12Picks_ann N (T_spec_l12Picks_sg N) Try.f89 (c1, n2, most3, ()) some =
    (T_spec_l12Picks_lp0 N n2 most3
    (fun last19 i20 t21 b22 l23 =>
      ((T_spec_l1Once N b22 (12 : Int)).bind fun o24 =>
        (bif o24.2.1 then
          (bif room ((List.length l23) + (List.length ([(-1 : Int), n2]))) then
            (some (α := ODen (T_spec_l12Picks_sg N).ps × RDen (T_spec_l12Picks_sg N).rs) ((o24.1.1, ()), (List.append l23 ([(-1 : Int), n2]), ()))) else none)
          else
          (some (α := ODen (T_spec_l12Picks_sg N).ps × RDen (T_spec_l12Picks_sg N).rs) ((o24.1.1, ()), (l23, ()))))))
     N (0 : Int) (0 : Int) c1 ([] : List Int)) := by
  have h : den (R := ODen (T_spec_l12Picks_sg N).ps × RDen (T_spec_l12Picks_sg N).rs) tab (T_spec_l12Picks_ctx N) T_spec_l12Picks_ann N (T_spec_l12Picks_sg N) Try.f89 (c1, n2, most3, ()) some =
    (T_spec_l12Picks_lp0_m N N (T_spec_l12Picks_lp0_sh n2 most3 (0 : Int) (0 : Int) c1 ([] : List Int)) (ctxK (R := ODen (T_spec_l12Picks_sg N).ps × RDen (T_spec_l12Picks_sg N).rs) tab (T_spec_l12Picks_ctx N) T_spec_l12Picks_ann N (theCode Try.f89) [1, 1, 1, 0, 1, 0] (retK tab (T_spec_l12Picks_sg N) Try.f89.results.toList some))) := by kernel_rfl
  rw [h]
  (try simp only [T_spec_l12Picks_lp0_eq, T_spec_l12Picks_c1]) <;> rfl

theorem T_spec_l12Picks_ok (N : Nat) : chkBody Try.f89 (T_spec_l12Picks_sg N).ps = true := by kernel_rfl

theorem T_spec_l12Picks_callable : Callable Try.prog 89 := callable_of Try.func89 (show chkFn Try.f89 = true by kernel_rfl)

theorem T_spec_l12Picks_good (N : Nat) : Good Try.prog 89 (T_spec_l12Picks_sg N) :=
  good_body mixedOk tabOk (ctx_cons (T_spec_l1Once_good N) T_spec_l1Once_callable (ctx_cons (T_spec_l1Below_good N) T_spec_l1Below_callable ctx_nil)) Try.func89 (T_spec_l12Picks_ok N) (fun d _ h => ⟨N, (T_spec_l12Picks_den N d.1 d.2.1 d.2.2.1).trans h⟩)

noncomputable def T_spec_l25All_sg (N : Nat) : Sig := Sig.of [.box (.prod (.slice (.int .u8)) (.prod (.int .i64) (.int .i64)))] [.v (.prod (.int .i64) (.prod (.int .i64) (.int .i64))) true, .v (.own (.prod (.int .i64) (.prod (.int .i64) (.int .i64)))) false, .v (.own (.int .i64)) false] (fun d => T_spec_l25All N d.1)

def T_spec_l25All_ann : Nat → List Ghost
  | 4 => [.canon [0, 2, 5, 6, 7, 15]]
  | 5 => [.canon [0, 2, 5, 6, 7]]
  | 6 => [.canon [0, 2, 5, 6, 7]]
  | 14 => [.canon [0, 2, 5, 6, 8, 45]]
  | 15 => [.canon [0, 2, 5, 6, 8]]
  | 17 => [.canon [0, 2, 5, 6, 8, 59]]
  | 18 => [.canon [0, 2, 5, 6, 8]]
  | 100004 => [.canon [0, 2, 5, 6, 7]]
  | 100014 => [.canon [0, 2, 5, 6, 8]]
  | 100017 => [.canon [0, 2, 5, 6, 8]]
  | _ => []

noncomputable def T_spec_l25All_ctx (N : Nat) : Ctx := [(87, T_spec_l25Triple_sg N), (88, T_spec_l1Below_sg N), (89, T_spec_l12Picks_sg N)]

def T_spec_l25All_lp0_sh (n4 : Int) (b5 : List Int × Int × Int) (b9 : Int × Int × Int) (l10 : List (Int × Int × Int)) : St := { env := [(0, .s (.one (.ptr 0 0))), (2, .s (.one (.ptr 1 0))), (5, .s (.one (.ptr 2 0))), (6, .s (.one (.own 3))), (7, .s (.one (.val (.int .i64) (n4 : Int))))], objs := [(0, .box [.val (.slice (.int .u8)) (b5.1 : List Int), .val (.int .i64) (b5.2.1 : Int), .val (.int .i64) (b5.2.2 : Int)]), (1, .box [.val (.int .i64) ((0 : Int) : Int), .val (.int .i64) ((0 : Int) : Int), .val (.int .i64) ((0 : Int) : Int)]), (2, .box [.val (.int .i64) (b9.1 : Int), .val (.int .i64) (b9.2.1 : Int), .val (.int .i64) (b9.2.2 : Int)]), (3, .arr (.prod (.int .i64) (.prod (.int .i64) (.int .i64))) (l10 : List (Int × Int × Int)))], nx := 4 }

def T_spec_l25All_lp0_e0 (b9 : Int × Int × Int) (n13 : Int) (t14 : Bool) (b15 : List Int × Int × Int) (l16 : List (Int × Int × Int)) : St := { env := [(0, .s (.one (.ptr 0 0))), (2, .s (.one (.ptr 1 0))), (5, .s (.one (.ptr 2 0))), (6, .s (.one (.own 3))), (7, .s (.one (.val (.int .i64) (n13 : Int)))), (15, .s (.one (.val (.bool) (t14 : Bool))))], objs := [(0, .box [.val (.slice (.int .u8)) (b15.1 : List Int), .val (.int .i64) (b15.2.1 : Int), .val (.int .i64) (b15.2.2 : Int)]), (1, .box [.val (.int .i64) ((0 : Int) : Int), .val (.int .i64) ((0 : Int) : Int), .val (.int .i64) ((0 : Int) : Int)]), (2, .box [.val (.int .i64) (b9.1 : Int), .val (.int .i64) (b9.2.1 : Int), .val (.int .i64) (b9.2.2 : Int)]), (3, .arr (.prod (.int .i64) (.prod (.int .i64) (.int .i64))) (l16 : List (Int × Int × Int)))], nx := 4 }

noncomputable def T_spec_l25All_lp0_m (N : Nat) {R : Type} (n : Nat) (st : St) (K : Ex → St → Option R) : Option R := loopN (roundG (T_spec_l25All_ann 100004) fun st k => sx tab (T_spec_l25All_ctx N) T_spec_l25All_ann N (nthLoop Try.f54 0) st k) n st K

theorem T_spec_l25All_lp0_step (N : Nat) {R : Type} (n : Nat) (K : Ex → St → Option R) (n4 : Int) (b5 : List Int × Int × Int) (b9 : Int × Int × Int) (l10 : List (Int × Int × Int)) :
    T_spec_l25All_lp0_m N (n + 1) (T_spec_l25All_lp0_sh n4 b5 b9 l10) K =
    (bif decide (n4 > (0 : Int)) then
    ((T_spec_l25Triple N b5).bind fun o17 =>
      (bif room ((List.length l10) + (List.length ([o17.2.1]))) then
        (T_spec_l25All_lp0_m N n (T_spec_l25All_lp0_sh (isub .i64 n4 (1 : Int)) o17.1.1 b9 (List.append l10 ([o17.2.1]))) K) else none))
    else
    (K (.exit 0) (T_spec_l25All_lp0_e0 b9 n4 (decide (n4 > (0 : Int))) b5 l10))) := by kernel_rfl

theorem T_spec_l25All_lp0_eq (N : Nat) {R : Type} (b9 : Int × Int × Int) (K : Ex → St → Option R) : ∀ (n : Nat) (n4 : Int) (b5 : List Int × Int × Int) (l10 : List (Int × Int × Int)), T_spec_l25All_lp0_m N n (T_spec_l25All_lp0_sh n4 b5 b9 l10) K = T_spec_l25All_lp0 N b9 (fun n13 t14 b15 l16 => (K (.exit 0) (T_spec_l25All_lp0_e0 b9 n13 t14 b15 l16))) n n4 b5 l10
  | 0, _, _, _ => rfl
  | n + 1, n4, b5, l10 => by rw [T_spec_l25All_lp0_step, T_spec_l25All_lp0]; (try simp only [T_spec_l25All_lp0_eq N b9 K n])

def T_spec_l25All_lp1_sh (b25 : List Int × Int × Int) (b29 : Int × Int × Int) (l30 : List (Int × Int × Int)) (l31 : List Int) : St := { env := [(0, .s (.one (.ptr 0 0))), (2, .s (.one (.ptr 1 0))), (5, .s (.one (.ptr 2 0))), (6, .s (.one (.own 3))), (8, .s (.one (.own 4)))], objs := [(0, .box [.val (.slice (.int .u8)) (b25.1 : List Int), .val (.int .i64) (b25.2.1 : Int), .val (.int .i64) (b25.2.2 : Int)]), (1, .box [.val (.int .i64) ((0 : Int) : Int), .val (.int .i64) ((0 : Int) : Int), .val (.int .i64) ((0 : Int) : Int)]), (2, .box [.val (.int .i64) (b29.1 : Int), .val (.int .i64) (b29.2.1 : Int), .val (.int .i64) (b29.2.2 : Int)]), (3, .arr (.prod (.int .i64) (.prod (.int .i64) (.int .i64))) (l30 : List (Int × Int × Int))), (4, .arr (.int .i64) (l31 : List Int))], nx := 5 }

def T_spec_l25All_lp1_e0 (b29 : Int × Int × Int) (l31 : List Int) (t34 : Bool) (b35 : List Int × Int × Int) (l36 : List (Int × Int × Int)) : St := { env := [(0, .s (.one (.ptr 0 0))), (2, .s (.one (.ptr 1 0))), (5, .s (.one (.ptr 2 0))), (6, .s (.one (.own 3))), (8, .s (.one (.own 4))), (45, .s (.one (.val (.bool) (t34 : Bool))))], objs := [(0, .box [.val (.slice (.int .u8)) (b35.1 : List Int), .val (.int .i64) (b35.2.1 : Int), .val (.int .i64) (b35.2.2 : Int)]), (1, .box [.val (.int .i64) ((0 : Int) : Int), .val (.int .i64) ((0 : Int) : Int), .val (.int .i64) ((0 : Int) : Int)]), (2, .box [.val (.int .i64) (b29.1 : Int), .val (.int .i64) (b29.2.1 : Int), .val (.int .i64) (b29.2.2 : Int)]), (3, .arr (.prod (.int .i64) (.prod (.int .i64) (.int .i64))) (l36 : List (Int × Int × Int))), (4, .arr (.int .i64) (l31 : List Int))], nx := 5 }

noncomputable def T_spec_l25All_lp1_m (N : Nat) {R : Type} (n : Nat) (st : St) (K : Ex → St → Option R) : Option R := loopN (roundG (T_spec_l25All_ann 100014) fun st k => sx tab (T_spec_l25All_ctx N) T_spec_l25All_ann N (nthLoop Try.f54 1) st k) n st K

theorem T_spec_l25All_lp1_step (N : Nat) {R : Type} (n : Nat) (K : Ex → St → Option R) (b25 : List Int × Int × Int) (b29 : Int × Int × Int) (l30 : List (Int × Int × Int)) (l31 : List Int) :
    T_spec_l25All_lp1_m N (n + 1) (T_spec_l25All_lp1_sh b25 b29 l30 l31) K =
    ((T_spec_l1Below N b25 (2 : Int)).bind fun o37 =>
    (bif decide ((ilen l30) < (iadd .i64 (20 : Int) o37.2.1)) then
      (bif room ((List.length l30) + (List.length ([(ilen l30, ((0 : Int), (0 : Int)))]))) then
        (T_spec_l25All_lp1_m N n (T_spec_l25All_lp1_sh o37.1.1 b29 (List.append l30 ([(ilen l30, ((0 : Int), (0 : Int)))])) l31) K) else none)
      else
      (K (.exit 3) (T_spec_l25All_lp1_e0 b29 l31 (decide ((ilen l30) < (iadd .i64 (20 : Int) o37.2.1))) o37.1.1 l30)))) := by kernel_rfl

theorem T_spec_l25All_lp1_eq (N : Nat) {R : Type} (b29 : Int × Int × Int) (l31 : List Int) (K : Ex → St → Option R) : ∀ (n : Nat) (b25 : List Int × Int × Int) (l30 : List (Int × Int × Int)), T_spec_l25All_lp1_m N n (T_spec_l25All_lp1_sh b25 b29 l30 l31) K = T_spec_l25All_lp1 N b29 l31 (fun t34 b35 l36 => (K (.exit 3) (T_spec_l25All_lp1_e0 b29 l31 t34 b35 l36))) n b25 l30
  | 0, _, _ => rfl
  | n + 1, b25, l30 => by rw [T_spec_l25All_lp1_step, T_spec_l25All_lp1]; (try simp only [T_spec_l25All_lp1_eq N b29 l31 K n])

def T_spec_l25All_lp2_sh (b41 : List Int × Int × Int) (b45 : Int × Int × Int) (l46 : List (Int × Int × Int)) (l47 : List Int) : St := { env := [(0, .s (.one (.ptr 0 0))), (2, .s (.one (.ptr 1 0))), (5, .s (.one (.ptr 2 0))), (6, .s (.one (.own 3))), (8, .s (.one (.own 4)))], objs := [(0, .box [.val (.slice (.int .u8)) (b41.1 : List Int), .val (.int .i64) (b41.2.1 : Int), .val (.int .i64) (b41.2.2 : Int)]), (1, .box [.val (.int .i64) ((0 : Int) : Int), .val (.int .i64) ((0 : Int) : Int), .val (.int .i64) ((0 : Int) : Int)]), (2, .box [.val (.int .i64) (b45.1 : Int), .val (.int .i64) (b45.2.1 : Int), .val (.int .i64) (b45.2.2 : Int)]), (3, .arr (.prod (.int .i64) (.prod (.int .i64) (.int .i64))) (l46 : List (Int × Int × Int))), (4, .arr (.int .i64) (l47 : List Int))], nx := 5 }

def T_spec_l25All_lp2_e0 (b45 : Int × Int × Int) (l46 : List (Int × Int × Int)) (t50 : Bool) (b51 : List Int × Int × Int) (l52 : List Int) : St := { env := [(0, .s (.one (.ptr 0 0))), (2, .s (.one (.ptr 1 0))), (5, .s (.one (.ptr 2 0))), (6, .s (.one (.own 3))), (8, .s (.one (.own 4))), (59, .s (.one (.val (.bool) (t50 : Bool))))], objs := [(0, .box [.val (.slice (.int .u8)) (b51.1 : List Int), .val (.int .i64) (b51.2.1 : Int), .val (.int .i64) (b51.2.2 : Int)]), (1, .box [.val (.int .i64) ((0 : Int) : Int), .val (.int .i64) ((0 : Int) : Int), .val (.int .i64) ((0 : Int) : Int)]), (2, .box [.val (.int .i64) (b45.1 : Int), .val (.int .i64) (b45.2.1 : Int), .val (.int .i64) (b45.2.2 : Int)]), (3, .arr (.prod (.int .i64) (.prod (.int .i64) (.int .i64))) (l46 : List (Int × Int × Int))), (4, .arr (.int .i64) (l52 : List Int))], nx := 5 }

noncomputable def T_spec_l25All_lp2_m (N : Nat) {R : Type} (n : Nat) (st : St) (K : Ex → St → Option R) : Option R := loopN (roundG (T_spec_l25All_ann 100017) fun st k => sx tab (T_spec_l25All_ctx N) T_spec_l25All_ann N (nthLoop Try.f54 2) st k) n st K

theorem T_spec_l25All_lp2_step (N : Nat) {R : Type} (n : Nat) (K : Ex → St → Option R) (b41 : List Int × Int × Int) (b45 : Int × Int × Int) (l46 : List (Int × Int × Int)) (l47 : List Int) :
    T_spec_l25All_lp2_m N (n + 1) (T_spec_l25All_lp2_sh b41 b45 l46 l47) K =
    ((T_spec_l1Below N b41 (2 : Int)).bind fun o53 =>
    (bif decide ((ilen l47) < (iadd .i64 (200 : Int) o53.2.1)) then
      (bif room ((List.length l47) + (List.length ([(0 : Int)]))) then
        (T_spec_l25All_lp2_m N n (T_spec_l25All_lp2_sh o53.1.1 b45 l46 (List.append l47 ([(0 : Int)]))) K) else none)
      else
      (K (.exit 5) (T_spec_l25All_lp2_e0 b45 l46 (decide ((ilen l47) < (iadd .i64 (200 : Int) o53.2.1))) o53.1.1 l47)))) := by kernel_rfl

theorem T_spec_l25All_lp2_eq (N : Nat) {R : Type} (b45 : Int × Int × Int) (l46 : List (Int × Int × Int)) (K : Ex → St → Option R) : ∀ (n : Nat) (b41 : List Int × Int × Int) (l47 : List Int), T_spec_l25All_lp2_m N n (T_spec_l25All_lp2_sh b41 b45 l46 l47) K = T_spec_l25All_lp2 N b45 l46 (fun t50 b51 l52 => (K (.exit 5) (T_spec_l25All_lp2_e0 b45 l46 t50 b51 l52))) n b41 l47
  | 0, _, _ => rfl
  | n + 1, b41, l47 => by rw [T_spec_l25All_lp2_step, T_spec_l25All_lp2]; (try simp only [T_spec_l25All_lp2_eq N b45 l46 K n])

theorem T_spec_l25All_c2 (N : Nat) (o2 : ((List Int × Int × Int) × Unit) × (Int × Int × Int) × Unit) (o23 : ((List Int × Int × Int) × Unit) × List Int × Unit) (t38 : Bool) (b39 : List Int × Int × Int) (l40 : List (Int × Int × Int)) :
    ((ctxK (R := ODen (T_spec_l25All_sg N).ps × RDen (T_spec_l25All_sg N).rs) tab (T_spec_l25All_ctx N) T_spec_l25All_ann N (theCode Try.f54) [1, 1, 1, 1, 1, 0, 1, 0, 1, 1, 1, 1, 1, 0, 0] (retK tab (T_spec_l25All_sg N) Try.f54.results.toList some)) (.exit 3) (T_spec_l25All_lp1_e0 o2.2.1 o23.2.1 t38 b39 l40)) =
    (some (α := ODen (T_spec_l25All_sg N).ps × RDen (T_spec_l25All_sg N).rs) ((b39, ()), (o2.2.1, (l40, (o23.2.1, ()))))) := by kernel_rfl

theorem T_spec_l25All_c3 (N : Nat) (o2 : ((List Int × Int × Int) × Unit) × (Int × Int × Int) × Unit) (l21 : List (Int × Int × Int)) (t54 : Bool) (b55 : List Int × Int × Int) (l56 : List Int) :
    ((ctxK (R := ODen (T_spec_l25All_sg N).ps × RDen (T_spec_l25All_sg N).rs) tab (T_spec_l25All_ctx N) T_spec_l25All_ann N (theCode Try.f54) [1, 1, 1, 1, 1, 0, 1, 0, 1, 1, 1, 1, 1, 1, 1, 0, 0] (retK tab (T_spec_l25All_sg N) Try.f54.results.toList some)) (.exit 5) (T_spec_l25All_lp2_e0 o2.2.1 l21 t54 b55 l56)) =
    (some (α := ODen (T_spec_l25All_sg N).ps × RDen (T_spec_l25All_sg N).rs) ((b55, ()), (o2.2.1, (l21, (l56, ()))))) := by kernel_rfl

theorem T_spec_l25All_c1 (N : Nat) (o2 : ((List Int × Int × Int) × Unit) × (Int × Int × Int) × Unit) (n18 : Int) (t19 : Bool) (b20 : List Int × Int × Int) (l21 : List (Int × Int × Int)) :
    ((ctxK (R := ODen (T_spec_l25All_sg N).ps × RDen (T_spec_l25All_sg N).rs) tab (T_spec_l25All_ctx N) T_spec_l25All_ann N (theCode Try.f54) [1, 1, 1, 0, 1, 0] (retK tab (T_spec_l25All_sg N) Try.f54.results.toList some)) (.exit 0) (T_spec_l25All_lp0_e0 o2.2.1 n18 t19 b20 l21)) =
    ((T_spec_l1Below N b20 (100 : Int)).bind fun o22 =>
    ((T_spec_l12Picks N o22.1.1 (4 : Int) o22.2.1).bind fun o23 =>
      ((T_spec_l1Below N o23.1.1 (24 : Int)).bind fun o24 =>
        (bif o24.2.1 == (0 : Int) then
          (some (α := ODen (T_spec_l25All_sg N).ps × RDen (T_spec_l25All_sg N).rs) ((o24.1.1, ()), ((o2.2.1.1, ((65536 : Int), o2.2.1.2.2)), (l21, (o23.2.1, ())))))
          else
          (bif o24.2.1 == (1 : Int) then
            (bif room ((List.length l21) + (List.length ([((0 : Int), ((0 : Int), (-1 : Int)))]))) then
              (some (α := ODen (T_spec_l25All_sg N).ps × RDen (T_spec_l25All_sg N).rs) ((o24.1.1, ()), (o2.2.1, (List.append l21 ([((0 : Int), ((0 : Int), (-1 : Int)))]), (o23.2.1, ()))))) else none)
            else
            (bif o24.2.1 == (2 : Int) then
              (T_spec_l25All_lp1 N o2.2.1 o23.2.1
                (fun t38 b39 l40 =>
                  (some (α := ODen (T_spec_l25All_sg N).ps × RDen (T_spec_l25All_sg N).rs) ((b39, ()), (o2.2.1, (l40, (o23.2.1, ()))))))
                 N o24.1.1 l21)
              else
              (bif o24.2.1 == (3 : Int) then
                (T_spec_l25All_lp2 N o2.2.1 l21
                  (fun t54 b55 l56 =>
                    (some (α := ODen (T_spec_l25All_sg N).ps × RDen (T_spec_l25All_sg N).rs) ((b55, ()), (o2.2.1, (l21, (l56, ()))))))
                   N o24.1.1 o23.2.1)
                else
                (some (α := ODen (T_spec_l25All_sg N).ps × RDen (T_spec_l25All_sg N).rs) ((o24.1.1, ()), (o2.2.1, (l21, (o23.2.1, ())))))))))))) := by
  have h : ((ctxK (R := ODen (T_spec_l25All_sg N).ps × RDen (T_spec_l25All_sg N).rs) tab (T_spec_l25All_ctx N) T_spec_l25All_ann N (theCode Try.f54) [1, 1, 1, 0, 1, 0] (retK tab (T_spec_l25All_sg N) Try.f54.results.toList some)) (.exit 0) (T_spec_l25All_lp0_e0 o2.2.1 n18 t19 b20 l21)) =
    ((T_spec_l1Below N b20 (100 : Int)).bind fun o22 =>
    ((T_spec_l12Picks N o22.1.1 (4 : Int) o22.2.1).bind fun o23 =>
      ((T_spec_l1Below N o23.1.1 (24 : Int)).bind fun o24 =>
        (bif o24.2.1 == (0 : Int) then
          (some (α := ODen (T_spec_l25All_sg N).ps × RDen (T_spec_l25All_sg N).rs) ((o24.1.1, ()), ((o2.2.1.1, ((65536 : Int), o2.2.1.2.2)), (l21, (o23.2.1, ())))))
          else
          (bif o24.2.1 == (1 : Int) then
            (bif room ((List.length l21) + (List.length ([((0 : Int), ((0 : Int), (-1 : Int)))]))) then
              (some (α := ODen (T_spec_l25All_sg N).ps × RDen (T_spec_l25All_sg N).rs) ((o24.1.1, ()), (o2.2.1, (List.append l21 ([((0 : Int), ((0 : Int), (-1 : Int)))]), (o23.2.1, ()))))) else none)
            else
            (bif o24.2.1 == (2 : Int) then
              (T_spec_l25All_lp1_m N N (T_spec_l25All_lp1_sh o24.1.1 o2.2.1 l21 o23.2.1) (ctxK (R := ODen (T_spec_l25All_sg N).ps × RDen (T_spec_l25All_sg N).rs) tab (T_spec_l25All_ctx N) T_spec_l25All_ann N (theCode Try.f54) [1, 1, 1, 1, 1, 0, 1, 0, 1, 1, 1, 1, 1, 0, 0] (retK tab (T_spec_l25All_sg N) Try.f54.results.toList some)))
              else
              (bif o24.2.1 == (3 : Int) then
                (T_spec_l25All_lp2_m N N (T_spec_l25All_lp2_sh o24.1.1 o2.2.1 l21 o23.2.1) (ctxK (R := ODen (T_spec_l25All_sg N).ps × RDen (T_spec_l25All_sg N).rs) tab (T_spec_l25All_ctx N) T_spec_l25All_ann N (theCode Try.f54) [1, 1, 1, 1, 1, 0, 1, 0, 1, 1, 1, 1, 1, 1, 1, 0, 0] (retK tab (T_spec_l25All_sg N) Try.f54.results.toList some)))
                else
                (some (α := ODen (T_spec_l25All_sg N).ps × RDen (T_spec_l25All_sg N).rs) ((o24.1.1, ()), (o2.2.1, (l21, (o23.2.1, ())))))))))))) := by kernel_rfl
  rw [h]
  (try simp only [T_spec_l25All_lp1_eq, T_spec_l25All_c2, T_spec_l25All_lp2_eq, T_spec_l25All_c3]) <;> rfl

theorem T_spec_l25All_den (N : Nat) (c1 : List Int × Int × Int) :
    den (R := ODen (T_spec_l25All_sg N).ps × RDen (T_spec_l25All_sg N).rs) tab (T_spec_l25All_ctx N) T_spec_l25All_ann N (T_spec_l25All_sg N) Try.f54 (c1, ()) some =
    ((T_spec_l25Triple N c1).bind fun o2 =>
    ((T_spec_l1Below N o2.1.1 (6 : Int)).bind fun o3 =>
      (T_spec_l25All_lp0 N o2.2.1
        (fun n18 t19 b20 l21 =>
          ((T_spec_l1Below N b20 (100 : Int)).bind fun o22 =>
            ((T_spec_l12Picks N o22.1.1 (4 : Int) o22.2.1).bind fun o23 =>
              ((T_spec_l1Below N o23.1.1 (24 : Int)).bind fun o24 =>
                (bif o24.2.1 == (0 : Int) then
                  (some (α := ODen (T_spec_l25All_sg N).ps × RDen (T_spec_l25All_sg N).rs) ((o24.1.1, ()), ((o2.2.1.1, ((65536 : Int), o2.2.1.2.2)), (l21, (o23.2.1, ())))))
                  else
                  (bif o24.2.1 == (1 : Int) then
                    (bif room ((List.length l21) + (List.length ([((0 : Int), ((0 : Int), (-1 : Int)))]))) then
                      (some (α := ODen (T_spec_l25All_sg N).ps × RDen (T_spec_l25All_sg N).rs) ((o24.1.1, ()), (o2.2.1, (List.append l21 ([((0 : Int), ((0 : Int), (-1 : Int)))]), (o23.2.1, ()))))) else none)
                    else
                    (bif o24.2.1 == (2 : Int) then
                      (T_spec_l25All_lp1 N o2.2.1 o23.2.1
                        (fun t38 b39 l40 =>
                          (some (α := ODen (T_spec_l25All_sg N).ps × RDen (T_spec_l25All_sg N).rs) ((b39, ()), (o2.2.1, (l40, (o23.2.1, ()))))))
                         N o24.1.1 l21)
                      else
                      (bif o24.2.1 == (3 : Int) then
                        (T_spec_l25All_lp2 N o2.2.1 l21
                          (fun t54 b55 l56 =>
                            (some (α := ODen (T_spec_l25All_sg N).ps × RDen (T_spec_l25All_sg N).rs) ((b55, ()), (o2.2.1, (l21, (l56, ()))))))
                           N o24.1.1 o23.2.1)
                        else
                        (some (α := ODen (T_spec_l25All_sg N).ps × RDen (T_spec_l25All_sg N).rs) ((o24.1.1, ()), (o2.2.1, (l21, (o23.2.1, ())))))))))))))
         N o3.2.1 o3.1.1 ([] : List (Int × Int × Int))))) := by
  have h : den (R := ODen (T_spec_l25All_sg N).ps × RDen (T_spec_l25All_sg N).rs) tab (T_spec_l25All_ctx N) T_spec_l25All_ann N (T_spec_l25All_sg N) Try.f54 (c1, ()) some =
    ((T_spec_l25Triple N c1).bind fun o2 =>
    ((T_spec_l1Below N o2.1.1 (6 : Int)).bind fun o3 =>
      (T_spec_l25All_lp0_m N N (T_spec_l25All_lp0_sh o3.2.1 o3.1.1 o2.2.1 ([] : List (Int × Int × Int))) (ctxK (R := ODen (T_spec_l25All_sg N).ps × RDen (T_spec_l25All_sg N).rs) tab (T_spec_l25All_ctx N) T_spec_l25All_ann N (theCode Try.f54) [1, 1, 1, 0, 1, 0] (retK tab (T_spec_l25All_sg N) Try.f54.results.toList some))))) := by kernel_rfl
  rw [h]
  (try simp only [T_spec_l25All_lp0_eq, T_spec_l25All_c1]) <;> rfl

theorem T_spec_l25All_ok (N : Nat) : chkBody Try.f54 (T_spec_l25All_sg N).ps = true := by kernel_rfl

theorem T_spec_l25All_callable : Callable Try.prog 54 := callable_of Try.func54 (show chkFn Try.f54 = true by kernel_rfl)

theorem T_spec_l25All_good (N : Nat) : Good Try.prog 54 (T_spec_l25All_sg N) :=
  good_body mixedOk tabOk (ctx_cons (T_spec_l25Triple_good N) T_spec_l25Triple_callable (ctx_cons (T_spec_l1Below_good N) T_spec_l1Below_callable (ctx_cons (T_spec_l12Picks_good N) T_spec_l12Picks_callable ctx_nil))) Try.func54 (T_spec_l25All_ok N) (fun d _ h => ⟨N, (T_spec_l25All_den N d.1).trans h⟩)

noncomputable def T_spec_DrawSeqPlay_sg (N : Nat) : Sig := Sig.of [.v (.slice (.int .u8)) false] [.v (.prod (.int .i64) (.prod (.int .i64) (.int .i64))) true, .v (.own (.prod (.int .i64) (.prod (.int .i64) (.int .i64)))) false, .v (.own (.int .i64)) false] (fun d => T_spec_DrawSeqPlay N d.1)

def T_spec_DrawSeqPlay_ann : Nat → List Ghost
  | _ => []

noncomputable def T_spec_DrawSeqPlay_ctx (N : Nat) : Ctx := [(53, T_spec_l1New_sg N), (54, T_spec_l25All_sg N)]

theorem T_spec_DrawSeqPlay_den (N : Nat) (code1 : List Int) :
    den (R := ODen (T_spec_DrawSeqPlay_sg N).ps × RDen (T_spec_DrawSeqPlay_sg N).rs) tab (T_spec_DrawSeqPlay_ctx N) T_spec_DrawSeqPlay_ann N (T_spec_DrawSeqPlay_sg N) Try.f23 (code1, ()) some =
    ((T_spec_l1New N code1).bind fun o2 =>
    ((T_spec_l25All N o2.2.1).bind fun o3 =>
      (some (α := ODen (T_spec_DrawSeqPlay_sg N).ps × RDen (T_spec_DrawSeqPlay_sg N).rs) ((), (o3.2.1, (o3.2.2.1, (o3.2.2.2.1, ()))))))) := by kernel_rfl

theorem T_spec_DrawSeqPlay_ok (N : Nat) : chkBody Try.f23 (T_spec_DrawSeqPlay_sg N).ps = true := by kernel_rfl

theorem T_spec_DrawSeqPlay_callable : Callable Try.prog 23 := callable_of Try.func23 (show chkFn Try.f23 = true by kernel_rfl)

theorem T_spec_DrawSeqPlay_good (N : Nat) : Good Try.prog 23 (T_spec_DrawSeqPlay_sg N) :=
  good_body mixedOk tabOk (ctx_cons (T_spec_l1New_good N) T_spec_l1New_callable (ctx_cons (T_spec_l25All_good N) T_spec_l25All_callable ctx_nil)) Try.func23 (T_spec_DrawSeqPlay_ok N) (fun d _ h => ⟨N, (T_spec_DrawSeqPlay_den N d.1).trans h⟩)

noncomputable def T_impl_within_sg (N : Nat) : Sig := Sig.of [.v (.int .i64) false, .v (.int .i64) false, .v (.int .i64) false] [.v (.bool) false] (fun d => T_impl_within N d.1 d.2.1 d.2.2.1)

def T_impl_within_ann : Nat → List Ghost
  | _ => []

noncomputable def T_impl_within_ctx (N : Nat) : Ctx := []

theorem T_impl_within_den (N : Nat) (x1 : Int) (lo2 : Int) (hi3 : Int) :
    den (R := ODen (T_impl_within_sg N).ps × RDen (T_impl_within_sg N).rs) tab (T_impl_within_ctx N) T_impl_within_ann N (T_impl_within_sg N) Try.f58 (x1, lo2, hi3, ()) some =
    (bif decide (x1 ≥ lo2) then
    (some (α := ODen (T_impl_within_sg N).ps × RDen (T_impl_within_sg N).rs) ((), (decide (x1 ≤ hi3), ())))
    else
    (some (α := ODen (T_impl_within_sg N).ps × RDen (T_impl_within_sg N).rs) ((), (false, ())))) := by kernel_rfl

theorem T_impl_within_ok (N : Nat) : chkBody Try.f58 (T_impl_within_sg N).ps = true := by kernel_rfl

theorem T_impl_within_callable : Callable Try.prog 58 := callable_of Try.func58 (show chkFn Try.f58 = true by kernel_rfl)

theorem T_impl_within_good (N : Nat) : Good Try.prog 58 (T_impl_within_sg N) :=
  good_body mixedOk tabOk ctx_nil Try.func58 (T_impl_within_ok N) (fun d _ h => ⟨N, (T_impl_within_den N d.1 d.2.1 d.2.2.1).trans h⟩)

noncomputable def T_impl_isValue_sg (N : Nat) : Sig := Sig.of [.v (.int .i64) false] [.v (.bool) false] (fun d => T_impl_isValue N d.1)

def T_impl_isValue_ann : Nat → List Ghost
  | _ => []

noncomputable def T_impl_isValue_ctx (N : Nat) : Ctx := [(58, T_impl_within_sg N)]

theorem T_impl_isValue_den (N : Nat) (v1 : Int) :
    den (R := ODen (T_impl_isValue_sg N).ps × RDen (T_impl_isValue_sg N).rs) tab (T_impl_isValue_ctx N) T_impl_isValue_ann N (T_impl_isValue_sg N) Try.f85 (v1, ()) some =
    ((T_impl_within N v1 (0 : Int) (65535 : Int)).bind fun o2 =>
    (some (α := ODen (T_impl_isValue_sg N).ps × RDen (T_impl_isValue_sg N).rs) ((), (o2.2.1, ())))) := by kernel_rfl

theorem T_impl_isValue_ok (N : Nat) : chkBody Try.f85 (T_impl_isValue_sg N).ps = true := by kernel_rfl

theorem T_impl_isValue_callable : Callable Try.prog 85 := callable_of Try.func85 (show chkFn Try.f85 = true by kernel_rfl)

theorem T_impl_isValue_good (N : Nat) : Good Try.prog 85 (T_impl_isValue_sg N) :=
  good_body mixedOk tabOk (ctx_cons (T_impl_within_good N) T_impl_within_callable ctx_nil) Try.func85 (T_impl_isValue_ok N) (fun d _ h => ⟨N, (T_impl_isValue_den N d.1).trans h⟩)

noncomputable def T_impl_isTriple_sg (N : Nat) : Sig := Sig.of [.v (.prod (.int .i64) (.prod (.int .i64) (.int .i64))) true] [.v (.bool) false] (fun d => T_impl_isTriple N d.1)

def T_impl_isTriple_ann : Nat → List Ghost
  | _ => []

noncomputable def T_impl_isTriple_ctx (N : Nat) : Ctx := [(85, T_impl_isValue_sg N)]

theorem T_impl_isTriple_den (N : Nat) (t1 : Int × Int × Int) :
    den (R := ODen (T_impl_isTriple_sg N).ps × RDen (T_impl_isTriple_sg N).rs) tab (T_impl_isTriple_ctx N) T_impl_isTriple_ann N (T_impl_isTriple_sg N) Try.f55 (t1, ()) some =
    ((T_impl_isValue N t1.1).bind fun o2 =>
    (bif o2.2.1 then
      ((T_impl_isValue N t1.2.1).bind fun o3 =>
        (bif o3.2.1 then
          ((T_impl_isValue N t1.2.2).bind fun o4 =>
            (some (α := ODen (T_impl_isTriple_sg N).ps × RDen (T_impl_isTriple_sg N).rs) ((), (o4.2.1, ()))))
          else
          (some (α := ODen (T_impl_isTriple_sg N).ps × RDen (T_impl_isTriple_sg N).rs) ((), (false, ())))))
      else
      (some (α := ODen (T_impl_isTriple_sg N).ps × RDen (T_impl_isTriple_sg N).rs) ((), (false, ()))))) := by kernel_rfl

theorem T_impl_isTriple_ok (N : Nat) : chkBody Try.f55 (T_impl_isTriple_sg N).ps = true := by kernel_rfl

theorem T_impl_isTriple_callable : Callable Try.prog 55 := callable_of Try.func55 (show chkFn Try.f55 = true by kernel_rfl)

theorem T_impl_isTriple_good (N : Nat) : Good Try.prog 55 (T_impl_isTriple_sg N) :=
  good_body mixedOk tabOk (ctx_cons (T_impl_isValue_good N) T_impl_isValue_callable ctx_nil) Try.func55 (T_impl_isTriple_ok N) (fun d _ h => ⟨N, (T_impl_isTriple_den N d.1).trans h⟩)

noncomputable def T_impl_TriplesOk_sg (N : Nat) : Sig := Sig.of [.v (.slice (.prod (.int .i64) (.prod (.int .i64) (.int .i64)))) false] [.v (.bool) false] (fun d => T_impl_TriplesOk N d.1)

def T_impl_TriplesOk_ann : Nat → List Ghost
  | 2 => [.canon [0, 5, 6, 7, 8]]
  | 3 => [.canon [0, 4, 5, 6, 7]]
  | 4 => [.canon [0, 5, 6, 7, 13]]
  | 5 => [.canon [2]]
  | 6 => [.canon [0, 5, 6, 7]]
  | 100002 => [.canon [0, 5, 6, 7]]
  | _ => []

noncomputable def T_impl_TriplesOk_ctx (N : Nat) : Ctx := [(55, T_impl_isTriple_sg N)]

def T_impl_TriplesOk_lp0_sh (l2 : List (Int × Int × Int)) (t5 : Int) : St := { env := [(0, .s (.one (.val (.slice (.prod (.int .i64) (.prod (.int .i64) (.int .i64)))) (l2 : List (Int × Int × Int))))), (5, .s (.one (.val (.slice (.prod (.int .i64) (.prod (.int .i64) (.int .i64)))) (l2 : List (Int × Int × Int))))), (6, .s (.one (.val (.int .i64) (ilen l2 : Int)))), (7, .s (.one (.val (.int .i64) (t5 : Int))))], objs := [], nx := 0 }

def T_impl_TriplesOk_lp0_e0 (l2 : List (Int × Int × Int)) : St := { env := [(2, .s (.one (.val (.bool) (false : Bool))))], objs := [], nx := 0 }

def T_impl_TriplesOk_lp0_e1 (l2 : List (Int × Int × Int)) (t8 : Int) (t9 : Bool) : St := { env := [(0, .s (.one (.val (.slice (.prod (.int .i64) (.prod (.int .i64) (.int .i64)))) (l2 : List (Int × Int × Int))))), (5, .s (.one (.val (.slice (.prod (.int .i64) (.prod (.int .i64) (.int .i64)))) (l2 : List (Int × Int × Int))))), (6, .s (.one (.val (.int .i64) (ilen l2 : Int)))), (7, .s (.one (.val (.int .i64) (t8 : Int)))), (8, .s (.one (.val (.bool) (t9 : Bool))))], objs := [], nx := 0 }

noncomputable def T_impl_TriplesOk_lp0_m (N : Nat) {R : Type} (n : Nat) (st : St) (K : Ex → St → Option R) : Option R := loopN (roundG (T_impl_TriplesOk_ann 100002) fun st k => sx tab (T_impl_TriplesOk_ctx N) T_impl_TriplesOk_ann N (nthLoop Try.f56 0) st k) n st K

theorem T_impl_TriplesOk_lp0_step (N : Nat) {R : Type} (n : Nat) (K : Ex → St → Option R) (l2 : List (Int × Int × Int)) (t5 : Int) :
    T_impl_TriplesOk_lp0_m N (n + 1) (T_impl_TriplesOk_lp0_sh l2 t5) K =
    (bif decide (t5 < (ilen l2)) then
    (bif inb t5 (List.length l2) then
      ((T_impl_isTriple N (List.getD l2 (Int.toNat t5) ((0 : Int), ((0 : Int), (0 : Int))))).bind fun o10 =>
        (bif !o10.2.1 then
          (K .ret (T_impl_TriplesOk_lp0_e0 l2))
          else
          (T_impl_TriplesOk_lp0_m N n (T_impl_TriplesOk_lp0_sh l2 (iadd .i64 t5 (1 : Int))) K))) else none)
    else
    (K (.exit 0) (T_impl_TriplesOk_lp0_e1 l2 t5 (decide (t5 < (ilen l2)))))) := by kernel_rfl

theorem T_impl_TriplesOk_lp0_eq (N : Nat) {R : Type} (l2 : List (Int × Int × Int)) (K : Ex → St → Option R) : ∀ (n : Nat) (t5 : Int), T_impl_TriplesOk_lp0_m N n (T_impl_TriplesOk_lp0_sh l2 t5) K = T_impl_TriplesOk_lp0 N l2 (K .ret (T_impl_TriplesOk_lp0_e0 l2)) (fun t8 t9 => (K (.exit 0) (T_impl_TriplesOk_lp0_e1 l2 t8 t9))) n t5
  | 0, _ => rfl
  | n + 1, t5 => by rw [T_impl_TriplesOk_lp0_step, T_impl_TriplesOk_lp0]; (try simp only [T_impl_TriplesOk_lp0_eq N l2 K n])

theorem T_impl_TriplesOk_c1 (N : Nat) (l1 : List (Int × Int × Int)) :
    ((ctxK (R := ODen (T_impl_TriplesOk_sg N).ps × RDen (T_impl_TriplesOk_sg N).rs) tab (T_impl_TriplesOk_ctx N) T_impl_TriplesOk_ann N (theCode Try.f56) [1, 0, 1, 0] (retK tab (T_impl_TriplesOk_sg N) Try.f56.results.toList some)) .ret (T_impl_TriplesOk_lp0_e0 l1)) =
    (some (α := ODen (T_impl_TriplesOk_sg N).ps × RDen (T_impl_TriplesOk_sg N).rs) ((), (false, ()))) := by kernel_rfl

theorem T_impl_TriplesOk_c2 (N : Nat) (l1 : List (Int × Int × Int)) (t11 : Int) (t12 : Bool) :
    ((ctxK (R := ODen (T_impl_TriplesOk_sg N).ps × RDen (T_impl_TriplesOk_sg N).rs) tab (T_impl_TriplesOk_ctx N) T_impl_TriplesOk_ann N (theCode Try.f56) [1, 0, 1, 0] (retK tab (T_impl_TriplesOk_sg N) Try.f56.results.toList some)) (.exit 0) (T_impl_TriplesOk_lp0_e1 l1 t11 t12)) =
    (some (α := ODen (T_impl_TriplesOk_sg N).ps × RDen (T_impl_TriplesOk_sg N).rs) ((), (decide ((ilen l1) ≤ (20 : Int)), ()))) := by kernel_rfl

theorem T_impl_TriplesOk_den (N : Nat) (l1 : List (Int × Int × Int)) :
    den (R := ODen (T_impl_TriplesOk_sg N).ps × RDen (T_impl_TriplesOk_sg N).rs) tab (T_impl_TriplesOk_ctx N) T_impl_TriplesOk_ann N (T_impl_TriplesOk_sg N) Try.f56 (l1, ()) some =
    (T_impl_TriplesOk_lp0 N l1
    (some (α := ODen (T_impl_TriplesOk_sg N).ps × RDen (T_impl_TriplesOk_sg N).rs) ((), (false, ())))
    (fun t11 t12 =>
      (some (α := ODen (T_impl_TriplesOk_sg N).ps × RDen (T_impl_TriplesOk_sg N).rs) ((), (decide ((ilen l1) ≤ (20 : Int)), ()))))
     N (0 : Int)) := by
  have h : den (R := ODen (T_impl_TriplesOk_sg N).ps × RDen (T_impl_TriplesOk_sg N).rs) tab (T_impl_TriplesOk_ctx N) T_impl_TriplesOk_ann N (T_impl_TriplesOk_sg N) Try.f56 (l1, ()) some =
    (T_impl_TriplesOk_lp0_m N N (T_impl_TriplesOk_lp0_sh l1 (0 : Int)) (ctxK (R := ODen (T_impl_TriplesOk_sg N).ps × RDen (T_impl_TriplesOk_sg N).rs) tab (T_impl_TriplesOk_ctx N) T_impl_TriplesOk_ann N (theCode Try.f56) [1, 0, 1, 0] (retK tab (T_impl_TriplesOk_sg N) Try.f56.results.toList some))) := by kernel_rfl
  rw [h]
  (try simp only [T_impl_TriplesOk_lp0_eq, T_impl_TriplesOk_c1, T_impl_TriplesOk_c2]) <;> rfl

theorem T_impl_TriplesOk_ok (N : Nat) : chkBody Try.f56 (T_impl_TriplesOk_sg N).ps = true := by kernel_rfl

theorem T_impl_TriplesOk_callable : Callable Try.prog 56 := callable_of Try.func56 (show chkFn Try.f56 = true by kernel_rfl)

theorem T_impl_TriplesOk_good (N : Nat) : Good Try.prog 56 (T_impl_TriplesOk_sg N) :=
  good_body mixedOk tabOk (ctx_cons (T_impl_isTriple_good N) T_impl_isTriple_callable ctx_nil) Try.func56 (T_impl_TriplesOk_ok N) (fun d _ h => ⟨N, (T_impl_TriplesOk_den N d.1).trans h⟩)

noncomputable def T_impl_SeqWorld_write_sg (N : Nat) : Sig := Sig.of [.box (.prod (.int .i64) (.prod (.prod (.int .i64) (.prod (.int .i64) (.int .i64))) (.prod (.int .i64) (.prod (.int .i64) (.prod (.own (.prod (.int .i64) (.prod (.int .i64) (.prod (.prod (.int .i64) (.prod (.int .i64) (.int .i64))) (.int .i64))))) (.own (.prod (.int .i64) (.prod (.int .i64) (.prod (.int .i64) (.prod (.int .i64) (.int .i64))))))))))), .v (.slice (.prod (.int .i64) (.prod (.int .i64) (.int .i64)))) false] [] (fun d => T_impl_SeqWorld_write N d.1 d.2.1)

def T_impl_SeqWorld_write_ann : Nat → List Ghost
  | _ => []

noncomputable def T_impl_SeqWorld_write_ctx (N : Nat) : Ctx := []

theorem T_impl_SeqWorld_write_den (N : Nat) (w1 : Int × (Int × Int × Int) × Int × Int × List (Int × Int × (Int × Int × Int) × Int) × List (Int × Int × Int × Int × Int)) (l2 : List (Int × Int × Int)) :
    den (R := ODen (T_impl_SeqWorld_write_sg N).ps × RDen (T_impl_SeqWorld_write_sg N).rs) tab (T_impl_SeqWorld_write_ctx N) T_impl_SeqWorld_write_ann N (T_impl_SeqWorld_write_sg N) Try.f57 (w1, l2, ()) some =
    (bif w1.2.2.1 == (0 : Int) then
    (bif w1.2.2.2.1 == (ilen l2) then
      (some (α := ODen (T_impl_SeqWorld_write_sg N).ps × RDen (T_impl_SeqWorld_write_sg N).rs) ((w1, ()), ()))
      else
      (bif inz (5 : Int) then
        (some (α := ODen (T_impl_SeqWorld_write_sg N).ps × RDen (T_impl_SeqWorld_write_sg N).rs) (((iadd .i64 w1.1 (1 : Int), (w1.2.1, (irem (iadd .i64 w1.2.2.1 (1 : Int)) (5 : Int), w1.2.2.2))), ()), ())) else none))
    else
    (bif w1.2.2.1 == (1 : Int) then
      (bif inb w1.2.2.2.1 (List.length l2) then
        (bif inz (5 : Int) then
          (some (α := ODen (T_impl_SeqWorld_write_sg N).ps × RDen (T_impl_SeqWorld_write_sg N).rs) (((w1.1, (((List.getD l2 (Int.toNat w1.2.2.2.1) ((0 : Int), ((0 : Int), (0 : Int)))).1, w1.2.1.2), (irem (iadd .i64 w1.2.2.1 (1 : Int)) (5 : Int), w1.2.2.2))), ()), ())) else none) else none)
      else
      (bif w1.2.2.1 == (2 : Int) then
        (bif inb w1.2.2.2.1 (List.length l2) then
          (bif inz (5 : Int) then
            (some (α := ODen (T_impl_SeqWorld_write_sg N).ps × RDen (T_impl_SeqWorld_write_sg N).rs) (((w1.1, ((w1.2.1.1, ((List.getD l2 (Int.toNat w1.2.2.2.1) ((0 : Int), ((0 : Int), (0 : Int)))).2.1, w1.2.1.2.2)), (irem (iadd .i64 w1.2.2.1 (1 : Int)) (5 : Int), w1.2.2.2))), ()), ())) else none) else none)
        else
        (bif w1.2.2.1 == (3 : Int) then
          (bif inb w1.2.2.2.1 (List.length l2) then
            (bif inz (5 : Int) then
              (some (α := ODen (T_impl_SeqWorld_write_sg N).ps × RDen (T_impl_SeqWorld_write_sg N).rs) (((w1.1, ((w1.2.1.1, (w1.2.1.2.1, (List.getD l2 (Int.toNat w1.2.2.2.1) ((0 : Int), ((0 : Int), (0 : Int)))).2.2)), (irem (iadd .i64 w1.2.2.1 (1 : Int)) (5 : Int), w1.2.2.2))), ()), ())) else none) else none)
          else
          (bif w1.2.2.1 == (4 : Int) then
            (bif inz (5 : Int) then
              (some (α := ODen (T_impl_SeqWorld_write_sg N).ps × RDen (T_impl_SeqWorld_write_sg N).rs) (((iadd .i64 w1.1 (1 : Int), (w1.2.1, (irem (iadd .i64 w1.2.2.1 (1 : Int)) (5 : Int), (iadd .i64 w1.2.2.2.1 (1 : Int), w1.2.2.2.2)))), ()), ())) else none)
            else
            (bif inz (5 : Int) then
              (some (α := ODen (T_impl_SeqWorld_write_sg N).ps × RDen (T_impl_SeqWorld_write_sg N).rs) (((w1.1, (w1.2.1, (irem (iadd .i64 w1.2.2.1 (1 : Int)) (5 : Int), w1.2.2.2))), ()), ())) else none)))))) := by kernel_rfl

theorem T_impl_SeqWorld_write_ok (N : Nat) : chkBody Try.f57 (T_impl_SeqWorld_write_sg N).ps = true := by kernel_rfl

theorem T_impl_SeqWorld_write_callable : Callable Try.prog 57 := callable_of Try.func57 (show chkFn Try.f57 = true by kernel_rfl)

theorem T_impl_SeqWorld_write_good (N : Nat) : Good Try.prog 57 (T_impl_SeqWorld_write_sg N) :=
  good_body mixedOk tabOk ctx_nil Try.func57 (T_impl_SeqWorld_write_ok N) (fun d _ h => ⟨N, (T_impl_SeqWorld_write_den N d.1 d.2.1).trans h⟩)

noncomputable def T_impl_SeqWorld_read_sg (N : Nat) : Sig := Sig.of [.box (.prod (.int .i64) (.prod (.prod (.int .i64) (.prod (.int .i64) (.int .i64))) (.prod (.int .i64) (.prod (.int .i64) (.prod (.own (.prod (.int .i64) (.prod (.int .i64) (.prod (.prod (.int .i64) (.prod (.int .i64) (.int .i64))) (.int .i64))))) (.own (.prod (.int .i64) (.prod (.int .i64) (.prod (.int .i64) (.prod (.int .i64) (.int .i64))))))))))), .v (.int .i64) false] [] (fun d => T_impl_SeqWorld_read N d.1 d.2.1)

def T_impl_SeqWorld_read_ann : Nat → List Ghost
  | _ => []

noncomputable def T_impl_SeqWorld_read_ctx (N : Nat) : Ctx := []

theorem T_impl_SeqWorld_read_den (N : Nat) (w1 : Int × (Int × Int × Int) × Int × Int × List (Int × Int × (Int × Int × Int) × Int) × List (Int × Int × Int × Int × Int)) (k2 : Int) :
    den (R := ODen (T_impl_SeqWorld_read_sg N).ps × RDen (T_impl_SeqWorld_read_sg N).rs) tab (T_impl_SeqWorld_read_ctx N) T_impl_SeqWorld_read_ann N (T_impl_SeqWorld_read_sg N) Try.f59 (w1, k2, ()) some =
    (bif inb k2 (List.length w1.2.2.2.2.1) then
    (bif (List.getD w1.2.2.2.2.1 (Int.toNat k2) ((0 : Int), ((0 : Int), (((0 : Int), ((0 : Int), (0 : Int))), (0 : Int))))).1 == (0 : Int) then
      (bif inz (2 : Int) then
        (bif (irem w1.1 (2 : Int)) == (1 : Int) then
          (some (α := ODen (T_impl_SeqWorld_read_sg N).ps × RDen (T_impl_SeqWorld_read_sg N).rs) ((w1, ()), ()))
          else
          (some (α := ODen (T_impl_SeqWorld_read_sg N).ps × RDen (T_impl_SeqWorld_read_sg N).rs) (((w1.1, (w1.2.1, (w1.2.2.1, (w1.2.2.2.1, (List.set (List.set w1.2.2.2.2.1 (Int.toNat k2) ((List.getD w1.2.2.2.2.1 (Int.toNat k2) ((0 : Int), ((0 : Int), (((0 : Int), ((0 : Int), (0 : Int))), (0 : Int))))).1, (w1.1, (List.getD w1.2.2.2.2.1 (Int.toNat k2) ((0 : Int), ((0 : Int), (((0 : Int), ((0 : Int), (0 : Int))), (0 : Int))))).2.2))) (Int.toNat k2) (iadd .i64 (List.getD (List.set w1.2.2.2.2.1 (Int.toNat k2) ((List.getD w1.2.2.2.2.1 (Int.toNat k2) ((0 : Int), ((0 : Int), (((0 : Int), ((0 : Int), (0 : Int))), (0 : Int))))).1, (w1.1, (List.getD w1.2.2.2.2.1 (Int.toNat k2) ((0 : Int), ((0 : Int), (((0 : Int), ((0 : Int), (0 : Int))), (0 : Int))))).2.2))) (Int.toNat k2) ((0 : Int), ((0 : Int), (((0 : Int), ((0 : Int), (0 : Int))), (0 : Int))))).1 (1 : Int), (List.getD (List.set w1.2.2.2.2.1 (Int.toNat k2) ((List.getD w1.2.2.2.2.1 (Int.toNat k2) ((0 : Int), ((0 : Int), (((0 : Int), ((0 : Int), (0 : Int))), (0 : Int))))).1, (w1.1, (List.getD w1.2.2.2.2.1 (Int.toNat k2) ((0 : Int), ((0 : Int), (((0 : Int), ((0 : Int), (0 : Int))), (0 : Int))))).2.2))) (Int.toNat k2) ((0 : Int), ((0 : Int), (((0 : Int), ((0 : Int), (0 : Int))), (0 : Int))))).2), w1.2.2.2.2.2))))), ()), ()))) else none)
      else
      (bif (List.getD w1.2.2.2.2.1 (Int.toNat k2) ((0 : Int), ((0 : Int), (((0 : Int), ((0 : Int), (0 : Int))), (0 : Int))))).1 == (1 : Int) then
        (some (α := ODen (T_impl_SeqWorld_read_sg N).ps × RDen (T_impl_SeqWorld_read_sg N).rs) (((w1.1, (w1.2.1, (w1.2.2.1, (w1.2.2.2.1, (List.set (List.set w1.2.2.2.2.1 (Int.toNat k2) ((List.getD w1.2.2.2.2.1 (Int.toNat k2) ((0 : Int), ((0 : Int), (((0 : Int), ((0 : Int), (0 : Int))), (0 : Int))))).1, ((List.getD w1.2.2.2.2.1 (Int.toNat k2) ((0 : Int), ((0 : Int), (((0 : Int), ((0 : Int), (0 : Int))), (0 : Int))))).2.1, ((w1.2.1.1, (List.getD w1.2.2.2.2.1 (Int.toNat k2) ((0 : Int), ((0 : Int), (((0 : Int), ((0 : Int), (0 : Int))), (0 : Int))))).2.2.1.2), (List.getD w1.2.2.2.2.1 (Int.toNat k2) ((0 : Int), ((0 : Int), (((0 : Int), ((0 : Int), (0 : Int))), (0 : Int))))).2.2.2)))) (Int.toNat k2) (iadd .i64 (List.getD (List.set w1.2.2.2.2.1 (Int.toNat k2) ((List.getD w1.2.2.2.2.1 (Int.toNat k2) ((0 : Int), ((0 : Int), (((0 : Int), ((0 : Int), (0 : Int))), (0 : Int))))).1, ((List.getD w1.2.2.2.2.1 (Int.toNat k2) ((0 : Int), ((0 : Int), (((0 : Int), ((0 : Int), (0 : Int))), (0 : Int))))).2.1, ((w1.2.1.1, (List.getD w1.2.2.2.2.1 (Int.toNat k2) ((0 : Int), ((0 : Int), (((0 : Int), ((0 : Int), (0 : Int))), (0 : Int))))).2.2.1.2), (List.getD w1.2.2.2.2.1 (Int.toNat k2) ((0 : Int), ((0 : Int), (((0 : Int), ((0 : Int), (0 : Int))), (0 : Int))))).2.2.2)))) (Int.toNat k2) ((0 : Int), ((0 : Int), (((0 : Int), ((0 : Int), (0 : Int))), (0 : Int))))).1 (1 : Int), (List.getD (List.set w1.2.2.2.2.1 (Int.toNat k2) ((List.getD w1.2.2.2.2.1 (Int.toNat k2) ((0 : Int), ((0 : Int), (((0 : Int), ((0 : Int), (0 : Int))), (0 : Int))))).1, ((List.getD w1.2.2.2.2.1 (Int.toNat k2) ((0 : Int), ((0 : Int), (((0 : Int), ((0 : Int), (0 : Int))), (0 : Int))))).2.1, ((w1.2.1.1, (List.getD w1.2.2.2.2.1 (Int.toNat k2) ((0 : Int), ((0 : Int), (((0 : Int), ((0 : Int), (0 : Int))), (0 : Int))))).2.2.1.2), (List.getD w1.2.2.2.2.1 (Int.toNat k2) ((0 : Int), ((0 : Int), (((0 : Int), ((0 : Int), (0 : Int))), (0 : Int))))).2.2.2)))) (Int.toNat k2) ((0 : Int), ((0 : Int), (((0 : Int), ((0 : Int), (0 : Int))), (0 : Int))))).2), w1.2.2.2.2.2))))), ()), ()))
        else
        (bif (List.getD w1.2.2.2.2.1 (Int.toNat k2) ((0 : Int), ((0 : Int), (((0 : Int), ((0 : Int), (0 : Int))), (0 : Int))))).1 == (2 : Int) then
          (some (α := ODen (T_impl_SeqWorld_read_sg N).ps × RDen (T_impl_SeqWorld_read_sg N).rs) (((w1.1, (w1.2.1, (w1.2.2.1, (w1.2.2.2.1, (List.set (List.set w1.2.2.2.2.1 (Int.toNat k2) ((List.getD w1.2.2.2.2.1 (Int.toNat k2) ((0 : Int), ((0 : Int), (((0 : Int), ((0 : Int), (0 : Int))), (0 : Int))))).1, ((List.getD w1.2.2.2.2.1 (Int.toNat k2) ((0 : Int), ((0 : Int), (((0 : Int), ((0 : Int), (0 : Int))), (0 : Int))))).2.1, (((List.getD w1.2.2.2.2.1 (Int.toNat k2) ((0 : Int), ((0 : Int), (((0 : Int), ((0 : Int), (0 : Int))), (0 : Int))))).2.2.1.1, (w1.2.1.2.1, (List.getD w1.2.2.2.2.1 (Int.toNat k2) ((0 : Int), ((0 : Int), (((0 : Int), ((0 : Int), (0 : Int))), (0 : Int))))).2.2.1.2.2)), (List.getD w1.2.2.2.2.1 (Int.toNat k2) ((0 : Int), ((0 : Int), (((0 : Int), ((0 : Int), (0 : Int))), (0 : Int))))).2.2.2)))) (Int.toNat k2) (iadd .i64 (List.getD (List.set w1.2.2.2.2.1 (Int.toNat k2) ((List.getD w1.2.2.2.2.1 (Int.toNat k2) ((0 : Int), ((0 : Int), (((0 : Int), ((0 : Int), (0 : Int))), (0 : Int))))).1, ((List.getD w1.2.2.2.2.1 (Int.toNat k2) ((0 : Int), ((0 : Int), (((0 : Int), ((0 : Int), (0 : Int))), (0 : Int))))).2.1, (((List.getD w1.2.2.2.2.1 (Int.toNat k2) ((0 : Int), ((0 : Int), (((0 : Int), ((0 : Int), (0 : Int))), (0 : Int))))).2.2.1.1, (w1.2.1.2.1, (List.getD w1.2.2.2.2.1 (Int.toNat k2) ((0 : Int), ((0 : Int), (((0 : Int), ((0 : Int), (0 : Int))), (0 : Int))))).2.2.1.2.2)), (List.getD w1.2.2.2.2.1 (Int.toNat k2) ((0 : Int), ((0 : Int), (((0 : Int), ((0 : Int), (0 : Int))), (0 : Int))))).2.2.2)))) (Int.toNat k2) ((0 : Int), ((0 : Int), (((0 : Int), ((0 : Int), (0 : Int))), (0 : Int))))).1 (1 : Int), (List.getD (List.set w1.2.2.2.2.1 (Int.toNat k2) ((List.getD w1.2.2.2.2.1 (Int.toNat k2) ((0 : Int), ((0 : Int), (((0 : Int), ((0 : Int), (0 : Int))), (0 : Int))))).1, ((List.getD w1.2.2.2.2.1 (Int.toNat k2) ((0 : Int), ((0 : Int), (((0 : Int), ((0 : Int), (0 : Int))), (0 : Int))))).2.1, (((List.getD w1.2.2.2.2.1 (Int.toNat k2) ((0 : Int), ((0 : Int), (((0 : Int), ((0 : Int), (0 : Int))), (0 : Int))))).2.2.1.1, (w1.2.1.2.1, (List.getD w1.2.2.2.2.1 (Int.toNat k2) ((0 : Int), ((0 : Int), (((0 : Int), ((0 : Int), (0 : Int))), (0 : Int))))).2.2.1.2.2)), (List.getD w1.2.2.2.2.1 (Int.toNat k2) ((0 : Int), ((0 : Int), (((0 : Int), ((0 : Int), (0 : Int))), (0 : Int))))).2.2.2)))) (Int.toNat k2) ((0 : Int), ((0 : Int), (((0 : Int), ((0 : Int), (0 : Int))), (0 : Int))))).2), w1.2.2.2.2.2))))), ()), ()))
          else
          (bif (List.getD w1.2.2.2.2.1 (Int.toNat k2) ((0 : Int), ((0 : Int), (((0 : Int), ((0 : Int), (0 : Int))), (0 : Int))))).1 == (3 : Int) then
            (some (α := ODen (T_impl_SeqWorld_read_sg N).ps × RDen (T_impl_SeqWorld_read_sg N).rs) (((w1.1, (w1.2.1, (w1.2.2.1, (w1.2.2.2.1, (List.set (List.set w1.2.2.2.2.1 (Int.toNat k2) ((List.getD w1.2.2.2.2.1 (Int.toNat k2) ((0 : Int), ((0 : Int), (((0 : Int), ((0 : Int), (0 : Int))), (0 : Int))))).1, ((List.getD w1.2.2.2.2.1 (Int.toNat k2) ((0 : Int), ((0 : Int), (((0 : Int), ((0 : Int), (0 : Int))), (0 : Int))))).2.1, (((List.getD w1.2.2.2.2.1 (Int.toNat k2) ((0 : Int), ((0 : Int), (((0 : Int), ((0 : Int), (0 : Int))), (0 : Int))))).2.2.1.1, ((List.getD w1.2.2.2.2.1 (Int.toNat k2) ((0 : Int), ((0 : Int), (((0 : Int), ((0 : Int), (0 : Int))), (0 : Int))))).2.2.1.2.1, w1.2.1.2.2)), (List.getD w1.2.2.2.2.1 (Int.toNat k2) ((0 : Int), ((0 : Int), (((0 : Int), ((0 : Int), (0 : Int))), (0 : Int))))).2.2.2)))) (Int.toNat k2) (iadd .i64 (List.getD (List.set w1.2.2.2.2.1 (Int.toNat k2) ((List.getD w1.2.2.2.2.1 (Int.toNat k2) ((0 : Int), ((0 : Int), (((0 : Int), ((0 : Int), (0 : Int))), (0 : Int))))).1, ((List.getD w1.2.2.2.2.1 (Int.toNat k2) ((0 : Int), ((0 : Int), (((0 : Int), ((0 : Int), (0 : Int))), (0 : Int))))).2.1, (((List.getD w1.2.2.2.2.1 (Int.toNat k2) ((0 : Int), ((0 : Int), (((0 : Int), ((0 : Int), (0 : Int))), (0 : Int))))).2.2.1.1, ((List.getD w1.2.2.2.2.1 (Int.toNat k2) ((0 : Int), ((0 : Int), (((0 : Int), ((0 : Int), (0 : Int))), (0 : Int))))).2.2.1.2.1, w1.2.1.2.2)), (List.getD w1.2.2.2.2.1 (Int.toNat k2) ((0 : Int), ((0 : Int), (((0 : Int), ((0 : Int), (0 : Int))), (0 : Int))))).2.2.2)))) (Int.toNat k2) ((0 : Int), ((0 : Int), (((0 : Int), ((0 : Int), (0 : Int))), (0 : Int))))).1 (1 : Int), (List.getD (List.set w1.2.2.2.2.1 (Int.toNat k2) ((List.getD w1.2.2.2.2.1 (Int.toNat k2) ((0 : Int), ((0 : Int), (((0 : Int), ((0 : Int), (0 : Int))), (0 : Int))))).1, ((List.getD w1.2.2.2.2.1 (Int.toNat k2) ((0 : Int), ((0 : Int), (((0 : Int), ((0 : Int), (0 : Int))), (0 : Int))))).2.1, (((List.getD w1.2.2.2.2.1 (Int.toNat k2) ((0 : Int), ((0 : Int), (((0 : Int), ((0 : Int), (0 : Int))), (0 : Int))))).2.2.1.1, ((List.getD w1.2.2.2.2.1 (Int.toNat k2) ((0 : Int), ((0 : Int), (((0 : Int), ((0 : Int), (0 : Int))), (0 : Int))))).2.2.1.2.1, w1.2.1.2.2)), (List.getD w1.2.2.2.2.1 (Int.toNat k2) ((0 : Int), ((0 : Int), (((0 : Int), ((0 : Int), (0 : Int))), (0 : Int))))).2.2.2)))) (Int.toNat k2) ((0 : Int), ((0 : Int), (((0 : Int), ((0 : Int), (0 : Int))), (0 : Int))))).2), w1.2.2.2.2.2))))), ()), ()))
            else
            (bif (List.getD w1.2.2.2.2.1 (Int.toNat k2) ((0 : Int), ((0 : Int), (((0 : Int), ((0 : Int), (0 : Int))), (0 : Int))))).1 == (4 : Int) then
              (bif w1.1 == (List.getD w1.2.2.2.2.1 (Int.toNat k2) ((0 : Int), ((0 : Int), (((0 : Int), ((0 : Int), (0 : Int))), (0 : Int))))).2.1 then
                (bif room ((List.length w1.2.2.2.2.2) + (List.length ([(k2, ((List.getD w1.2.2.2.2.1 (Int.toNat k2) ((0 : Int), ((0 : Int), (((0 : Int), ((0 : Int), (0 : Int))), (0 : Int))))).2.1, (List.getD w1.2.2.2.2.1 (Int.toNat k2) ((0 : Int), ((0 : Int), (((0 : Int), ((0 : Int), (0 : Int))), (0 : Int))))).2.2.1))]))) then
                  (some (α := ODen (T_impl_SeqWorld_read_sg N).ps × RDen (T_impl_SeqWorld_read_sg N).rs) (((w1.1, (w1.2.1, (w1.2.2.1, (w1.2.2.2.1, (List.set w1.2.2.2.2.1 (Int.toNat k2) ((0 : Int), ((0 : Int), (((0 : Int), ((0 : Int), (0 : Int))), (List.getD w1.2.2.2.2.1 (Int.toNat k2) ((0 : Int), ((0 : Int), (((0 : Int), ((0 : Int), (0 : Int))), (0 : Int))))).2.2.2))), List.append w1.2.2.2.2.2 ([(k2, ((List.getD w1.2.2.2.2.1 (Int.toNat k2) ((0 : Int), ((0 : Int), (((0 : Int), ((0 : Int), (0 : Int))), (0 : Int))))).2.1, (List.getD w1.2.2.2.2.1 (Int.toNat k2) ((0 : Int), ((0 : Int), (((0 : Int), ((0 : Int), (0 : Int))), (0 : Int))))).2.2.1))])))))), ()), ())) else none)
                else
                (some (α := ODen (T_impl_SeqWorld_read_sg N).ps × RDen (T_impl_SeqWorld_read_sg N).rs) (((w1.1, (w1.2.1, (w1.2.2.1, (w1.2.2.2.1, (List.set w1.2.2.2.2.1 (Int.toNat k2) ((0 : Int), ((0 : Int), (((0 : Int), ((0 : Int), (0 : Int))), iadd .i64 (List.getD w1.2.2.2.2.1 (Int.toNat k2) ((0 : Int), ((0 : Int), (((0 : Int), ((0 : Int), (0 : Int))), (0 : Int))))).2.2.2 (1 : Int)))), w1.2.2.2.2.2))))), ()), ())))
              else
              (some (α := ODen (T_impl_SeqWorld_read_sg N).ps × RDen (T_impl_SeqWorld_read_sg N).rs) (((w1.1, (w1.2.1, (w1.2.2.1, (w1.2.2.2.1, (List.set w1.2.2.2.2.1 (Int.toNat k2) (iadd .i64 (List.getD w1.2.2.2.2.1 (Int.toNat k2) ((0 : Int), ((0 : Int), (((0 : Int), ((0 : Int), (0 : Int))), (0 : Int))))).1 (1 : Int), (List.getD w1.2.2.2.2.1 (Int.toNat k2) ((0 : Int), ((0 : Int), (((0 : Int), ((0 : Int), (0 : Int))), (0 : Int))))).2), w1.2.2.2.2.2))))), ()), ()))))))) else none) := by kernel_rfl

theorem T_impl_SeqWorld_read_ok (N : Nat) : chkBody Try.f59 (T_impl_SeqWorld_read_sg N).ps = true := by kernel_rfl

theorem T_impl_SeqWorld_read_callable : Callable Try.prog 59 := callable_of Try.func59 (show chkFn Try.f59 = true by kernel_rfl)

theorem T_impl_SeqWorld_read_good (N : Nat) : Good Try.prog 59 (T_impl_SeqWorld_read_sg N) :=
  good_body mixedOk tabOk ctx_nil Try.func59 (T_impl_SeqWorld_read_ok N) (fun d _ h => ⟨N, (T_impl_SeqWorld_read_den N d.1 d.2.1).trans h⟩)

noncomputable def T_impl_SeqPlay_sg (N : Nat) : Sig := Sig.of [.v (.prod (.int .i64) (.prod (.int .i64) (.int .i64))) true, .v (.slice (.prod (.int .i64) (.prod (.int .i64) (.int .i64)))) false, .v (.slice (.int .i64)) false] [.v (.prod (.int .i64) (.prod (.prod (.int .i64) (.prod (.int .i64) (.int .i64))) (.prod (.int .i64) (.prod (.int .i64) (.prod (.own (.prod (.int .i64) (.prod (.int .i64) (.prod (.prod (.int .i64) (.prod (.int .i64) (.int .i64))) (.int .i64))))) (.own (.prod (.int .i64) (.prod (.int .i64) (.prod (.int .i64) (.prod (.int .i64) (.int .i64))))))))))) true] (fun d => T_impl_SeqPlay N d.1 d.2.1 d.2.2.1)

def T_impl_SeqPlay_ann : Nat → List Ghost
  | 5 => [.canon [1, 6, 7, 27, 28, 29, 30]]
  | 6 => [.canon [1, 6, 7, 9, 27, 28, 29]]
  | 7 => [.canon [1, 6, 7, 9, 27, 28, 29, 33]]
  | 8 => [.canon [1, 6, 7, 27, 28, 29]]
  | 9 => [.canon [1, 6, 7, 9, 27, 28, 29, 38]]
  | 10 => [.canon [1, 6, 7, 27, 28, 29]]
  | 11 => [.canon [1, 6, 7, 27, 28, 29]]
  | 100005 => [.adoptC 7 7 (.prod (.int .i64) (.prod (.int .i64) (.prod (.int .i64) (.prod (.int .i64) (.int .i64))))), .canon [1, 6, 7, 27, 28, 29]]
  | _ => []

noncomputable def T_impl_SeqPlay_ctx (N : Nat) : Ctx := [(55, T_impl_isTriple_sg N), (56, T_impl_TriplesOk_sg N), (57, T_impl_SeqWorld_write_sg N), (58, T_impl_within_sg N), (59, T_impl_SeqWorld_read_sg N)]

def T_impl_SeqPlay_lp0_sh (l6 : List (Int × Int × Int)) (t7 : List Int) (t9 : Int) (b16 : Int) (b17 : Int) (b18 : Int) (b19 : Int) (b20 : Int) (b21 : Int) (l22 : List (Int × Int × (Int × Int × Int) × Int)) (l23 : List (Int × Int × Int × Int × Int)) : St := { env := [(1, .s (.one (.val (.slice (.prod (.int .i64) (.prod (.int .i64) (.int .i64)))) (l6 : List (Int × Int × Int))))), (6, .s (.one (.ptr 0 0))), (7, .s (.one (.ptr 1 0))), (27, .s (.one (.val (.slice (.int .i64)) (t7 : List Int)))), (28, .s (.one (.val (.int .i64) (ilen t7 : Int)))), (29, .s (.one (.val (.int .i64) (t9 : Int))))], objs := [(0, .box [.val (.int .i64) ((0 : Int) : Int), .val (.int .i64) ((0 : Int) : Int), .val (.int .i64) ((0 : Int) : Int), .val (.int .i64) ((0 : Int) : Int), .val (.int .i64) ((0 : Int) : Int), .val (.int .i64) ((0 : Int) : Int), .nils, .nils]), (1, .box [.val (.int .i64) (b16 : Int), .val (.int .i64) (b17 : Int), .val (.int .i64) (b18 : Int), .val (.int .i64) (b19 : Int), .val (.int .i64) (b20 : Int), .val (.int .i64) (b21 : Int), .own 2, .own 3]), (2, .arr (.prod (.int .i64) (.prod (.int .i64) (.prod (.prod (.int .i64) (.prod (.int .i64) (.int .i64))) (.int .i64)))) (l22 : List (Int × Int × (Int × Int × Int) × Int))), (3, .arr (.prod (.int .i64) (.prod (.int .i64) (.prod (.int .i64) (.prod (.int .i64) (.int .i64))))) (l23 : List (Int × Int × Int × Int × Int)))], nx := 4 }

def T_impl_SeqPlay_lp0_e0 (l6 : List (Int × Int × Int)) (t7 : List Int) (t30 : Int) (t31 : Bool) (b32 : Int) (b33 : Int) (b34 : Int) (b35 : Int) (b36 : Int) (b37 : Int) (l38 : List (Int × Int × (Int × Int × Int) × Int)) (l39 : List (Int × Int × Int × Int × Int)) : St := { env := [(1, .s (.one (.val (.slice (.prod (.int .i64) (.prod (.int .i64) (.int .i64)))) (l6 : List (Int × Int × Int))))), (6, .s (.one (.ptr 0 0))), (7, .s (.one (.ptr 1 0))), (27, .s (.one (.val (.slice (.int .i64)) (t7 : List Int)))), (28, .s (.one (.val (.int .i64) (ilen t7 : Int)))), (29, .s (.one (.val (.int .i64) (t30 : Int)))), (30, .s (.one (.val (.bool) (t31 : Bool))))], objs := [(0, .box [.val (.int .i64) ((0 : Int) : Int), .val (.int .i64) ((0 : Int) : Int), .val (.int .i64) ((0 : Int) : Int), .val (.int .i64) ((0 : Int) : Int), .val (.int .i64) ((0 : Int) : Int), .val (.int .i64) ((0 : Int) : Int), .nils, .nils]), (1, .box [.val (.int .i64) (b32 : Int), .val (.int .i64) (b33 : Int), .val (.int .i64) (b34 : Int), .val (.int .i64) (b35 : Int), .val (.int .i64) (b36 : Int), .val (.int .i64) (b37 : Int), .own 2, .own 3]), (2, .arr (.prod (.int .i64) (.prod (.int .i64) (.prod (.prod (.int .i64) (.prod (.int .i64) (.int .i64))) (.int .i64)))) (l38 : List (Int × Int × (Int × Int × Int) × Int))), (3, .arr (.prod (.int .i64) (.prod (.int .i64) (.prod (.int .i64) (.prod (.int .i64) (.int .i64))))) (l39 : List (Int × Int × Int × Int × Int)))], nx := 4 }

noncomputable def T_impl_SeqPlay_lp0_m (N : Nat) {R : Type} (n : Nat) (st : St) (K : Ex → St → Option R) : Option R := loopN (roundG (T_impl_SeqPlay_ann 100005) fun st k => sx tab (T_impl_SeqPlay_ctx N) T_impl_SeqPlay_ann N (nthLoop Try.f24 0) st k) n st K

theorem T_impl_SeqPlay_lp0_step (N : Nat) {R : Type} (n : Nat) (K : Ex → St → Option R) (l6 : List (Int × Int × Int)) (t7 : List Int) (t9 : Int) (b16 : Int) (b17 : Int) (b18 : Int) (b19 : Int) (b20 : Int) (b21 : Int) (l22 : List (Int × Int × (Int × Int × Int) × Int)) (l23 : List (Int × Int × Int × Int × Int)) :
    T_impl_SeqPlay_lp0_m N (n + 1) (T_impl_SeqPlay_lp0_sh l6 t7 t9 b16 b17 b18 b19 b20 b21 l22 l23) K =
    (bif decide (t9 < (ilen t7)) then
    (bif inb t9 (List.length t7) then
      (bif (List.getD t7 (Int.toNat t9) (0 : Int)) == (0 : Int) then
        ((T_impl_SeqWorld_write N (b16, ((b17, (b18, b19)), (b20, (b21, (l22, l23))))) l6).bind fun o40 =>
          (T_impl_SeqPlay_lp0_m N n (T_impl_SeqPlay_lp0_sh l6 t7 (iadd .i64 t9 (1 : Int)) o40.1.1.1 o40.1.1.2.1.1 o40.1.1.2.1.2.1 o40.1.1.2.1.2.2 o40.1.1.2.2.1 o40.1.1.2.2.2.1 o40.1.1.2.2.2.2.1 o40.1.1.2.2.2.2.2) K))
        else
        ((T_impl_within N (List.getD t7 (Int.toNat t9) (0 : Int)) (1 : Int) (3 : Int)).bind fun o41 =>
          (bif o41.2.1 then
            ((T_impl_SeqWorld_read N (b16, ((b17, (b18, b19)), (b20, (b21, (l22, l23))))) (isub .i64 (List.getD t7 (Int.toNat t9) (0 : Int)) (1 : Int))).bind fun o42 =>
              (T_impl_SeqPlay_lp0_m N n (T_impl_SeqPlay_lp0_sh l6 t7 (iadd .i64 t9 (1 : Int)) o42.1.1.1 o42.1.1.2.1.1 o42.1.1.2.1.2.1 o42.1.1.2.1.2.2 o42.1.1.2.2.1 o42.1.1.2.2.2.1 o42.1.1.2.2.2.2.1 o42.1.1.2.2.2.2.2) K))
            else
            (T_impl_SeqPlay_lp0_m N n (T_impl_SeqPlay_lp0_sh l6 t7 (iadd .i64 t9 (1 : Int)) b16 b17 b18 b19 b20 b21 l22 l23) K)))) else none)
    else
    (K (.exit 0) (T_impl_SeqPlay_lp0_e0 l6 t7 t9 (decide (t9 < (ilen t7))) b16 b17 b18 b19 b20 b21 l22 l23))) := by kernel_rfl

theorem T_impl_SeqPlay_lp0_eq (N : Nat) {R : Type} (l6 : List (Int × Int × Int)) (t7 : List Int) (K : Ex → St → Option R) : ∀ (n : Nat) (t9 : Int) (b16 : Int) (b17 : Int) (b18 : Int) (b19 : Int) (b20 : Int) (b21 : Int) (l22 : List (Int × Int × (Int × Int × Int) × Int)) (l23 : List (Int × Int × Int × Int × Int)), T_impl_SeqPlay_lp0_m N n (T_impl_SeqPlay_lp0_sh l6 t7 t9 b16 b17 b18 b19 b20 b21 l22 l23) K = T_impl_SeqPlay_lp0 N l6 t7 (fun t30 t31 b32 b33 b34 b35 b36 b37 l38 l39 => (K (.exit 0) (T_impl_SeqPlay_lp0_e0 l6 t7 t30 t31 b32 b33 b34 b35 b36 b37 l38 l39))) n t9 b16 b17 b18 b19 b20 b21 l22 l23
  | 0, _, _, _, _, _, _, _, _, _ => rfl
  | n + 1, t9, b16, b17, b18, b19, b20, b21, l22, l23 => by rw [T_impl_SeqPlay_lp0_step, T_impl_SeqPlay_lp0]; (try simp only [T_impl_SeqPlay_lp0_eq N l6 t7 K n])

theorem T_impl_SeqPlay_c1 (N : Nat) (l2 : List (Int × Int × Int)) (acts3 : List Int) (t43 : Int) (t44 : Bool) (b45 : Int) (b46 : Int) (b47 : Int) (b48 : Int) (b49 : Int) (b50 : Int) (l51 : List (Int × Int × (Int × Int × Int) × Int)) (l52 : List (Int × Int × Int × Int × Int)) :
    ((ctxK (R := ODen (T_impl_SeqPlay_sg N).ps × RDen (T_impl_SeqPlay_sg N).rs) tab (T_impl_SeqPlay_ctx N) T_impl_SeqPlay_ann N (theCode Try.f24) [1, 1, 1, 0, 1, 0] (retK tab (T_impl_SeqPlay_sg N) Try.f24.results.toList some)) (.exit 0) (T_impl_SeqPlay_lp0_e0 l2 acts3 t43 t44 b45 b46 b47 b48 b49 b50 l51 l52)) =
    (some (α := ODen (T_impl_SeqPlay_sg N).ps × RDen (T_impl_SeqPlay_sg N).rs) ((), ((b45, ((b46, (b47, b48)), (b49, (b50, (l51, l52))))), ()))) := by kernel_rfl

theorem T_impl_SeqPlay_c2 (N : Nat) (l2 : List (Int × Int × Int)) (acts3 : List Int) (t53 : Int) (t54 : Bool) (b55 : Int) (b56 : Int) (b57 : Int) (b58 : Int) (b59 : Int) (b60 : Int) (l61 : List (Int × Int × (Int × Int × Int) × Int)) (l62 : List (Int × Int × Int × Int × Int)) :
    ((ctxK (R := ODen (T_impl_SeqPlay_sg N).ps × RDen (T_impl_SeqPlay_sg N).rs) tab (T_impl_SeqPlay_ctx N) T_impl_SeqPlay_ann N (theCode Try.f24) [1, 1, 1, 0, 1, 0] (retK tab (T_impl_SeqPlay_sg N) Try.f24.results.toList some)) (.exit 0) (T_impl_SeqPlay_lp0_e0 l2 acts3 t53 t54 b55 b56 b57 b58 b59 b60 l61 l62)) =
    (some (α := ODen (T_impl_SeqPlay_sg N).ps × RDen (T_impl_SeqPlay_sg N).rs) ((), ((b55, ((b56, (b57, b58)), (b59, (b60, (l61, l62))))), ()))) := by kernel_rfl

theorem T_impl_SeqPlay_den (N : Nat) (start1 : Int × Int × Int) (l2 : List (Int × Int × Int)) (acts3 : List Int) :
    den (R := ODen (T_impl_SeqPlay_sg N).ps × RDen (T_impl_SeqPlay_sg N).rs) tab (T_impl_SeqPlay_ctx N) T_impl_SeqPlay_ann N (T_impl_SeqPlay_sg N) Try.f24 (start1, l2, acts3, ()) some =
    ((T_impl_isTriple N start1).bind fun o4 =>
    (bif !o4.2.1 then
      (some (α := ODen (T_impl_SeqPlay_sg N).ps × RDen (T_impl_SeqPlay_sg N).rs) ((), (((0 : Int), (((0 : Int), ((0 : Int), (0 : Int))), ((0 : Int), ((0 : Int), (([] : List (Int × Int × (Int × Int × Int) × Int)), ([] : List (Int × Int × Int × Int × Int))))))), ())))
      else
      ((T_impl_TriplesOk N l2).bind fun o5 =>
        (bif !o5.2.1 then
          (some (α := ODen (T_impl_SeqPlay_sg N).ps × RDen (T_impl_SeqPlay_sg N).rs) ((), (((0 : Int), (((0 : Int), ((0 : Int), (0 : Int))), ((0 : Int), ((0 : Int), (([] : List (Int × Int × (Int × Int × Int) × Int)), ([] : List (Int × Int × Int × Int × Int))))))), ())))
          else
          (bif decide ((ilen acts3) > (200 : Int)) then
            (some (α := ODen (T_impl_SeqPlay_sg N).ps × RDen (T_impl_SeqPlay_sg N).rs) ((), (((0 : Int), (((0 : Int), ((0 : Int), (0 : Int))), ((0 : Int), ((0 : Int), (([] : List (Int × Int × (Int × Int × Int) × Int)), ([] : List (Int × Int × Int × Int × Int))))))), ())))
            else
            (both
              (bif ((decide ((0 : Int) ≤ (3 : Int))) && (decide ((3 : Int) ≤ (3 : Int)))) && (room (Int.toNat (3 : Int))) then
                (T_impl_SeqPlay_lp0 N l2 acts3
                  (fun t43 t44 b45 b46 b47 b48 b49 b50 l51 l52 =>
                    (some (α := ODen (T_impl_SeqPlay_sg N).ps × RDen (T_impl_SeqPlay_sg N).rs) ((), ((b45, ((b46, (b47, b48)), (b49, (b50, (l51, l52))))), ()))))
                   N (0 : Int) (0 : Int) start1.1 start1.2.1 start1.2.2 (0 : Int) (0 : Int) (List.replicate (Int.toNat (3 : Int)) ((0 : Int), ((0 : Int), (((0 : Int), ((0 : Int), (0 : Int))), (0 : Int))))) ([] : List (Int × Int × Int × Int × Int))) else none)
              (bif ((decide ((0 : Int) ≤ (3 : Int))) && (decide ((3 : Int) ≤ (3 : Int)))) && (room (Int.toNat (3 : Int))) then
                (T_impl_SeqPlay_lp0 N l2 acts3
                  (fun t53 t54 b55 b56 b57 b58 b59 b60 l61 l62 =>
                    (some (α := ODen (T_impl_SeqPlay_sg N).ps × RDen (T_impl_SeqPlay_sg N).rs) ((), ((b55, ((b56, (b57, b58)), (b59, (b60, (l61, l62))))), ()))))
                   N (0 : Int) (0 : Int) start1.1 start1.2.1 start1.2.2 (0 : Int) (0 : Int) (List.replicate (Int.toNat (3 : Int)) ((0 : Int), ((0 : Int), (((0 : Int), ((0 : Int), (0 : Int))), (0 : Int))))) ([] : List (Int × Int × Int × Int × Int))) else none))))))) := by
  have h : den (R := ODen (T_impl_SeqPlay_sg N).ps × RDen (T_impl_SeqPlay_sg N).rs) tab (T_impl_SeqPlay_ctx N) T_impl_SeqPlay_ann N (T_impl_SeqPlay_sg N) Try.f24 (start1, l2, acts3, ()) some =
    ((T_impl_isTriple N start1).bind fun o4 =>
    (bif !o4.2.1 then
      (some (α := ODen (T_impl_SeqPlay_sg N).ps × RDen (T_impl_SeqPlay_sg N).rs) ((), (((0 : Int), (((0 : Int), ((0 : Int), (0 : Int))), ((0 : Int), ((0 : Int), (([] : List (Int × Int × (Int × Int × Int) × Int)), ([] : List (Int × Int × Int × Int × Int))))))), ())))
      else
      ((T_impl_TriplesOk N l2).bind fun o5 =>
        (bif !o5.2.1 then
          (some (α := ODen (T_impl_SeqPlay_sg N).ps × RDen (T_impl_SeqPlay_sg N).rs) ((), (((0 : Int), (((0 : Int), ((0 : Int), (0 : Int))), ((0 : Int), ((0 : Int), (([] : List (Int × Int × (Int × Int × Int) × Int)), ([] : List (Int × Int × Int × Int × Int))))))), ())))
          else
          (bif decide ((ilen acts3) > (200 : Int)) then
            (some (α := ODen (T_impl_SeqPlay_sg N).ps × RDen (T_impl_SeqPlay_sg N).rs) ((), (((0 : Int), (((0 : Int), ((0 : Int), (0 : Int))), ((0 : Int), ((0 : Int), (([] : List (Int × Int × (Int × Int × Int) × Int)), ([] : List (Int × Int × Int × Int × Int))))))), ())))
            else
            (both
              (bif ((decide ((0 : Int) ≤ (3 : Int))) && (decide ((3 : Int) ≤ (3 : Int)))) && (room (Int.toNat (3 : Int))) then
                (T_impl_SeqPlay_lp0_m N N (T_impl_SeqPlay_lp0_sh l2 acts3 (0 : Int) (0 : Int) start1.1 start1.2.1 start1.2.2 (0 : Int) (0 : Int) (List.replicate (Int.toNat (3 : Int)) ((0 : Int), ((0 : Int), (((0 : Int), ((0 : Int), (0 : Int))), (0 : Int))))) ([] : List (Int × Int × Int × Int × Int))) (ctxK (R := ODen (T_impl_SeqPlay_sg N).ps × RDen (T_impl_SeqPlay_sg N).rs) tab (T_impl_SeqPlay_ctx N) T_impl_SeqPlay_ann N (theCode Try.f24) [1, 1, 1, 0, 1, 0] (retK tab (T_impl_SeqPlay_sg N) Try.f24.results.toList some))) else none)
              (bif ((decide ((0 : Int) ≤ (3 : Int))) && (decide ((3 : Int) ≤ (3 : Int)))) && (room (Int.toNat (3 : Int))) then
                (T_impl_SeqPlay_lp0_m N N (T_impl_SeqPlay_lp0_sh l2 acts3 (0 : Int) (0 : Int) start1.1 start1.2.1 start1.2.2 (0 : Int) (0 : Int) (List.replicate (Int.toNat (3 : Int)) ((0 : Int), ((0 : Int), (((0 : Int), ((0 : Int), (0 : Int))), (0 : Int))))) ([] : List (Int × Int × Int × Int × Int))) (ctxK (R := ODen (T_impl_SeqPlay_sg N).ps × RDen (T_impl_SeqPlay_sg N).rs) tab (T_impl_SeqPlay_ctx N) T_impl_SeqPlay_ann N (theCode Try.f24) [1, 1, 1, 0, 1, 0] (retK tab (T_impl_SeqPlay_sg N) Try.f24.results.toList some))) else none))))))) := by kernel_rfl
  rw [h]
  (try simp only [T_impl_SeqPlay_lp0_eq, T_impl_SeqPlay_c1, T_impl_SeqPlay_c2]) <;> rfl

theorem T_impl_SeqPlay_ok (N : Nat) : chkBody Try.f24 (T_impl_SeqPlay_sg N).ps = true := by kernel_rfl

theorem T_impl_SeqPlay_callable : Callable Try.prog 24 := callable_of Try.func24 (show chkFn Try.f24 = true by kernel_rfl)

theorem T_impl_SeqPlay_good (N : Nat) : Good Try.prog 24 (T_impl_SeqPlay_sg N) :=
  good_body mixedOk tabOk (ctx_cons (T_impl_isTriple_good N) T_impl_isTriple_callable (ctx_cons (T_impl_TriplesOk_good N) T_impl_TriplesOk_callable (ctx_cons (T_impl_SeqWorld_write_good N) T_impl_SeqWorld_write_callable (ctx_cons (T_impl_within_good N) T_impl_within_callable (ctx_cons (T_impl_SeqWorld_read_good N) T_impl_SeqWorld_read_callable ctx_nil))))) Try.func24 (T_impl_SeqPlay_ok N) (fun d _ h => ⟨N, (T_impl_SeqPlay_den N d.1 d.2.1 d.2.2.1).trans h⟩)

noncomputable def T_spec_l1In_sg (N : Nat) : Sig := Sig.of [.v (.int .i64) false, .v (.int .i64) false, .v (.int .i64) false] [.v (.bool) false] (fun d => T_spec_l1In N d.1 d.2.1 d.2.2.1)

def T_spec_l1In_ann : Nat → List Ghost
  | _ => []

noncomputable def T_spec_l1In_ctx (N : Nat) : Ctx := []

theorem T_spec_l1In_den (N : Nat) (x1 : Int) (low2 : Int) (high3 : Int) :
    den (R := ODen (T_spec_l1In_sg N).ps × RDen (T_spec_l1In_sg N).rs) tab (T_spec_l1In_ctx N) T_spec_l1In_ann N (T_spec_l1In_sg N) Try.f82 (x1, low2, high3, ()) some =
    (bif decide (x1 ≥ low2) then
    (some (α := ODen (T_spec_l1In_sg N).ps × RDen (T_spec_l1In_sg N).rs) ((), (decide (x1 ≤ high3), ())))
    else
    (some (α := ODen (T_spec_l1In_sg N).ps × RDen (T_spec_l1In_sg N).rs) ((), (false, ())))) := by kernel_rfl

theorem T_spec_l1In_ok (N : Nat) : chkBody Try.f82 (T_spec_l1In_sg N).ps = true := by kernel_rfl

theorem T_spec_l1In_callable : Callable Try.prog 82 := callable_of Try.func82 (show chkFn Try.f82 = true by kernel_rfl)

theorem T_spec_l1In_good (N : Nat) : Good Try.prog 82 (T_spec_l1In_sg N) :=
  good_body mixedOk tabOk ctx_nil Try.func82 (T_spec_l1In_ok N) (fun d _ h => ⟨N, (T_spec_l1In_den N d.1 d.2.1 d.2.2.1).trans h⟩)

noncomputable def T_spec_l3Val_sg (N : Nat) : Sig := Sig.of [.v (.int .i64) false] [.v (.bool) false] (fun d => T_spec_l3Val N d.1)

def T_spec_l3Val_ann : Nat → List Ghost
  | _ => []

noncomputable def T_spec_l3Val_ctx (N : Nat) : Ctx := [(82, T_spec_l1In_sg N)]

theorem T_spec_l3Val_den (N : Nat) (v1 : Int) :
    den (R := ODen (T_spec_l3Val_sg N).ps × RDen (T_spec_l3Val_sg N).rs) tab (T_spec_l3Val_ctx N) T_spec_l3Val_ann N (T_spec_l3Val_sg N) Try.f83 (v1, ()) some =
    ((T_spec_l1In N v1 (0 : Int) (65535 : Int)).bind fun o2 =>
    (some (α := ODen (T_spec_l3Val_sg N).ps × RDen (T_spec_l3Val_sg N).rs) ((), (o2.2.1, ())))) := by kernel_rfl

theorem T_spec_l3Val_ok (N : Nat) : chkBody Try.f83 (T_spec_l3Val_sg N).ps = true := by kernel_rfl

theorem T_spec_l3Val_callable : Callable Try.prog 83 := callable_of Try.func83 (show chkFn Try.f83 = true by kernel_rfl)

theorem T_spec_l3Val_good (N : Nat) : Good Try.prog 83 (T_spec_l3Val_sg N) :=
  good_body mixedOk tabOk (ctx_cons (T_spec_l1In_good N) T_spec_l1In_callable ctx_nil) Try.func83 (T_spec_l3Val_ok N) (fun d _ h => ⟨N, (T_spec_l3Val_den N d.1).trans h⟩)

noncomputable def T_spec_l25Ok_sg (N : Nat) : Sig := Sig.of [.v (.prod (.int .i64) (.prod (.int .i64) (.int .i64))) true] [.v (.bool) false] (fun d => T_spec_l25Ok N d.1)

def T_spec_l25Ok_ann : Nat → List Ghost
  | _ => []

noncomputable def T_spec_l25Ok_ctx (N : Nat) : Ctx := [(83, T_spec_l3Val_sg N)]

theorem T_spec_l25Ok_den (N : Nat) (t1 : Int × Int × Int) :
    den (R := ODen (T_spec_l25Ok_sg N).ps × RDen (T_spec_l25Ok_sg N).rs) tab (T_spec_l25Ok_ctx N) T_spec_l25Ok_ann N (T_spec_l25Ok_sg N) Try.f60 (t1, ()) some =
    ((T_spec_l3Val N t1.1).bind fun o2 =>
    (bif o2.2.1 then
      ((T_spec_l3Val N t1.2.1).bind fun o3 =>
        (bif o3.2.1 then
          ((T_spec_l3Val N t1.2.2).bind fun o4 =>
            (some (α := ODen (T_spec_l25Ok_sg N).ps × RDen (T_spec_l25Ok_sg N).rs) ((), (o4.2.1, ()))))
          else
          (some (α := ODen (T_spec_l25Ok_sg N).ps × RDen (T_spec_l25Ok_sg N).rs) ((), (false, ())))))
      else
      (some (α := ODen (T_spec_l25Ok_sg N).ps × RDen (T_spec_l25Ok_sg N).rs) ((), (false, ()))))) := by kernel_rfl

theorem T_spec_l25Ok_ok (N : Nat) : chkBody Try.f60 (T_spec_l25Ok_sg N).ps = true := by kernel_rfl

theorem T_spec_l25Ok_callable : Callable Try.prog 60 := callable_of Try.func60 (show chkFn Try.f60 = true by kernel_rfl)

theorem T_spec_l25Ok_good (N : Nat) : Good Try.prog 60 (T_spec_l25Ok_sg N) :=
  good_body mixedOk tabOk (ctx_cons (T_spec_l3Val_good N) T_spec_l3Val_callable ctx_nil) Try.func60 (T_spec_l25Ok_ok N) (fun d _ h => ⟨N, (T_spec_l25Ok_den N d.1).trans h⟩)

noncomputable def T_spec_TriplesOk_sg (N : Nat) : Sig := Sig.of [.v (.slice (.prod (.int .i64) (.prod (.int .i64) (.int .i64)))) false] [.v (.bool) false] (fun d => T_spec_TriplesOk N d.1)

def T_spec_TriplesOk_ann : Nat → List Ghost
  | 4 => [.canon [0, 3, 10]]
  | 5 => [.canon [0, 3]]
  | 6 => [.canon [0, 3, 18]]
  | 7 => [.canon [2]]
  | 100004 => [.canon [0, 3]]
  | _ => []

noncomputable def T_spec_TriplesOk_ctx (N : Nat) : Ctx := [(60, T_spec_l25Ok_sg N)]

def T_spec_TriplesOk_lp0_sh (l2 : List (Int × Int × Int)) (i3 : Int) : St := { env := [(0, .s (.one (.val (.slice (.prod (.int .i64) (.prod (.int .i64) (.int .i64)))) (l2 : List (Int × Int × Int))))), (3, .s (.one (.val (.int .i64) (i3 : Int))))], objs := [], nx := 0 }

def T_spec_TriplesOk_lp0_e0 (l2 : List (Int × Int × Int)) : St := { env := [(2, .s (.one (.val (.bool) (false : Bool))))], objs := [], nx := 0 }

def T_spec_TriplesOk_lp0_e1 (l2 : List (Int × Int × Int)) (i5 : Int) (t6 : Bool) : St := { env := [(0, .s (.one (.val (.slice (.prod (.int .i64) (.prod (.int .i64) (.int .i64)))) (l2 : List (Int × Int × Int))))), (3, .s (.one (.val (.int .i64) (i5 : Int)))), (10, .s (.one (.val (.bool) (t6 : Bool))))], objs := [], nx := 0 }

noncomputable def T_spec_TriplesOk_lp0_m (N : Nat) {R : Type} (n : Nat) (st : St) (K : Ex → St → Option R) : Option R := loopN (roundG (T_spec_TriplesOk_ann 100004) fun st k => sx tab (T_spec_TriplesOk_ctx N) T_spec_TriplesOk_ann N (nthLoop Try.f25 0) st k) n st K

theorem T_spec_TriplesOk_lp0_step (N : Nat) {R : Type} (n : Nat) (K : Ex → St → Option R) (l2 : List (Int × Int × Int)) (i3 : Int) :
    T_spec_TriplesOk_lp0_m N (n + 1) (T_spec_TriplesOk_lp0_sh l2 i3) K =
    (bif decide (i3 < (ilen l2)) then
    (bif inb i3 (List.length l2) then
      ((T_spec_l25Ok N (List.getD l2 (Int.toNat i3) ((0 : Int), ((0 : Int), (0 : Int))))).bind fun o7 =>
        (bif !o7.2.1 then
          (K .ret (T_spec_TriplesOk_lp0_e0 l2))
          else
          (T_spec_TriplesOk_lp0_m N n (T_spec_TriplesOk_lp0_sh l2 (iadd .i64 i3 (1 : Int))) K))) else none)
    else
    (K (.exit 0) (T_spec_TriplesOk_lp0_e1 l2 i3 (decide (i3 < (ilen l2)))))) := by kernel_rfl

theorem T_spec_TriplesOk_lp0_eq (N : Nat) {R : Type} (l2 : List (Int × Int × Int)) (K : Ex → St → Option R) : ∀ (n : Nat) (i3 : Int), T_spec_TriplesOk_lp0_m N n (T_spec_TriplesOk_lp0_sh l2 i3) K = T_spec_TriplesOk_lp0 N l2 (K .ret (T_spec_TriplesOk_lp0_e0 l2)) (fun i5 t6 => (K (.exit 0) (T_spec_TriplesOk_lp0_e1 l2 i5 t6))) n i3
  | 0, _ => rfl
  | n + 1, i3 => by rw [T_spec_TriplesOk_lp0_step, T_spec_TriplesOk_lp0]; (try simp only [T_spec_TriplesOk_lp0_eq N l2 K n])

theorem T_spec_TriplesOk_c1 (N : Nat) (l1 : List (Int × Int × Int)) :
    ((ctxK (R := ODen (T_spec_TriplesOk_sg N).ps × RDen (T_spec_TriplesOk_sg N).rs) tab (T_spec_TriplesOk_ctx N) T_spec_TriplesOk_ann N (theCode Try.f25) [1, 1, 0, 1, 0] (retK tab (T_spec_TriplesOk_sg N) Try.f25.results.toList some)) .ret (T_spec_TriplesOk_lp0_e0 l1)) =
    (some (α := ODen (T_spec_TriplesOk_sg N).ps × RDen (T_spec_TriplesOk_sg N).rs) ((), (false, ()))) := by kernel_rfl

theorem T_spec_TriplesOk_c2 (N : Nat) (l1 : List (Int × Int × Int)) (i8 : Int) (t9 : Bool) :
    ((ctxK (R := ODen (T_spec_TriplesOk_sg N).ps × RDen (T_spec_TriplesOk_sg N).rs) tab (T_spec_TriplesOk_ctx N) T_spec_TriplesOk_ann N (theCode Try.f25) [1, 1, 0, 1, 0] (retK tab (T_spec_TriplesOk_sg N) Try.f25.results.toList some)) (.exit 0) (T_spec_TriplesOk_lp0_e1 l1 i8 t9)) =
    (some (α := ODen (T_spec_TriplesOk_sg N).ps × RDen (T_spec_TriplesOk_sg N).rs) ((), (true, ()))) := by kernel_rfl

theorem T_spec_TriplesOk_den (N : Nat) (l1 : List (Int × Int × Int)) :
    den (R := ODen (T_spec_TriplesOk_sg N).ps × RDen (T_spec_TriplesOk_sg N).rs) tab (T_spec_TriplesOk_ctx N) T_spec_TriplesOk_ann N (T_spec_TriplesOk_sg N) Try.f25 (l1, ()) some =
    (bif decide ((ilen l1) > (20 : Int)) then
    (some (α := ODen (T_spec_TriplesOk_sg N).ps × RDen (T_spec_TriplesOk_sg N).rs) ((), (false, ())))
    else
    (T_spec_TriplesOk_lp0 N l1
      (some (α := ODen (T_spec_TriplesOk_sg N).ps × RDen (T_spec_TriplesOk_sg N).rs) ((), (false, ())))
      (fun i8 t9 =>
        (some (α := ODen (T_spec_TriplesOk_sg N).ps × RDen (T_spec_TriplesOk_sg N).rs) ((), (true, ()))))
       N (0 : Int))) := by
  have h : den (R := ODen (T_spec_TriplesOk_sg N).ps × RDen (T_spec_TriplesOk_sg N).rs) tab (T_spec_TriplesOk_ctx N) T_spec_TriplesOk_ann N (T_spec_TriplesOk_sg N) Try.f25 (l1, ()) some =
    (bif decide ((ilen l1) > (20 : Int)) then
    (some (α := ODen (T_spec_TriplesOk_sg N).ps × RDen (T_spec_TriplesOk_sg N).rs) ((), (false, ())))
    else
    (T_spec_TriplesOk_lp0_m N N (T_spec_TriplesOk_lp0_sh l1 (0 : Int)) (ctxK (R := ODen (T_spec_TriplesOk_sg N).ps × RDen (T_spec_TriplesOk_sg N).rs) tab (T_spec_TriplesOk_ctx N) T_spec_TriplesOk_ann N (theCode Try.f25) [1, 1, 0, 1, 0] (retK tab (T_spec_TriplesOk_sg N) Try.f25.results.toList some)))) := by kernel_rfl
  rw [h]
  (try simp only [T_spec_TriplesOk_lp0_eq, T_spec_TriplesOk_c1, T_spec_TriplesOk_c2]) <;> rfl

theorem T_spec_TriplesOk_ok (N : Nat) : chkBody Try.f25 (T_spec_TriplesOk_sg N).ps = true := by kernel_rfl

theorem T_spec_TriplesOk_callable : Callable Try.prog 25 := callable_of Try.func25 (show chkFn Try.f25 = true by kernel_rfl)

theorem T_spec_TriplesOk_good (N : Nat) : Good Try.prog 25 (T_spec_TriplesOk_sg N) :=
  good_body mixedOk tabOk (ctx_cons (T_spec_l25Ok_good N) T_spec_l25Ok_callable ctx_nil) Try.func25 (T_spec_TriplesOk_ok N) (fun d _ h => ⟨N, (T_spec_TriplesOk_den N d.1).trans h⟩)

noncomputable def T_spec_SeqValue_sg (N : Nat) : Sig := Sig.of [.v (.prod (.int .i64) (.prod (.int .i64) (.int .i64))) true, .v (.slice (.prod (.int .i64) (.prod (.int .i64) (.int .i64)))) false, .v (.int .i64) false] [.v (.prod (.int .i64) (.prod (.int .i64) (.int .i64))) true, .v (.bool) false] (fun d => T_spec_SeqValue N d.1 d.2.1 d.2.2.1)

def T_spec_SeqValue_ann : Nat → List Ghost
  | _ => []

noncomputable def T_spec_SeqValue_ctx (N : Nat) : Ctx := [(60, T_spec_l25Ok_sg N), (25, T_spec_TriplesOk_sg N), (82, T_spec_l1In_sg N)]

theorem T_spec_SeqValue_den (N : Nat) (start1 : Int × Int × Int) (l2 : List (Int × Int × Int)) (seq3 : Int) :
    den (R := ODen (T_spec_SeqValue_sg N).ps × RDen (T_spec_SeqValue_sg N).rs) tab (T_spec_SeqValue_ctx N) T_spec_SeqValue_ann N (T_spec_SeqValue_sg N) Try.f61 (start1, l2, seq3, ()) some =
    ((T_spec_l25Ok N start1).bind fun o4 =>
    (bif !o4.2.1 then
      (some (α := ODen (T_spec_SeqValue_sg N).ps × RDen (T_spec_SeqValue_sg N).rs) ((), (((0 : Int), ((0 : Int), (0 : Int))), (false, ()))))
      else
      ((T_spec_TriplesOk N l2).bind fun o5 =>
        (bif !o5.2.1 then
          (some (α := ODen (T_spec_SeqValue_sg N).ps × RDen (T_spec_SeqValue_sg N).rs) ((), (((0 : Int), ((0 : Int), (0 : Int))), (false, ()))))
          else
          ((T_spec_l1In N seq3 (0 : Int) (imul .i64 (2 : Int) (ilen l2))).bind fun o6 =>
            (bif !o6.2.1 then
              (some (α := ODen (T_spec_SeqValue_sg N).ps × RDen (T_spec_SeqValue_sg N).rs) ((), (((0 : Int), ((0 : Int), (0 : Int))), (false, ()))))
              else
              (bif inz (2 : Int) then
                (bif (irem seq3 (2 : Int)) == (1 : Int) then
                  (some (α := ODen (T_spec_SeqValue_sg N).ps × RDen (T_spec_SeqValue_sg N).rs) ((), (((0 : Int), ((0 : Int), (0 : Int))), (false, ()))))
                  else
                  (bif seq3 == (0 : Int) then
                    (some (α := ODen (T_spec_SeqValue_sg N).ps × RDen (T_spec_SeqValue_sg N).rs) ((), (start1, (true, ()))))
                    else
                    (bif inz (2 : Int) then
                      (bif inb (isub .i64 (iquo .i64 seq3 (2 : Int)) (1 : Int)) (List.length l2) then
                        (some (α := ODen (T_spec_SeqValue_sg N).ps × RDen (T_spec_SeqValue_sg N).rs) ((), (List.getD l2 (Int.toNat (isub .i64 (iquo .i64 seq3 (2 : Int)) (1 : Int))) ((0 : Int), ((0 : Int), (0 : Int))), (true, ())))) else none) else none))) else none))))))) := by kernel_rfl

theorem T_spec_SeqValue_ok (N : Nat) : chkBody Try.f61 (T_spec_SeqValue_sg N).ps = true := by kernel_rfl

theorem T_spec_SeqValue_callable : Callable Try.prog 61 := callable_of Try.func61 (show chkFn Try.f61 = true by kernel_rfl)

theorem T_spec_SeqValue_good (N : Nat) : Good Try.prog 61 (T_spec_SeqValue_sg N) :=
  good_body mixedOk tabOk (ctx_cons (T_spec_l25Ok_good N) T_spec_l25Ok_callable (ctx_cons (T_spec_TriplesOk_good N) T_spec_TriplesOk_callable (ctx_cons (T_spec_l1In_good N) T_spec_l1In_callable ctx_nil))) Try.func61 (T_spec_SeqValue_ok N) (fun d _ h => ⟨N, (T_spec_SeqValue_den N d.1 d.2.1 d.2.2.1).trans h⟩)

noncomputable def T_spec_SeqTrue_sg (N : Nat) : Sig := Sig.of [.v (.prod (.int .i64) (.prod (.int .i64) (.int .i64))) true, .v (.slice (.prod (.int .i64) (.prod (.int .i64) (.int .i64)))) false, .v (.prod (.int .i64) (.prod (.prod (.int .i64) (.prod (.int .i64) (.int .i64))) (.prod (.int .i64) (.prod (.int .i64) (.prod (.slice (.prod (.int .i64) (.prod (.int .i64) (.prod (.prod (.int .i64) (.prod (.int .i64) (.int .i64))) (.int .i64))))) (.slice (.prod (.int .i64) (.prod (.int .i64) (.prod (.int .i64) (.prod (.int .i64) (.int .i64))))))))))) true] [.v (.bool) false] (fun d => T_spec_SeqTrue N d.1 d.2.1 d.2.2.1)

def T_spec_SeqTrue_ann : Nat → List Ghost
  | 2 => [.canon [1, 3, 5, 7, 15]]
  | 3 => [.canon [1, 3, 5, 7]]
  | 4 => [.canon [1, 3, 5, 7, 8, 9]]
  | 5 => [.canon [1, 3, 5, 7, 41]]
  | 6 => [.canon [6]]
  | 7 => [.canon [1, 3, 5, 7, 10]]
  | 8 => [.canon [1, 3, 5, 7, 10, 44]]
  | 9 => [.canon [1, 3, 5, 7, 10]]
  | 10 => [.canon [1, 3, 5, 7, 10, 59]]
  | 11 => [.canon [6]]
  | 100002 => [.canon [1, 3, 5, 7]]
  | 100008 => [.canon [1, 3, 5, 7, 10]]
  | _ => []

noncomputable def T_spec_SeqTrue_ctx (N : Nat) : Ctx := [(61, T_spec_SeqValue_sg N)]

def T_spec_SeqTrue_lp1_sh (l9 : List (Int × Int × Int)) (i10 : Int) (k11 : Int) (b12 : Int × Int × Int) (b13 : Int × (Int × Int × Int) × Int × Int × List (Int × Int × (Int × Int × Int) × Int) × List (Int × Int × Int × Int × Int)) : St := { env := [(1, .s (.one (.val (.slice (.prod (.int .i64) (.prod (.int .i64) (.int .i64)))) (l9 : List (Int × Int × Int))))), (3, .s (.one (.ptr 0 0))), (5, .s (.one (.ptr 1 0))), (7, .s (.one (.val (.int .i64) (i10 : Int)))), (10, .s (.one (.val (.int .i64) (k11 : Int))))], objs := [(0, .box [.val (.int .i64) (b12.1 : Int), .val (.int .i64) (b12.2.1 : Int), .val (.int .i64) (b12.2.2 : Int)]), (1, .box [.val (.int .i64) (b13.1 : Int), .val (.int .i64) (b13.2.1.1 : Int), .val (.int .i64) (b13.2.1.2.1 : Int), .val (.int .i64) (b13.2.1.2.2 : Int), .val (.int .i64) (b13.2.2.1 : Int), .val (.int .i64) (b13.2.2.2.1 : Int), .val (.slice (.prod (.int .i64) (.prod (.int .i64) (.prod (.prod (.int .i64) (.prod (.int .i64) (.int .i64))) (.int .i64))))) (b13.2.2.2.2.1 : List (Int × Int × (Int × Int × Int) × Int)), .val (.slice (.prod (.int .i64) (.prod (.int .i64) (.prod (.int .i64) (.prod (.int .i64) (.int .i64)))))) (b13.2.2.2.2.2 : List (Int × Int × Int × Int × Int))])], nx := 2 }

def T_spec_SeqTrue_lp1_e0 (l9 : List (Int × Int × Int)) (i10 : Int) (b12 : Int × Int × Int) (b13 : Int × (Int × Int × Int) × Int × Int × List (Int × Int × (Int × Int × Int) × Int) × List (Int × Int × Int × Int × Int)) : St := { env := [(6, .s (.one (.val (.bool) (false : Bool))))], objs := [], nx := 0 }

def T_spec_SeqTrue_lp1_e1 (l9 : List (Int × Int × Int)) (i10 : Int) (b12 : Int × Int × Int) (b13 : Int × (Int × Int × Int) × Int × Int × List (Int × Int × (Int × Int × Int) × Int) × List (Int × Int × Int × Int × Int)) (k14 : Int) (t15 : Bool) : St := { env := [(1, .s (.one (.val (.slice (.prod (.int .i64) (.prod (.int .i64) (.int .i64)))) (l9 : List (Int × Int × Int))))), (3, .s (.one (.ptr 0 0))), (5, .s (.one (.ptr 1 0))), (7, .s (.one (.val (.int .i64) (i10 : Int)))), (10, .s (.one (.val (.int .i64) (k14 : Int)))), (44, .s (.one (.val (.bool) (t15 : Bool))))], objs := [(0, .box [.val (.int .i64) (b12.1 : Int), .val (.int .i64) (b12.2.1 : Int), .val (.int .i64) (b12.2.2 : Int)]), (1, .box [.val (.int .i64) (b13.1 : Int), .val (.int .i64) (b13.2.1.1 : Int), .val (.int .i64) (b13.2.1.2.1 : Int), .val (.int .i64) (b13.2.1.2.2 : Int), .val (.int .i64) (b13.2.2.1 : Int), .val (.int .i64) (b13.2.2.2.1 : Int), .val (.slice (.prod (.int .i64) (.prod (.int .i64) (.prod (.prod (.int .i64) (.prod (.int .i64) (.int .i64))) (.int .i64))))) (b13.2.2.2.2.1 : List (Int × Int × (Int × Int × Int) × Int)), .val (.slice (.prod (.int .i64) (.prod (.int .i64) (.prod (.int .i64) (.prod (.int .i64) (.int .i64)))))) (b13.2.2.2.2.2 : List (Int × Int × Int × Int × Int))])], nx := 2 }

noncomputable def T_spec_SeqTrue_lp1_m (N : Nat) {R : Type} (n : Nat) (st : St) (K : Ex → St → Option R) : Option R := loopN (roundG (T_spec_SeqTrue_ann 100008) fun st k => sx tab (T_spec_SeqTrue_ctx N) T_spec_SeqTrue_ann N (nthLoop Try.f26 1) st k) n st K

theorem T_spec_SeqTrue_lp1_step (N : Nat) {R : Type} (n : Nat) (K : Ex → St → Option R) (l9 : List (Int × Int × Int)) (i10 : Int) (k11 : Int) (b12 : Int × Int × Int) (b13 : Int × (Int × Int × Int) × Int × Int × List (Int × Int × (Int × Int × Int) × Int) × List (Int × Int × Int × Int × Int)) :
    T_spec_SeqTrue_lp1_m N (n + 1) (T_spec_SeqTrue_lp1_sh l9 i10 k11 b12 b13) K =
    (bif decide (k11 < i10) then
    (bif inb k11 (List.length b13.2.2.2.2.2) then
      (bif inb i10 (List.length b13.2.2.2.2.2) then
        (bif decide ((List.getD b13.2.2.2.2.2 (Int.toNat k11) ((0 : Int), ((0 : Int), ((0 : Int), ((0 : Int), (0 : Int)))))).2.1 > (List.getD b13.2.2.2.2.2 (Int.toNat i10) ((0 : Int), ((0 : Int), ((0 : Int), ((0 : Int), (0 : Int)))))).2.1) then
          (K .ret (T_spec_SeqTrue_lp1_e0 l9 i10 b12 b13))
          else
          (T_spec_SeqTrue_lp1_m N n (T_spec_SeqTrue_lp1_sh l9 i10 (iadd .i64 k11 (1 : Int)) b12 b13) K)) else none) else none)
    else
    (K (.exit 2) (T_spec_SeqTrue_lp1_e1 l9 i10 b12 b13 k11 (decide (k11 < i10))))) := by kernel_rfl

theorem T_spec_SeqTrue_lp1_eq (N : Nat) {R : Type} (l9 : List (Int × Int × Int)) (i10 : Int) (b12 : Int × Int × Int) (b13 : Int × (Int × Int × Int) × Int × Int × List (Int × Int × (Int × Int × Int) × Int) × List (Int × Int × Int × Int × Int)) (K : Ex → St → Option R) : ∀ (n : Nat) (k11 : Int), T_spec_SeqTrue_lp1_m N n (T_spec_SeqTrue_lp1_sh l9 i10 k11 b12 b13) K = T_spec_SeqTrue_lp1 N l9 i10 b12 b13 (K .ret (T_spec_SeqTrue_lp1_e0 l9 i10 b12 b13)) (fun k14 t15 => (K (.exit 2) (T_spec_SeqTrue_lp1_e1 l9 i10 b12 b13 k14 t15))) n k11
  | 0, _ => rfl
  | n + 1, k11 => by rw [T_spec_SeqTrue_lp1_step, T_spec_SeqTrue_lp1]; (try simp only [T_spec_SeqTrue_lp1_eq N l9 i10 b12 b13 K n])

def T_spec_SeqTrue_lp0_sh (l4 : List (Int × Int × Int)) (i5 : Int) (b6 : Int × Int × Int) (b7 : Int × (Int × Int × Int) × Int × Int × List (Int × Int × (Int × Int × Int) × Int) × List (Int × Int × Int × Int × Int)) : St := { env := [(1, .s (.one (.val (.slice (.prod (.int .i64) (.prod (.int .i64) (.int .i64)))) (l4 : List (Int × Int × Int))))), (3, .s (.one (.ptr 0 0))), (5, .s (.one (.ptr 1 0))), (7, .s (.one (.val (.int .i64) (i5 : Int))))], objs := [(0, .box [.val (.int .i64) (b6.1 : Int), .val (.int .i64) (b6.2.1 : Int), .val (.int .i64) (b6.2.2 : Int)]), (1, .box [.val (.int .i64) (b7.1 : Int), .val (.int .i64) (b7.2.1.1 : Int), .val (.int .i64) (b7.2.1.2.1 : Int), .val (.int .i64) (b7.2.1.2.2 : Int), .val (.int .i64) (b7.2.2.1 : Int), .val (.int .i64) (b7.2.2.2.1 : Int), .val (.slice (.prod (.int .i64) (.prod (.int .i64) (.prod (.prod (.int .i64) (.prod (.int .i64) (.int .i64))) (.int .i64))))) (b7.2.2.2.2.1 : List (Int × Int × (Int × Int × Int) × Int)), .val (.slice (.prod (.int .i64) (.prod (.int .i64) (.prod (.int .i64) (.prod (.int .i64) (.int .i64)))))) (b7.2.2.2.2.2 : List (Int × Int × Int × Int × Int))])], nx := 2 }

def T_spec_SeqTrue_lp0_e0 (l4 : List (Int × Int × Int)) (b6 : Int × Int × Int) (b7 : Int × (Int × Int × Int) × Int × Int × List (Int × Int × (Int × Int × Int) × Int) × List (Int × Int × Int × Int × Int)) : St := { env := [(6, .s (.one (.val (.bool) (false : Bool))))], objs := [], nx := 0 }

def T_spec_SeqTrue_lp0_e1 (l4 : List (Int × Int × Int)) (b6 : Int × Int × Int) (b7 : Int × (Int × Int × Int) × Int × Int × List (Int × Int × (Int × Int × Int) × Int) × List (Int × Int × Int × Int × Int)) (i21 : Int) (t22 : Bool) : St := { env := [(1, .s (.one (.val (.slice (.prod (.int .i64) (.prod (.int .i64) (.int .i64)))) (l4 : List (Int × Int × Int))))), (3, .s (.one (.ptr 0 0))), (5, .s (.one (.ptr 1 0))), (7, .s (.one (.val (.int .i64) (i21 : Int)))), (15, .s (.one (.val (.bool) (t22 : Bool))))], objs := [(0, .box [.val (.int .i64) (b6.1 : Int), .val (.int .i64) (b6.2.1 : Int), .val (.int .i64) (b6.2.2 : Int)]), (1, .box [.val (.int .i64) (b7.1 : Int), .val (.int .i64) (b7.2.1.1 : Int), .val (.int .i64) (b7.2.1.2.1 : Int), .val (.int .i64) (b7.2.1.2.2 : Int), .val (.int .i64) (b7.2.2.1 : Int), .val (.int .i64) (b7.2.2.2.1 : Int), .val (.slice (.prod (.int .i64) (.prod (.int .i64) (.prod (.prod (.int .i64) (.prod (.int .i64) (.int .i64))) (.int .i64))))) (b7.2.2.2.2.1 : List (Int × Int × (Int × Int × Int) × Int)), .val (.slice (.prod (.int .i64) (.prod (.int .i64) (.prod (.int .i64) (.prod (.int .i64) (.int .i64)))))) (b7.2.2.2.2.2 : List (Int × Int × Int × Int × Int))])], nx := 2 }

noncomputable def T_spec_SeqTrue_lp0_m (N : Nat) {R : Type} (n : Nat) (st : St) (K : Ex → St → Option R) : Option R := loopN (roundG (T_spec_SeqTrue_ann 100002) fun st k => sx tab (T_spec_SeqTrue_ctx N) T_spec_SeqTrue_ann N (nthLoop Try.f26 0) st k) n st K

theorem T_spec_SeqTrue_c1 (N : Nat) {R : Type} (n : Nat) (K : Ex → St → Option R) (l4 : List (Int × Int × Int)) (i5 : Int) (b6 : Int × Int × Int) (b7 : Int × (Int × Int × Int) × Int × Int × List (Int × Int × (Int × Int × Int) × Int) × List (Int × Int × Int × Int × Int)) :
    ((ctxK tab (T_spec_SeqTrue_ctx N) T_spec_SeqTrue_ann N (nthLoop Try.f26 0) [1, 0, 0, 1, 1, 1, 0] (backK (T_spec_SeqTrue_ann 100002) (T_spec_SeqTrue_lp0_m N n) K)) .ret (T_spec_SeqTrue_lp1_e0 l4 i5 b6 b7)) =
    (K .ret (T_spec_SeqTrue_lp0_e0 l4 b6 b7)) := by kernel_rfl

theorem T_spec_SeqTrue_c2 (N : Nat) {R : Type} (n : Nat) (K : Ex → St → Option R) (l4 : List (Int × Int × Int)) (i5 : Int) (b6 : Int × Int × Int) (b7 : Int × (Int × Int × Int) × Int × Int × List (Int × Int × (Int × Int × Int) × Int) × List (Int × Int × Int × Int × Int)) (k24 : Int) (t25 : Bool) :
    ((ctxK tab (T_spec_SeqTrue_ctx N) T_spec_SeqTrue_ann N (nthLoop Try.f26 0) [1, 0, 0, 1, 1, 1, 0] (backK (T_spec_SeqTrue_ann 100002) (T_spec_SeqTrue_lp0_m N n) K)) (.exit 2) (T_spec_SeqTrue_lp1_e1 l4 i5 b6 b7 k24 t25)) =
    (T_spec_SeqTrue_lp0_m N n (T_spec_SeqTrue_lp0_sh l4 (iadd .i64 i5 (1 : Int)) b6 b7) K) := by kernel_rfl

theorem T_spec_SeqTrue_c3 (N : Nat) {R : Type} (n : Nat) (K : Ex → St → Option R) (l4 : List (Int × Int × Int)) (i5 : Int) (b6 : Int × Int × Int) (b7 : Int × (Int × Int × Int) × Int × Int × List (Int × Int × (Int × Int × Int) × Int) × List (Int × Int × Int × Int × Int)) :
    ((ctxK tab (T_spec_SeqTrue_ctx N) T_spec_SeqTrue_ann N (nthLoop Try.f26 0) [1, 0, 0, 1, 1, 1, 0] (backK (T_spec_SeqTrue_ann 100002) (T_spec_SeqTrue_lp0_m N n) K)) .ret (T_spec_SeqTrue_lp1_e0 l4 i5 b6 b7)) =
    (K .ret (T_spec_SeqTrue_lp0_e0 l4 b6 b7)) := by kernel_rfl

theorem T_spec_SeqTrue_c4 (N : Nat) {R : Type} (n : Nat) (K : Ex → St → Option R) (l4 : List (Int × Int × Int)) (i5 : Int) (b6 : Int × Int × Int) (b7 : Int × (Int × Int × Int) × Int × Int × List (Int × Int × (Int × Int × Int) × Int) × List (Int × Int × Int × Int × Int)) (k27 : Int) (t28 : Bool) :
    ((ctxK tab (T_spec_SeqTrue_ctx N) T_spec_SeqTrue_ann N (nthLoop Try.f26 0) [1, 0, 0, 1, 1, 1, 0] (backK (T_spec_SeqTrue_ann 100002) (T_spec_SeqTrue_lp0_m N n) K)) (.exit 2) (T_spec_SeqTrue_lp1_e1 l4 i5 b6 b7 k27 t28)) =
    (T_spec_SeqTrue_lp0_m N n (T_spec_SeqTrue_lp0_sh l4 (iadd .i64 i5 (1 : Int)) b6 b7) K) := by kernel_rfl

theorem T_spec_SeqTrue_lp0_step (N : Nat) {R : Type} (n : Nat) (K : Ex → St → Option R) (l4 : List (Int × Int × Int)) (i5 : Int) (b6 : Int × Int × Int) (b7 : Int × (Int × Int × Int) × Int × Int × List (Int × Int × (Int × Int × Int) × Int) × List (Int × Int × Int × Int × Int)) :
    T_spec_SeqTrue_lp0_m N (n + 1) (T_spec_SeqTrue_lp0_sh l4 i5 b6 b7) K =
    (bif decide (i5 < (ilen b7.2.2.2.2.2)) then
    (both
      (bif inb i5 (List.length b7.2.2.2.2.2) then
        ((T_spec_SeqValue N b6 l4 (List.getD b7.2.2.2.2.2 (Int.toNat i5) ((0 : Int), ((0 : Int), ((0 : Int), ((0 : Int), (0 : Int)))))).2.1).bind fun o23 =>
          (bif !o23.2.2.1 then
            (K .ret (T_spec_SeqTrue_lp0_e0 l4 b6 b7))
            else
            (bif inb i5 (List.length b7.2.2.2.2.2) then
              (bif !((ieq o23.2.1.1 (List.getD b7.2.2.2.2.2 (Int.toNat i5) ((0 : Int), ((0 : Int), ((0 : Int), ((0 : Int), (0 : Int)))))).2.2.1) && ((ieq o23.2.1.2.1 (List.getD b7.2.2.2.2.2 (Int.toNat i5) ((0 : Int), ((0 : Int), ((0 : Int), ((0 : Int), (0 : Int)))))).2.2.2.1) && ((ieq o23.2.1.2.2 (List.getD b7.2.2.2.2.2 (Int.toNat i5) ((0 : Int), ((0 : Int), ((0 : Int), ((0 : Int), (0 : Int)))))).2.2.2.2) && true))) then
                (K .ret (T_spec_SeqTrue_lp0_e0 l4 b6 b7))
                else
                (T_spec_SeqTrue_lp1 N l4 i5 b6 b7
                  (K .ret (T_spec_SeqTrue_lp0_e0 l4 b6 b7))
                  (fun k24 t25 =>
                    (T_spec_SeqTrue_lp0_m N n (T_spec_SeqTrue_lp0_sh l4 (iadd .i64 i5 (1 : Int)) b6 b7) K))
                   N (0 : Int))) else none))) else none)
      (bif inb i5 (List.length b7.2.2.2.2.2) then
        ((T_spec_SeqValue N b6 l4 (List.getD b7.2.2.2.2.2 (Int.toNat i5) ((0 : Int), ((0 : Int), ((0 : Int), ((0 : Int), (0 : Int)))))).2.1).bind fun o26 =>
          (bif !o26.2.2.1 then
            (K .ret (T_spec_SeqTrue_lp0_e0 l4 b6 b7))
            else
            (bif inb i5 (List.length b7.2.2.2.2.2) then
              (bif !((ieq o26.2.1.1 (List.getD b7.2.2.2.2.2 (Int.toNat i5) ((0 : Int), ((0 : Int), ((0 : Int), ((0 : Int), (0 : Int)))))).2.2.1) && ((ieq o26.2.1.2.1 (List.getD b7.2.2.2.2.2 (Int.toNat i5) ((0 : Int), ((0 : Int), ((0 : Int), ((0 : Int), (0 : Int)))))).2.2.2.1) && ((ieq o26.2.1.2.2 (List.getD b7.2.2.2.2.2 (Int.toNat i5) ((0 : Int), ((0 : Int), ((0 : Int), ((0 : Int), (0 : Int)))))).2.2.2.2) && true))) then
                (K .ret (T_spec_SeqTrue_lp0_e0 l4 b6 b7))
                else
                (T_spec_SeqTrue_lp1 N l4 i5 b6 b7
                  (K .ret (T_spec_SeqTrue_lp0_e0 l4 b6 b7))
                  (fun k27 t28 =>
                    (T_spec_SeqTrue_lp0_m N n (T_spec_SeqTrue_lp0_sh l4 (iadd .i64 i5 (1 : Int)) b6 b7) K))
                   N (0 : Int))) else none))) else none))
    else
    (K (.exit 0) (T_spec_SeqTrue_lp0_e1 l4 b6 b7 i5 (decide (i5 < (ilen b7.2.2.2.2.2)))))) := by
  have h : T_spec_SeqTrue_lp0_m N (n + 1) (T_spec_SeqTrue_lp0_sh l4 i5 b6 b7) K =
    (bif decide (i5 < (ilen b7.2.2.2.2.2)) then
    (both
      (bif inb i5 (List.length b7.2.2.2.2.2) then
        ((T_spec_SeqValue N b6 l4 (List.getD b7.2.2.2.2.2 (Int.toNat i5) ((0 : Int), ((0 : Int), ((0 : Int), ((0 : Int), (0 : Int)))))).2.1).bind fun o23 =>
          (bif !o23.2.2.1 then
            (K .ret (T_spec_SeqTrue_lp0_e0 l4 b6 b7))
            else
            (bif inb i5 (List.length b7.2.2.2.2.2) then
              (bif !((ieq o23.2.1.1 (List.getD b7.2.2.2.2.2 (Int.toNat i5) ((0 : Int), ((0 : Int), ((0 : Int), ((0 : Int), (0 : Int)))))).2.2.1) && ((ieq o23.2.1.2.1 (List.getD b7.2.2.2.2.2 (Int.toNat i5) ((0 : Int), ((0 : Int), ((0 : Int), ((0 : Int), (0 : Int)))))).2.2.2.1) && ((ieq o23.2.1.2.2 (List.getD b7.2.2.2.2.2 (Int.toNat i5) ((0 : Int), ((0 : Int), ((0 : Int), ((0 : Int), (0 : Int)))))).2.2.2.2) && true))) then
                (K .ret (T_spec_SeqTrue_lp0_e0 l4 b6 b7))
                else
                (T_spec_SeqTrue_lp1_m N N (T_spec_SeqTrue_lp1_sh l4 i5 (0 : Int) b6 b7) (ctxK tab (T_spec_SeqTrue_ctx N) T_spec_SeqTrue_ann N (nthLoop Try.f26 0) [1, 0, 0, 1, 1, 1, 0] (backK (T_spec_SeqTrue_ann 100002) (T_spec_SeqTrue_lp0_m N n) K)))) else none))) else none)
      (bif inb i5 (List.length b7.2.2.2.2.2) then
        ((T_spec_SeqValue N b6 l4 (List.getD b7.2.2.2.2.2 (Int.toNat i5) ((0 : Int), ((0 : Int), ((0 : Int), ((0 : Int), (0 : Int)))))).2.1).bind fun o26 =>
          (bif !o26.2.2.1 then
            (K .ret (T_spec_SeqTrue_lp0_e0 l4 b6 b7))
            else
            (bif inb i5 (List.length b7.2.2.2.2.2) then
              (bif !((ieq o26.2.1.1 (List.getD b7.2.2.2.2.2 (Int.toNat i5) ((0 : Int), ((0 : Int), ((0 : Int), ((0 : Int), (0 : Int)))))).2.2.1) && ((ieq o26.2.1.2.1 (List.getD b7.2.2.2.2.2 (Int.toNat i5) ((0 : Int), ((0 : Int), ((0 : Int), ((0 : Int), (0 : Int)))))).2.2.2.1) && ((ieq o26.2.1.2.2 (List.getD b7.2.2.2.2.2 (Int.toNat i5) ((0 : Int), ((0 : Int), ((0 : Int), ((0 : Int), (0 : Int)))))).2.2.2.2) && true))) then
                (K .ret (T_spec_SeqTrue_lp0_e0 l4 b6 b7))
                else
                (T_spec_SeqTrue_lp1_m N N (T_spec_SeqTrue_lp1_sh l4 i5 (0 : Int) b6 b7) (ctxK tab (T_spec_SeqTrue_ctx N) T_spec_SeqTrue_ann N (nthLoop Try.f26 0) [1, 0, 0, 1, 1, 1, 0] (backK (T_spec_SeqTrue_ann 100002) (T_spec_SeqTrue_lp0_m N n) K)))) else none))) else none))
    else
    (K (.exit 0) (T_spec_SeqTrue_lp0_e1 l4 b6 b7 i5 (decide (i5 < (ilen b7.2.2.2.2.2)))))) := by kernel_rfl
  rw [h]
  (try simp only [T_spec_SeqTrue_lp1_eq, T_spec_SeqTrue_c1, T_spec_SeqTrue_c2, T_spec_SeqTrue_c3, T_spec_SeqTrue_c4]) <;> rfl

theorem T_spec_SeqTrue_lp0_eq (N : Nat) {R : Type} (l4 : List (Int × Int × Int)) (b6 : Int × Int × Int) (b7 : Int × (Int × Int × Int) × Int × Int × List (Int × Int × (Int × Int × Int) × Int) × List (Int × Int × Int × Int × Int)) (K : Ex → St → Option R) : ∀ (n : Nat) (i5 : Int), T_spec_SeqTrue_lp0_m N n (T_spec_SeqTrue_lp0_sh l4 i5 b6 b7) K = T_spec_SeqTrue_lp0 N l4 b6 b7 (K .ret (T_spec_SeqTrue_lp0_e0 l4 b6 b7)) (fun i21 t22 => (K (.exit 0) (T_spec_SeqTrue_lp0_e1 l4 b6 b7 i21 t22))) n i5
  | 0, _ => rfl
  | n + 1, i5 => by rw [T_spec_SeqTrue_lp0_step, T_spec_SeqTrue_lp0]; (try simp only [T_spec_SeqTrue_lp0_eq N l4 b6 b7 K n])

theorem T_spec_SeqTrue_c5 (N : Nat) (l2 : List (Int × Int × Int)) (start1 : Int × Int × Int) (w3 : Int × (Int × Int × Int) × Int × Int × List (Int × Int × (Int × Int × Int) × Int) × List (Int × Int × Int × Int × Int)) :
    ((ctxK (R := ODen (T_spec_SeqTrue_sg N).ps × RDen (T_spec_SeqTrue_sg N).rs) tab (T_spec_SeqTrue_ctx N) T_spec_SeqTrue_ann N (theCode Try.f26) [1, 0, 1, 0] (retK tab (T_spec_SeqTrue_sg N) Try.f26.results.toList some)) .ret (T_spec_SeqTrue_lp0_e0 l2 start1 w3)) =
    (some (α := ODen (T_spec_SeqTrue_sg N).ps × RDen (T_spec_SeqTrue_sg N).rs) ((), (false, ()))) := by kernel_rfl

theorem T_spec_SeqTrue_c6 (N : Nat) (l2 : List (Int × Int × Int)) (start1 : Int × Int × Int) (w3 : Int × (Int × Int × Int) × Int × Int × List (Int × Int × (Int × Int × Int) × Int) × List (Int × Int × Int × Int × Int)) (i29 : Int) (t30 : Bool) :
    ((ctxK (R := ODen (T_spec_SeqTrue_sg N).ps × RDen (T_spec_SeqTrue_sg N).rs) tab (T_spec_SeqTrue_ctx N) T_spec_SeqTrue_ann N (theCode Try.f26) [1, 0, 1, 0] (retK tab (T_spec_SeqTrue_sg N) Try.f26.results.toList some)) (.exit 0) (T_spec_SeqTrue_lp0_e1 l2 start1 w3 i29 t30)) =
    (some (α := ODen (T_spec_SeqTrue_sg N).ps × RDen (T_spec_SeqTrue_sg N).rs) ((), (true, ()))) := by kernel_rfl

theorem T_spec_SeqTrue_den (N : Nat) (start1 : Int × Int × Int) (l2 : List (Int × Int × Int)) (w3 : Int × (Int × Int × Int) × Int × Int × List (Int × Int × (Int × Int × Int) × Int) × List (Int × Int × Int × Int × Int)) :
    den (R := ODen (T_spec_SeqTrue_sg N).ps × RDen (T_spec_SeqTrue_sg N).rs) tab (T_spec_SeqTrue_ctx N) T_spec_SeqTrue_ann N (T_spec_SeqTrue_sg N) Try.f26 (start1, l2, w3, ()) some =
    (T_spec_SeqTrue_lp0 N l2 start1 w3
    (some (α := ODen (T_spec_SeqTrue_sg N).ps × RDen (T_spec_SeqTrue_sg N).rs) ((), (false, ())))
    (fun i29 t30 =>
      (some (α := ODen (T_spec_SeqTrue_sg N).ps × RDen (T_spec_SeqTrue_sg N).rs) ((), (true, ()))))
     N (0 : Int)) := by
  have h : den (R := ODen (T_spec_SeqTrue_sg N).ps × RDen (T_spec_SeqTrue_sg N).rs) tab (T_spec_SeqTrue_ctx N) T_spec_SeqTrue_ann N (T_spec_SeqTrue_sg N) Try.f26 (start1, l2, w3, ()) some =
    (T_spec_SeqTrue_lp0_m N N (T_spec_SeqTrue_lp0_sh l2 (0 : Int) start1 w3) (ctxK (R := ODen (T_spec_SeqTrue_sg N).ps × RDen (T_spec_SeqTrue_sg N).rs) tab (T_spec_SeqTrue_ctx N) T_spec_SeqTrue_ann N (theCode Try.f26) [1, 0, 1, 0] (retK tab (T_spec_SeqTrue_sg N) Try.f26.results.toList some))) := by kernel_rfl
  rw [h]
  (try simp only [T_spec_SeqTrue_lp0_eq, T_spec_SeqTrue_c5, T_spec_SeqTrue_c6]) <;> rfl

theorem T_spec_SeqTrue_ok (N : Nat) : chkBody Try.f26 (T_spec_SeqTrue_sg N).ps = true := by kernel_rfl

theorem T_spec_SeqTrue_callable : Callable Try.prog 26 := callable_of Try.func26 (show chkFn Try.f26 = true by kernel_rfl)

theorem T_spec_SeqTrue_good (N : Nat) : Good Try.prog 26 (T_spec_SeqTrue_sg N) :=
  good_body mixedOk tabOk (ctx_cons (T_spec_SeqValue_good N) T_spec_SeqValue_callable ctx_nil) Try.func26 (T_spec_SeqTrue_ok N) (fun d _ h => ⟨N, (T_spec_SeqTrue_den N d.1 d.2.1 d.2.2.1).trans h⟩)

noncomputable def T_impl_SeqValue_sg (N : Nat) : Sig := Sig.of [.v (.prod (.int .i64) (.prod (.int .i64) (.int .i64))) true, .v (.slice (.prod (.int .i64) (.prod (.int .i64) (.int .i64)))) false, .v (.int .i64) false] [.v (.prod (.int .i64) (.prod (.int .i64) (.int .i64))) true, .v (.bool) false] (fun d => T_impl_SeqValue N d.1 d.2.1 d.2.2.1)

def T_impl_SeqValue_ann : Nat → List Ghost
  | _ => []

noncomputable def T_impl_SeqValue_ctx (N : Nat) : Ctx := [(55, T_impl_isTriple_sg N), (56, T_impl_TriplesOk_sg N), (58, T_impl_within_sg N)]

theorem T_impl_SeqValue_den (N : Nat) (start1 : Int × Int × Int) (l2 : List (Int × Int × Int)) (seq3 : Int) :
    den (R := ODen (T_impl_SeqValue_sg N).ps × RDen (T_impl_SeqValue_sg N).rs) tab (T_impl_SeqValue_ctx N) T_impl_SeqValue_ann N (T_impl_SeqValue_sg N) Try.f28 (start1, l2, seq3, ()) some =
    ((T_impl_isTriple N start1).bind fun o4 =>
    (bif !o4.2.1 then
      (some (α := ODen (T_impl_SeqValue_sg N).ps × RDen (T_impl_SeqValue_sg N).rs) ((), (((0 : Int), ((0 : Int), (0 : Int))), (false, ()))))
      else
      ((T_impl_TriplesOk N l2).bind fun o5 =>
        (bif !o5.2.1 then
          (some (α := ODen (T_impl_SeqValue_sg N).ps × RDen (T_impl_SeqValue_sg N).rs) ((), (((0 : Int), ((0 : Int), (0 : Int))), (false, ()))))
          else
          ((T_impl_within N seq3 (0 : Int) (imul .i64 (2 : Int) (ilen l2))).bind fun o6 =>
            (bif !o6.2.1 then
              (some (α := ODen (T_impl_SeqValue_sg N).ps × RDen (T_impl_SeqValue_sg N).rs) ((), (((0 : Int), ((0 : Int), (0 : Int))), (false, ()))))
              else
              (bif inz (2 : Int) then
                (bif (irem seq3 (2 : Int)) == (1 : Int) then
                  (some (α := ODen (T_impl_SeqValue_sg N).ps × RDen (T_impl_SeqValue_sg N).rs) ((), (((0 : Int), ((0 : Int), (0 : Int))), (false, ()))))
                  else
                  (bif seq3 == (0 : Int) then
                    (some (α := ODen (T_impl_SeqValue_sg N).ps × RDen (T_impl_SeqValue_sg N).rs) ((), (start1, (true, ()))))
                    else
                    (bif inz (2 : Int) then
                      (bif inb (isub .i64 (iquo .i64 seq3 (2 : Int)) (1 : Int)) (List.length l2) then
                        (some (α := ODen (T_impl_SeqValue_sg N).ps × RDen (T_impl_SeqValue_sg N).rs) ((), (List.getD l2 (Int.toNat (isub .i64 (iquo .i64 seq3 (2 : Int)) (1 : Int))) ((0 : Int), ((0 : Int), (0 : Int))), (true, ())))) else none) else none))) else none))))))) := by kernel_rfl

theorem T_impl_SeqValue_ok (N : Nat) : chkBody Try.f28 (T_impl_SeqValue_sg N).ps = true := by kernel_rfl

theorem T_impl_SeqValue_callable : Callable Try.prog 28 := callable_of Try.func28 (show chkFn Try.f28 = true by kernel_rfl)

theorem T_impl_SeqValue_good (N : Nat) : Good Try.prog 28 (T_impl_SeqValue_sg N) :=
  good_body mixedOk tabOk (ctx_cons (T_impl_isTriple_good N) T_impl_isTriple_callable (ctx_cons (T_impl_TriplesOk_good N) T_impl_TriplesOk_callable (ctx_cons (T_impl_within_good N) T_impl_within_callable ctx_nil))) Try.func28 (T_impl_SeqValue_ok N) (fun d _ h => ⟨N, (T_impl_SeqValue_den N d.1 d.2.1 d.2.2.1).trans h⟩)

noncomputable def T_impl_SeqTrue_sg (N : Nat) : Sig := Sig.of [.v (.prod (.int .i64) (.prod (.int .i64) (.int .i64))) true, .v (.slice (.prod (.int .i64) (.prod (.int .i64) (.int .i64)))) false, .v (.prod (.int .i64) (.prod (.prod (.int .i64) (.prod (.int .i64) (.int .i64))) (.prod (.int .i64) (.prod (.int .i64) (.prod (.slice (.prod (.int .i64) (.prod (.int .i64) (.prod (.prod (.int .i64) (.prod (.int .i64) (.int .i64))) (.int .i64))))) (.slice (.prod (.int .i64) (.prod (.int .i64) (.prod (.int .i64) (.prod (.int .i64) (.int .i64))))))))))) true] [.v (.bool) false] (fun d => T_impl_SeqTrue N d.1 d.2.1 d.2.2.1)

def T_impl_SeqTrue_ann : Nat → List Ghost
  | 2 => [.canon [1, 3, 5, 12, 13, 14, 15]]
  | 3 => [.canon [1, 3, 5, 7, 8, 12, 13, 14]]
  | 4 => [.canon [1, 3, 5, 7, 8, 9, 10, 12, 13, 14]]
  | 5 => [.canon [1, 3, 5, 12, 13, 14, 50]]
  | 6 => [.canon [6]]
  | 7 => [.canon [1, 3, 5, 12, 13, 14]]
  | 100002 => [.canon [1, 3, 5, 12, 13, 14]]
  | _ => []

noncomputable def T_impl_SeqTrue_ctx (N : Nat) : Ctx := [(28, T_impl_SeqValue_sg N)]

def T_impl_SeqTrue_lp0_sh (l4 : List (Int × Int × Int)) (t5 : List (Int × Int × Int × Int × Int)) (t7 : Int) (b8 : Int × Int × Int) (b9 : Int × (Int × Int × Int) × Int × Int × List (Int × Int × (Int × Int × Int) × Int) × List (Int × Int × Int × Int × Int)) : St := { env := [(1, .s (.one (.val (.slice (.prod (.int .i64) (.prod (.int .i64) (.int .i64)))) (l4 : List (Int × Int × Int))))), (3, .s (.one (.ptr 0 0))), (5, .s (.one (.ptr 1 0))), (12, .s (.one (.val (.slice (.prod (.int .i64) (.prod (.int .i64) (.prod (.int .i64) (.prod (.int .i64) (.int .i64)))))) (t5 : List (Int × Int × Int × Int × Int))))), (13, .s (.one (.val (.int .i64) (ilen b9.2.2.2.2.2 : Int)))), (14, .s (.one (.val (.int .i64) (t7 : Int))))], objs := [(0, .box [.val (.int .i64) (b8.1 : Int), .val (.int .i64) (b8.2.1 : Int), .val (.int .i64) (b8.2.2 : Int)]), (1, .box [.val (.int .i64) (b9.1 : Int), .val (.int .i64) (b9.2.1.1 : Int), .val (.int .i64) (b9.2.1.2.1 : Int), .val (.int .i64) (b9.2.1.2.2 : Int), .val (.int .i64) (b9.2.2.1 : Int), .val (.int .i64) (b9.2.2.2.1 : Int), .val (.slice (.prod (.int .i64) (.prod (.int .i64) (.prod (.prod (.int .i64) (.prod (.int .i64) (.int .i64))) (.int .i64))))) (b9.2.2.2.2.1 : List (Int × Int × (Int × Int × Int) × Int)), .val (.slice (.prod (.int .i64) (.prod (.int .i64) (.prod (.int .i64) (.prod (.int .i64) (.int .i64)))))) (b9.2.2.2.2.2 : List (Int × Int × Int × Int × Int))])], nx := 2 }

def T_impl_SeqTrue_lp0_e0 (l4 : List (Int × Int × Int)) (t5 : List (Int × Int × Int × Int × Int)) (b8 : Int × Int × Int) (b9 : Int × (Int × Int × Int) × Int × Int × List (Int × Int × (Int × Int × Int) × Int) × List (Int × Int × Int × Int × Int)) : St := { env := [(6, .s (.one (.val (.bool) (false : Bool))))], objs := [], nx := 0 }

def T_impl_SeqTrue_lp0_e1 (l4 : List (Int × Int × Int)) (t5 : List (Int × Int × Int × Int × Int)) (b8 : Int × Int × Int) (b9 : Int × (Int × Int × Int) × Int × Int × List (Int × Int × (Int × Int × Int) × Int) × List (Int × Int × Int × Int × Int)) (t12 : Int) (t13 : Bool) : St := { env := [(1, .s (.one (.val (.slice (.prod (.int .i64) (.prod (.int .i64) (.int .i64)))) (l4 : List (Int × Int × Int))))), (3, .s (.one (.ptr 0 0))), (5, .s (.one (.ptr 1 0))), (12, .s (.one (.val (.slice (.prod (.int .i64) (.prod (.int .i64) (.prod (.int .i64) (.prod (.int .i64) (.int .i64)))))) (t5 : List (Int × Int × Int × Int × Int))))), (13, .s (.one (.val (.int .i64) (ilen b9.2.2.2.2.2 : Int)))), (14, .s (.one (.val (.int .i64) (t12 : Int)))), (15, .s (.one (.val (.bool) (t13 : Bool))))], objs := [(0, .box [.val (.int .i64) (b8.1 : Int), .val (.int .i64) (b8.2.1 : Int), .val (.int .i64) (b8.2.2 : Int)]), (1, .box [.val (.int .i64) (b9.1 : Int), .val (.int .i64) (b9.2.1.1 : Int), .val (.int .i64) (b9.2.1.2.1 : Int), .val (.int .i64) (b9.2.1.2.2 : Int), .val (.int .i64) (b9.2.2.1 : Int), .val (.int .i64) (b9.2.2.2.1 : Int), .val (.slice (.prod (.int .i64) (.prod (.int .i64) (.prod (.prod (.int .i64) (.prod (.int .i64) (.int .i64))) (.int .i64))))) (b9.2.2.2.2.1 : List (Int × Int × (Int × Int × Int) × Int)), .val (.slice (.prod (.int .i64) (.prod (.int .i64) (.prod (.int .i64) (.prod (.int .i64) (.int .i64)))))) (b9.2.2.2.2.2 : List (Int × Int × Int × Int × Int))])], nx := 2 }

noncomputable def T_impl_SeqTrue_lp0_m (N : Nat) {R : Type} (n : Nat) (st : St) (K : Ex → St → Option R) : Option R := loopN (roundG (T_impl_SeqTrue_ann 100002) fun st k => sx tab (T_impl_SeqTrue_ctx N) T_impl_SeqTrue_ann N (nthLoop Try.f27 0) st k) n st K

theorem T_impl_SeqTrue_lp0_step (N : Nat) {R : Type} (n : Nat) (K : Ex → St → Option R) (l4 : List (Int × Int × Int)) (t5 : List (Int × Int × Int × Int × Int)) (t7 : Int) (b8 : Int × Int × Int) (b9 : Int × (Int × Int × Int) × Int × Int × List (Int × Int × (Int × Int × Int) × Int) × List (Int × Int × Int × Int × Int)) :
    T_impl_SeqTrue_lp0_m N (n + 1) (T_impl_SeqTrue_lp0_sh l4 t5 t7 b8 b9) K =
    (bif decide (t7 < (ilen b9.2.2.2.2.2)) then
    (bif inb t7 (List.length t5) then
      ((T_impl_SeqValue N b8 l4 (List.getD t5 (Int.toNat t7) ((0 : Int), ((0 : Int), ((0 : Int), ((0 : Int), (0 : Int)))))).2.1).bind fun o14 =>
        (bif !o14.2.2.1 then
          (K .ret (T_impl_SeqTrue_lp0_e0 l4 t5 b8 b9))
          else
          (bif !((ieq o14.2.1.1 (List.getD t5 (Int.toNat t7) ((0 : Int), ((0 : Int), ((0 : Int), ((0 : Int), (0 : Int)))))).2.2.1) && ((ieq o14.2.1.2.1 (List.getD t5 (Int.toNat t7) ((0 : Int), ((0 : Int), ((0 : Int), ((0 : Int), (0 : Int)))))).2.2.2.1) && ((ieq o14.2.1.2.2 (List.getD t5 (Int.toNat t7) ((0 : Int), ((0 : Int), ((0 : Int), ((0 : Int), (0 : Int)))))).2.2.2.2) && true))) then
            (K .ret (T_impl_SeqTrue_lp0_e0 l4 t5 b8 b9))
            else
            (bif decide (t7 > (0 : Int)) then
              (bif inb (isub .i64 t7 (1 : Int)) (List.length b9.2.2.2.2.2) then
                (bif decide ((List.getD t5 (Int.toNat t7) ((0 : Int), ((0 : Int), ((0 : Int), ((0 : Int), (0 : Int)))))).2.1 < (List.getD b9.2.2.2.2.2 (Int.toNat (isub .i64 t7 (1 : Int))) ((0 : Int), ((0 : Int), ((0 : Int), ((0 : Int), (0 : Int)))))).2.1) then
                  (K .ret (T_impl_SeqTrue_lp0_e0 l4 t5 b8 b9))
                  else
                  (T_impl_SeqTrue_lp0_m N n (T_impl_SeqTrue_lp0_sh l4 t5 (iadd .i64 t7 (1 : Int)) b8 b9) K)) else none)
              else
              (T_impl_SeqTrue_lp0_m N n (T_impl_SeqTrue_lp0_sh l4 t5 (iadd .i64 t7 (1 : Int)) b8 b9) K))))) else none)
    else
    (K (.exit 0) (T_impl_SeqTrue_lp0_e1 l4 t5 b8 b9 t7 (decide (t7 < (ilen b9.2.2.2.2.2)))))) := by kernel_rfl

theorem T_impl_SeqTrue_lp0_eq (N : Nat) {R : Type} (l4 : List (Int × Int × Int)) (t5 : List (Int × Int × Int × Int × Int)) (b8 : Int × Int × Int) (b9 : Int × (Int × Int × Int) × Int × Int × List (Int × Int × (Int × Int × Int) × Int) × List (Int × Int × Int × Int × Int)) (K : Ex → St → Option R) : ∀ (n : Nat) (t7 : Int), T_impl_SeqTrue_lp0_m N n (T_impl_SeqTrue_lp0_sh l4 t5 t7 b8 b9) K = T_impl_SeqTrue_lp0 N l4 t5 b8 b9 (K .ret (T_impl_SeqTrue_lp0_e0 l4 t5 b8 b9)) (fun t12 t13 => (K (.exit 0) (T_impl_SeqTrue_lp0_e1 l4 t5 b8 b9 t12 t13))) n t7
  | 0, _ => rfl
  | n + 1, t7 => by rw [T_impl_SeqTrue_lp0_step, T_impl_SeqTrue_lp0]; (try simp only [T_impl_SeqTrue_lp0_eq N l4 t5 b8 b9 K n])

theorem T_impl_SeqTrue_c1 (N : Nat) (l2 : List (Int × Int × Int)) (w3 : Int × (Int × Int × Int) × Int × Int × List (Int × Int × (Int × Int × Int) × Int) × List (Int × Int × Int × Int × Int)) (start1 : Int × Int × Int) :
    ((ctxK (R := ODen (T_impl_SeqTrue_sg N).ps × RDen (T_impl_SeqTrue_sg N).rs) tab (T_impl_SeqTrue_ctx N) T_impl_SeqTrue_ann N (theCode Try.f27) [1, 0, 1, 0] (retK tab (T_impl_SeqTrue_sg N) Try.f27.results.toList some)) .ret (T_impl_SeqTrue_lp0_e0 l2 w3.2.2.2.2.2 start1 w3)) =
    (some (α := ODen (T_impl_SeqTrue_sg N).ps × RDen (T_impl_SeqTrue_sg N).rs) ((), (false, ()))) := by kernel_rfl

theorem T_impl_SeqTrue_c2 (N : Nat) (l2 : List (Int × Int × Int)) (w3 : Int × (Int × Int × Int) × Int × Int × List (Int × Int × (Int × Int × Int) × Int) × List (Int × Int × Int × Int × Int)) (start1 : Int × Int × Int) (t15 : Int) (t16 : Bool) :
    ((ctxK (R := ODen (T_impl_SeqTrue_sg N).ps × RDen (T_impl_SeqTrue_sg N).rs) tab (T_impl_SeqTrue_ctx N) T_impl_SeqTrue_ann N (theCode Try.f27) [1, 0, 1, 0] (retK tab (T_impl_SeqTrue_sg N) Try.f27.results.toList some)) (.exit 0) (T_impl_SeqTrue_lp0_e1 l2 w3.2.2.2.2.2 start1 w3 t15 t16)) =
    (some (α := ODen (T_impl_SeqTrue_sg N).ps × RDen (T_impl_SeqTrue_sg N).rs) ((), (true, ()))) := by kernel_rfl

theorem T_impl_SeqTrue_den (N : Nat) (start1 : Int × Int × Int) (l2 : List (Int × Int × Int)) (w3 : Int × (Int × Int × Int) × Int × Int × List (Int × Int × (Int × Int × Int) × Int) × List (Int × Int × Int × Int × Int)) :
    den (R := ODen (T_impl_SeqTrue_sg N).ps × RDen (T_impl_SeqTrue_sg N).rs) tab (T_impl_SeqTrue_ctx N) T_impl_SeqTrue_ann N (T_impl_SeqTrue_sg N) Try.f27 (start1, l2, w3, ()) some =
    (T_impl_SeqTrue_lp0 N l2 w3.2.2.2.2.2 start1 w3
    (some (α := ODen (T_impl_SeqTrue_sg N).ps × RDen (T_impl_SeqTrue_sg N).rs) ((), (false, ())))
    (fun t15 t16 =>
      (some (α := ODen (T_impl_SeqTrue_sg N).ps × RDen (T_impl_SeqTrue_sg N).rs) ((), (true, ()))))
     N (0 : Int)) := by
  have h : den (R := ODen (T_impl_SeqTrue_sg N).ps × RDen (T_impl_SeqTrue_sg N).rs) tab (T_impl_SeqTrue_ctx N) T_impl_SeqTrue_ann N (T_impl_SeqTrue_sg N) Try.f27 (start1, l2, w3, ()) some =
    (T_impl_SeqTrue_lp0_m N N (T_impl_SeqTrue_lp0_sh l2 w3.2.2.2.2.2 (0 : Int) start1 w3) (ctxK (R := ODen (T_impl_SeqTrue_sg N).ps × RDen (T_impl_SeqTrue_sg N).rs) tab (T_impl_SeqTrue_ctx N) T_impl_SeqTrue_ann N (theCode Try.f27) [1, 0, 1, 0] (retK tab (T_impl_SeqTrue_sg N) Try.f27.results.toList some))) := by kernel_rfl
  rw [h]
  (try simp only [T_impl_SeqTrue_lp0_eq, T_impl_SeqTrue_c1, T_impl_SeqTrue_c2]) <;> rfl

theorem T_impl_SeqTrue_ok (N : Nat) : chkBody Try.f27 (T_impl_SeqTrue_sg N).ps = true := by kernel_rfl

theorem T_impl_SeqTrue_callable : Callable Try.prog 27 := callable_of Try.func27 (show chkFn Try.f27 = true by kernel_rfl)

theorem T_impl_SeqTrue_good (N : Nat) : Good Try.prog 27 (T_impl_SeqTrue_sg N) :=
  good_body mixedOk tabOk (ctx_cons (T_impl_SeqValue_good N) T_impl_SeqValue_callable ctx_nil) Try.func27 (T_impl_SeqTrue_ok N) (fun d _ h => ⟨N, (T_impl_SeqTrue_den N d.1 d.2.1 d.2.2.1).trans h⟩)

noncomputable def T_laws_FnSeq_sg (N : Nat) : Sig := Sig.of [.v (.slice (.int .u8)) false] [.v (.bool) false] (fun d => T_laws_FnSeq N d.1)

def T_laws_FnSeq_ann : Nat → List Ghost
  | _ => []

noncomputable def T_laws_FnSeq_ctx (N : Nat) : Ctx := [(22, T_laws_big_sg N), (23, T_spec_DrawSeqPlay_sg N), (24, T_impl_SeqPlay_sg N), (25, T_spec_TriplesOk_sg N), (26, T_spec_SeqTrue_sg N), (27, T_impl_SeqTrue_sg N), (28, T_impl_SeqValue_sg N)]

theorem T_laws_FnSeq_den (N : Nat) (code1 : List Int) :
    den (R := ODen (T_laws_FnSeq_sg N).ps × RDen (T_laws_FnSeq_sg N).rs) tab (T_laws_FnSeq_ctx N) T_laws_FnSeq_ann N (T_laws_FnSeq_sg N) Try.f5 (code1, ()) some =
    ((T_laws_big N code1).bind fun o2 =>
    (bif o2.2.1 then
      (some (α := ODen (T_laws_FnSeq_sg N).ps × RDen (T_laws_FnSeq_sg N).rs) ((), (true, ())))
      else
      ((T_spec_DrawSeqPlay N code1).bind fun o3 =>
        ((T_impl_SeqPlay N o3.2.1 o3.2.2.1 o3.2.2.2.1).bind fun o4 =>
          ((T_spec_TriplesOk N o3.2.2.1).bind fun o5 =>
            (bif !o5.2.1 then
              (some (α := ODen (T_laws_FnSeq_sg N).ps × RDen (T_laws_FnSeq_sg N).rs) ((), ((ilen o4.2.1.2.2.2.2.1) == (0 : Int), ())))
              else
              ((T_spec_TriplesOk N ([o3.2.1])).bind fun o6 =>
                (bif !o6.2.1 then
                  (some (α := ODen (T_laws_FnSeq_sg N).ps × RDen (T_laws_FnSeq_sg N).rs) ((), ((ilen o4.2.1.2.2.2.2.1) == (0 : Int), ())))
                  else
                  (bif decide ((ilen o3.2.2.2.1) > (200 : Int)) then
                    (some (α := ODen (T_laws_FnSeq_sg N).ps × RDen (T_laws_FnSeq_sg N).rs) ((), ((ilen o4.2.1.2.2.2.2.1) == (0 : Int), ())))
                    else
                    ((T_spec_SeqTrue N o3.2.1 o3.2.2.1 o4.2.1).bind fun o7 =>
                      (bif !o7.2.1 then
                        (some (α := ODen (T_laws_FnSeq_sg N).ps × RDen (T_laws_FnSeq_sg N).rs) ((), (false, ())))
                        else
                        ((T_impl_SeqTrue N o3.2.1 o3.2.2.1 o4.2.1).bind fun o8 =>
                          (bif !o8.2.1 then
                            (some (α := ODen (T_laws_FnSeq_sg N).ps × RDen (T_laws_FnSeq_sg N).rs) ((), (false, ())))
                            else
                            (bif (ilen o4.2.1.2.2.2.2.1) != (3 : Int) then
                              (some (α := ODen (T_laws_FnSeq_sg N).ps × RDen (T_laws_FnSeq_sg N).rs) ((), (false, ())))
                              else
                              ((T_impl_SeqValue N o3.2.1 o3.2.2.1 o4.2.1.1).bind fun o9 =>
                                (bif inz (2 : Int) then
                                  (bif beq o9.2.2.1 ((irem o4.2.1.1 (2 : Int)) == (0 : Int)) then
                                    (bif !o9.2.2.1 then
                                      (bif inz (2 : Int) then
                                        (some (α := ODen (T_laws_FnSeq_sg N).ps × RDen (T_laws_FnSeq_sg N).rs) ((), ((iquo .i64 o4.2.1.1 (2 : Int)) == o4.2.1.2.2.2.1, ()))) else none)
                                      else
                                      (bif (ieq o9.2.1.1 o4.2.1.2.1.1) && ((ieq o9.2.1.2.1 o4.2.1.2.1.2.1) && ((ieq o9.2.1.2.2 o4.2.1.2.1.2.2) && true)) then
                                        (bif inz (2 : Int) then
                                          (some (α := ODen (T_laws_FnSeq_sg N).ps × RDen (T_laws_FnSeq_sg N).rs) ((), ((iquo .i64 o4.2.1.1 (2 : Int)) == o4.2.1.2.2.2.1, ()))) else none)
                                        else
                                        (some (α := ODen (T_laws_FnSeq_sg N).ps × RDen (T_laws_FnSeq_sg N).rs) ((), (false, ())))))
                                    else
                                    (some (α := ODen (T_laws_FnSeq_sg N).ps × RDen (T_laws_FnSeq_sg N).rs) ((), (false, ())))) else none)))))))))))))))) := by kernel_rfl

theorem T_laws_FnSeq_ok (N : Nat) : chkBody Try.f5 (T_laws_FnSeq_sg N).ps = true := by kernel_rfl

theorem T_laws_FnSeq_callable : Callable Try.prog 5 := callable_of Try.func5 (show chkFn Try.f5 = true by kernel_rfl)

theorem T_laws_FnSeq_good (N : Nat) : Good Try.prog 5 (T_laws_FnSeq_sg N) :=
  good_body mixedOk tabOk (ctx_cons (T_laws_big_good N) T_laws_big_callable (ctx_cons (T_spec_DrawSeqPlay_good N) T_spec_DrawSeqPlay_callable (ctx_cons (T_impl_SeqPlay_good N) T_impl_SeqPlay_callable (ctx_cons (T_spec_TriplesOk_good N) T_spec_TriplesOk_callable (ctx_cons (T_spec_SeqTrue_good N) T_spec_SeqTrue_callable (ctx_cons (T_impl_SeqTrue_good N) T_impl_SeqTrue_callable (ctx_cons (T_impl_SeqValue_good N) T_impl_SeqValue_callable ctx_nil))))))) Try.func5 (T_laws_FnSeq_ok N) (fun d _ h => ⟨N, (T_laws_FnSeq_den N d.1).trans h⟩)

end Go.Sx
