/- Each Go function does what its Lean function says. -/
import Derived.Test.YtfbomdanghhgcaaT
import Derived.Test.YtfbomdanghhgcaaProg
namespace Go.Sx
open Go.Proofs
set_option linter.unusedVariables false
set_option linter.unusedSimpArgs false

def tab : Tab := [(3, ⟨.int .i64, false, .basic⟩), (4, ⟨.bool, false, .basic⟩), (5, ⟨.int .u8, false, .basic⟩), (22, ⟨.slice (.int .u8), false, .slice 5⟩), (26, ⟨.slice (.int .i64), false, .slice 3⟩), (50, ⟨.prod (.int .i64) (.int .i64), true, .struct [(0, 3), (1, 3)]⟩), (51, ⟨.slice (.prod (.int .i64) (.int .i64)), false, .slice 50⟩), (64, ⟨.prod (.int .i64) (.prod (.slice (.int .i64)) (.prod (.slice (.int .i64)) (.prod (.slice (.prod (.int .i64) (.int .i64))) (.int .i64)))), true, .struct [(0, 3), (1, 26), (2, 26), (3, 51), (4, 3)]⟩), (66, ⟨.slice (.prod (.int .i64) (.prod (.int .i64) (.prod (.int .i64) (.int .i64)))), false, .slice 127⟩), (127, ⟨.prod (.int .i64) (.prod (.int .i64) (.prod (.int .i64) (.int .i64))), true, .struct [(0, 3), (1, 3), (2, 3), (3, 3)]⟩), (138, ⟨.slice (.prod (.int .i64) (.prod (.int .i64) (.slice (.int .i64)))), false, .slice 183⟩), (140, ⟨.prod (.slice (.int .i64)) (.prod (.slice (.int .i64)) (.prod (.slice (.prod (.int .i64) (.int .i64))) (.prod (.int .i64) (.prod (.slice (.prod (.int .i64) (.prod (.int .i64) (.slice (.int .i64))))) (.slice (.int .i64)))))), true, .struct [(0, 26), (1, 26), (2, 51), (3, 3), (4, 138), (5, 26)]⟩), (143, ⟨.slice (.slice (.prod (.int .i64) (.prod (.int .i64) (.prod (.int .i64) (.int .i64))))), false, .slice 187⟩), (149, ⟨.prod (.slice (.int .i64)) (.prod (.slice (.int .i64)) (.int .i64)), true, .struct [(0, 26), (1, 26), (2, 3)]⟩), (151, ⟨.prod (.int .i64) (.prod (.slice (.int .i64)) (.prod (.slice (.int .i64)) (.prod (.slice (.int .i64)) (.int .i64)))), true, .struct [(0, 3), (1, 26), (2, 149)]⟩), (155, ⟨.prod (.slice (.int .u8)) (.prod (.int .i64) (.int .i64)), true, .struct [(0, 22), (1, 3), (2, 3)]⟩), (183, ⟨.prod (.int .i64) (.prod (.int .i64) (.slice (.int .i64))), true, .struct [(0, 3), (1, 3), (2, 26)]⟩), (187, ⟨.slice (.prod (.int .i64) (.prod (.int .i64) (.prod (.int .i64) (.int .i64)))), true, .struct [(0, 66)]⟩), (190, ⟨.prod (.slice (.prod (.int .i64) (.prod (.int .i64) (.prod (.int .i64) (.int .i64))))) (.slice (.slice (.prod (.int .i64) (.prod (.int .i64) (.prod (.int .i64) (.int .i64)))))), true, .struct [(0, 66), (1, 143)]⟩), (194, ⟨.slice (.prod (.int .i64) (.prod (.slice (.int .i64)) (.prod (.slice (.int .i64)) (.prod (.slice (.int .i64)) (.int .i64))))), false, .slice 196⟩), (196, ⟨.prod (.int .i64) (.prod (.slice (.int .i64)) (.prod (.slice (.int .i64)) (.prod (.slice (.int .i64)) (.int .i64)))), true, .struct [(0, 3), (1, 26), (2, 149)]⟩)]

theorem mixedOk : Try.prog.follows .mixedOrders = true := by kernel_rfl

theorem tabOk : TabOk Try.prog tab := tab_ok (show chkTab Try.prog tab tab = true by kernel_rfl)

noncomputable def T_laws_big_sg (N : Nat) : Sig := Sig.of [.v (.slice (.int .u8)) false] [.v (.bool) false] (fun d => T_laws_big N d.1)

def T_laws_big_ann : Nat → List Ghost
  | _ => []

noncomputable def T_laws_big_ctx (N : Nat) : Ctx := []

theorem T_laws_big_den (N : Nat) (code1 : List Int) :
    den (R := ODen (T_laws_big_sg N).ps × RDen (T_laws_big_sg N).rs) tab (T_laws_big_ctx N) T_laws_big_ann N (T_laws_big_sg N) Try.f9 (code1, ()) some =
    (T_laws_big N code1 : Option (ODen (T_laws_big_sg N).ps × RDen (T_laws_big_sg N).rs)) := by kernel_rfl

theorem T_laws_big_ok (N : Nat) : chkBody Try.f9 (T_laws_big_sg N).ps = true := by kernel_rfl

theorem T_laws_big_callable : Callable Try.prog 9 := callable_of Try.func9 (show chkFn Try.f9 = true by kernel_rfl)

theorem T_laws_big_good (N : Nat) : Good Try.prog 9 (T_laws_big_sg N) :=
  good_body mixedOk tabOk ctx_nil Try.func9 (T_laws_big_ok N) (fun d _ h => ⟨N, (T_laws_big_den N d.1).trans h⟩)

noncomputable def T_spec_l1New_sg (N : Nat) : Sig := Sig.of [.v (.slice (.int .u8)) false] [.box (.prod (.slice (.int .u8)) (.prod (.int .i64) (.int .i64)))] (fun d => T_spec_l1New N d.1)

def T_spec_l1New_ann : Nat → List Ghost
  | 3 => [.canon [0, 3, 4, 15]]
  | 4 => [.canon [0, 3, 4]]
  | 5 => [.canon [0, 3, 4]]
  | 100003 => [.canon [0, 3, 4]]
  | _ => []

noncomputable def T_spec_l1New_ctx (N : Nat) : Ctx := []

def T_spec_l1New_lp0_sh (code2 : List Int) (h3 : Int) (i4 : Int) : St := { env := [(0, .s (.one (.val (.slice (.int .u8)) (code2 : List Int)))), (3, .s (.one (.val (.int .i64) (h3 : Int)))), (4, .s (.one (.val (.int .i64) (i4 : Int))))], objs := [], nx := 0 }

def T_spec_l1New_lp0_e0 (code2 : List Int) (h5 : Int) (i6 : Int) (t7 : Bool) : St := { env := [(0, .s (.one (.val (.slice (.int .u8)) (code2 : List Int)))), (3, .s (.one (.val (.int .i64) (h5 : Int)))), (4, .s (.one (.val (.int .i64) (i6 : Int)))), (15, .s (.one (.val (.bool) (t7 : Bool))))], objs := [], nx := 0 }

noncomputable def T_spec_l1New_lp0_m (N : Nat) {R : Type} (n : Nat) (st : St) (K : Ex → St → Option R) : Option R := loopN (roundG (T_spec_l1New_ann 100003) fun st k => sx tab (T_spec_l1New_ctx N) T_spec_l1New_ann N (nthLoop Try.f53 0) st k) n st K

theorem T_spec_l1New_lp0_step (N : Nat) {R : Type} (n : Nat) (K : Ex → St → Option R) (code2 : List Int) (h3 : Int) (i4 : Int) :
    T_spec_l1New_lp0_m N (n + 1) (T_spec_l1New_lp0_sh code2 h3 i4) K =
    (bif decide (i4 < (ilen code2)) then
 (bif decide (i4 < (4000 : Int)) then
 (bif inb i4 (List.length code2) then
 (T_spec_l1New_lp0_m N n (T_spec_l1New_lp0_sh code2 (iand .i64 (iadd .i64 (iadd .i64 (imul .i64 h3 (131 : Int)) (IntKind.wrap .i64 (List.getD code2 (Int.toNat i4) (0 : Int)))) (7 : Int)) (1073741823 : Int)) (iadd .i64 i4 (1 : Int))) K) else none)
 else
 (K (.exit 0) (T_spec_l1New_lp0_e0 code2 h3 i4 (decide (i4 < (4000 : Int))))))
 else
 (K (.exit 0) (T_spec_l1New_lp0_e0 code2 h3 i4 false))) := by kernel_rfl

theorem T_spec_l1New_lp0_eq (N : Nat) {R : Type} (code2 : List Int) (K : Ex → St → Option R) : ∀ (n : Nat) (h3 : Int) (i4 : Int), T_spec_l1New_lp0_m N n (T_spec_l1New_lp0_sh code2 h3 i4) K = T_spec_l1New_lp0 N code2 (fun h5 i6 t7 => (K (.exit 0) (T_spec_l1New_lp0_e0 code2 h5 i6 t7))) n h3 i4
  | 0, _, _ => rfl
  | n + 1, h3, i4 => by rw [T_spec_l1New_lp0_step, T_spec_l1New_lp0]; (try simp only [T_spec_l1New_lp0_eq N code2 K n])

theorem T_spec_l1New_c1 (N : Nat) (code1 : List Int) (h8 : Int) (i9 : Int) (t10 : Bool) :
    ((ctxK (R := ODen (T_spec_l1New_sg N).ps × RDen (T_spec_l1New_sg N).rs) tab (T_spec_l1New_ctx N) T_spec_l1New_ann N (theCode Try.f53) [1, 1, 0, 1, 0] (retK tab (T_spec_l1New_sg N) Try.f53.results.toList some)) (.exit 0) (T_spec_l1New_lp0_e0 code1 h8 i9 t10)) =
    (some (α := ODen (T_spec_l1New_sg N).ps × RDen (T_spec_l1New_sg N).rs) ((), ((code1, ((0 : Int), h8)), ()))) := by kernel_rfl

theorem T_spec_l1New_den (N : Nat) (code1 : List Int) :
 den (R := ODen (T_spec_l1New_sg N).ps × RDen (T_spec_l1New_sg N).rs) tab (T_spec_l1New_ctx N) T_spec_l1New_ann N (T_spec_l1New_sg N) Try.f53 (code1, ()) some =
 (T_spec_l1New N code1 : Option (ODen (T_spec_l1New_sg N).ps × RDen (T_spec_l1New_sg N).rs)) := by
  have h : den (R := ODen (T_spec_l1New_sg N).ps × RDen (T_spec_l1New_sg N).rs) tab (T_spec_l1New_ctx N) T_spec_l1New_ann N (T_spec_l1New_sg N) Try.f53 (code1, ()) some =
 (T_spec_l1New_lp0_m N N (T_spec_l1New_lp0_sh code1 (iadd .i64 (10101 : Int) (ilen code1)) (0 : Int)) (ctxK (R := ODen (T_spec_l1New_sg N).ps × RDen (T_spec_l1New_sg N).rs) tab (T_spec_l1New_ctx N) T_spec_l1New_ann N (theCode Try.f53) [1, 1, 0, 1, 0] (retK tab (T_spec_l1New_sg N) Try.f53.results.toList some))) := by kernel_rfl
  rw [h]
  (try simp only [T_spec_l1New_lp0_eq, T_spec_l1New_c1]) <;> rfl

theorem T_spec_l1New_ok (N : Nat) : chkBody Try.f53 (T_spec_l1New_sg N).ps = true := by kernel_rfl

theorem T_spec_l1New_callable : Callable Try.prog 53 := callable_of Try.func53 (show chkFn Try.f53 = true by kernel_rfl)

theorem T_spec_l1New_good (N : Nat) : Good Try.prog 53 (T_spec_l1New_sg N) :=
  good_body mixedOk tabOk ctx_nil Try.func53 (T_spec_l1New_ok N) (fun d _ h => ⟨N, (T_spec_l1New_den N d.1).trans h⟩)

noncomputable def T_spec_l1Byte_sg (N : Nat) : Sig := Sig.of [.box (.prod (.slice (.int .u8)) (.prod (.int .i64) (.int .i64)))] [.v (.int .i64) false] (fun d => T_spec_l1Byte N d.1)

def T_spec_l1Byte_ann : Nat → List Ghost
  | _ => []

noncomputable def T_spec_l1Byte_ctx (N : Nat) : Ctx := []

theorem T_spec_l1Byte_den (N : Nat) (c1 : List Int × Int × Int) :
    den (R := ODen (T_spec_l1Byte_sg N).ps × RDen (T_spec_l1Byte_sg N).rs) tab (T_spec_l1Byte_ctx N) T_spec_l1Byte_ann N (T_spec_l1Byte_sg N) Try.f142 (c1, ()) some =
    (T_spec_l1Byte N c1 : Option (ODen (T_spec_l1Byte_sg N).ps × RDen (T_spec_l1Byte_sg N).rs)) := by kernel_rfl

theorem T_spec_l1Byte_ok (N : Nat) : chkBody Try.f142 (T_spec_l1Byte_sg N).ps = true := by kernel_rfl

theorem T_spec_l1Byte_callable : Callable Try.prog 142 := callable_of Try.func142 (show chkFn Try.f142 = true by kernel_rfl)

theorem T_spec_l1Byte_good (N : Nat) : Good Try.prog 142 (T_spec_l1Byte_sg N) :=
  good_body mixedOk tabOk ctx_nil Try.func142 (T_spec_l1Byte_ok N) (fun d _ h => ⟨N, (T_spec_l1Byte_den N d.1).trans h⟩)

noncomputable def T_spec_l1Below_sg (N : Nat) : Sig := Sig.of [.box (.prod (.slice (.int .u8)) (.prod (.int .i64) (.int .i64))), .v (.int .i64) false] [.v (.int .i64) false] (fun d => T_spec_l1Below N d.1 d.2.1)

def T_spec_l1Below_ann : Nat → List Ghost
  | _ => []

noncomputable def T_spec_l1Below_ctx (N : Nat) : Ctx := [(142, T_spec_l1Byte_sg N)]

theorem T_spec_l1Below_den (N : Nat) (c1 : List Int × Int × Int) (n2 : Int) :
    den (R := ODen (T_spec_l1Below_sg N).ps × RDen (T_spec_l1Below_sg N).rs) tab (T_spec_l1Below_ctx N) T_spec_l1Below_ann N (T_spec_l1Below_sg N) Try.f90 (c1, n2, ()) some =
    (T_spec_l1Below N c1 n2 : Option (ODen (T_spec_l1Below_sg N).ps × RDen (T_spec_l1Below_sg N).rs)) := by kernel_rfl

theorem T_spec_l1Below_ok (N : Nat) : chkBody Try.f90 (T_spec_l1Below_sg N).ps = true := by kernel_rfl

theorem T_spec_l1Below_callable : Callable Try.prog 90 := callable_of Try.func90 (show chkFn Try.f90 = true by kernel_rfl)

theorem T_spec_l1Below_good (N : Nat) : Good Try.prog 90 (T_spec_l1Below_sg N) :=
  good_body mixedOk tabOk (ctx_cons (T_spec_l1Byte_good N) T_spec_l1Byte_callable ctx_nil) Try.func90 (T_spec_l1Below_ok N) (fun d _ h => ⟨N, (T_spec_l1Below_den N d.1 d.2.1).trans h⟩)

noncomputable def T_spec_l4DrawReg_sg (N : Nat) : Sig := Sig.of [.box (.prod (.slice (.int .u8)) (.prod (.int .i64) (.int .i64)))] [.v (.int .i64) false] (fun d => T_spec_l4DrawReg N d.1)

def T_spec_l4DrawReg_ann : Nat → List Ghost
  | _ => []

noncomputable def T_spec_l4DrawReg_ctx (N : Nat) : Ctx := [(90, T_spec_l1Below_sg N)]

theorem T_spec_l4DrawReg_den (N : Nat) (c1 : List Int × Int × Int) :
    den (R := ODen (T_spec_l4DrawReg_sg N).ps × RDen (T_spec_l4DrawReg_sg N).rs) tab (T_spec_l4DrawReg_ctx N) T_spec_l4DrawReg_ann N (T_spec_l4DrawReg_sg N) Try.f180 (c1, ()) some =
    (T_spec_l4DrawReg N c1 : Option (ODen (T_spec_l4DrawReg_sg N).ps × RDen (T_spec_l4DrawReg_sg N).rs)) := by kernel_rfl

theorem T_spec_l4DrawReg_ok (N : Nat) : chkBody Try.f180 (T_spec_l4DrawReg_sg N).ps = true := by kernel_rfl

theorem T_spec_l4DrawReg_callable : Callable Try.prog 180 := callable_of Try.func180 (show chkFn Try.f180 = true by kernel_rfl)

theorem T_spec_l4DrawReg_good (N : Nat) : Good Try.prog 180 (T_spec_l4DrawReg_sg N) :=
  good_body mixedOk tabOk (ctx_cons (T_spec_l1Below_good N) T_spec_l1Below_callable ctx_nil) Try.func180 (T_spec_l4DrawReg_ok N) (fun d _ h => ⟨N, (T_spec_l4DrawReg_den N d.1).trans h⟩)

noncomputable def T_spec_l1Once_sg (N : Nat) : Sig := Sig.of [.box (.prod (.slice (.int .u8)) (.prod (.int .i64) (.int .i64))), .v (.int .i64) false] [.v (.bool) false] (fun d => T_spec_l1Once N d.1 d.2.1)

def T_spec_l1Once_ann : Nat → List Ghost
  | _ => []

noncomputable def T_spec_l1Once_ctx (N : Nat) : Ctx := [(90, T_spec_l1Below_sg N)]

theorem T_spec_l1Once_den (N : Nat) (c1 : List Int × Int × Int) (n2 : Int) :
    den (R := ODen (T_spec_l1Once_sg N).ps × RDen (T_spec_l1Once_sg N).rs) tab (T_spec_l1Once_ctx N) T_spec_l1Once_ann N (T_spec_l1Once_sg N) Try.f88 (c1, n2, ()) some =
    (T_spec_l1Once N c1 n2 : Option (ODen (T_spec_l1Once_sg N).ps × RDen (T_spec_l1Once_sg N).rs)) := by kernel_rfl

theorem T_spec_l1Once_ok (N : Nat) : chkBody Try.f88 (T_spec_l1Once_sg N).ps = true := by kernel_rfl

theorem T_spec_l1Once_callable : Callable Try.prog 88 := callable_of Try.func88 (show chkFn Try.f88 = true by kernel_rfl)

theorem T_spec_l1Once_good (N : Nat) : Good Try.prog 88 (T_spec_l1Once_sg N) :=
  good_body mixedOk tabOk (ctx_cons (T_spec_l1Below_good N) T_spec_l1Below_callable ctx_nil) Try.func88 (T_spec_l1Once_ok N) (fun d _ h => ⟨N, (T_spec_l1Once_den N d.1 d.2.1).trans h⟩)

noncomputable def T_spec_l1PickInt_sg (N : Nat) : Sig := Sig.of [.box (.prod (.slice (.int .u8)) (.prod (.int .i64) (.int .i64))), .v (.slice (.int .i64)) false] [.v (.int .i64) false] (fun d => T_spec_l1PickInt N d.1 d.2.1)

def T_spec_l1PickInt_ann : Nat → List Ghost
  | _ => []

noncomputable def T_spec_l1PickInt_ctx (N : Nat) : Ctx := [(90, T_spec_l1Below_sg N)]

theorem T_spec_l1PickInt_den (N : Nat) (c1 : List Int × Int × Int) (list2 : List Int) :
    den (R := ODen (T_spec_l1PickInt_sg N).ps × RDen (T_spec_l1PickInt_sg N).rs) tab (T_spec_l1PickInt_ctx N) T_spec_l1PickInt_ann N (T_spec_l1PickInt_sg N) Try.f170 (c1, list2, ()) some =
    (T_spec_l1PickInt N c1 list2 : Option (ODen (T_spec_l1PickInt_sg N).ps × RDen (T_spec_l1PickInt_sg N).rs)) := by kernel_rfl

theorem T_spec_l1PickInt_ok (N : Nat) : chkBody Try.f170 (T_spec_l1PickInt_sg N).ps = true := by kernel_rfl

theorem T_spec_l1PickInt_callable : Callable Try.prog 170 := callable_of Try.func170 (show chkFn Try.f170 = true by kernel_rfl)

theorem T_spec_l1PickInt_good (N : Nat) : Good Try.prog 170 (T_spec_l1PickInt_sg N) :=
  good_body mixedOk tabOk (ctx_cons (T_spec_l1Below_good N) T_spec_l1Below_callable ctx_nil) Try.func170 (T_spec_l1PickInt_ok N) (fun d _ h => ⟨N, (T_spec_l1PickInt_den N d.1 d.2.1).trans h⟩)

noncomputable def T_spec_l3Draw_sg (N : Nat) : Sig := Sig.of [.box (.prod (.slice (.int .u8)) (.prod (.int .i64) (.int .i64)))] [.v (.int .i64) false] (fun d => T_spec_l3Draw N d.1)

def T_spec_l3Draw_ann : Nat → List Ghost
  | _ => []

noncomputable def T_spec_l3Draw_ctx (N : Nat) : Ctx := [(88, T_spec_l1Once_sg N), (170, T_spec_l1PickInt_sg N), (90, T_spec_l1Below_sg N)]

theorem T_spec_l3Draw_den (N : Nat) (c1 : List Int × Int × Int) :
    den (R := ODen (T_spec_l3Draw_sg N).ps × RDen (T_spec_l3Draw_sg N).rs) tab (T_spec_l3Draw_ctx N) T_spec_l3Draw_ann N (T_spec_l3Draw_sg N) Try.f140 (c1, ()) some =
    (T_spec_l3Draw N c1 : Option (ODen (T_spec_l3Draw_sg N).ps × RDen (T_spec_l3Draw_sg N).rs)) := by kernel_rfl

theorem T_spec_l3Draw_ok (N : Nat) : chkBody Try.f140 (T_spec_l3Draw_sg N).ps = true := by kernel_rfl

theorem T_spec_l3Draw_callable : Callable Try.prog 140 := callable_of Try.func140 (show chkFn Try.f140 = true by kernel_rfl)

theorem T_spec_l3Draw_good (N : Nat) : Good Try.prog 140 (T_spec_l3Draw_sg N) :=
  good_body mixedOk tabOk (ctx_cons (T_spec_l1Once_good N) T_spec_l1Once_callable (ctx_cons (T_spec_l1PickInt_good N) T_spec_l1PickInt_callable (ctx_cons (T_spec_l1Below_good N) T_spec_l1Below_callable ctx_nil))) Try.func140 (T_spec_l3Draw_ok N) (fun d _ h => ⟨N, (T_spec_l3Draw_den N d.1).trans h⟩)

noncomputable def T_spec_l4DrawCell_sg (N : Nat) : Sig := Sig.of [.box (.prod (.slice (.int .u8)) (.prod (.int .i64) (.int .i64)))] [.v (.int .i64) false] (fun d => T_spec_l4DrawCell N d.1)

def T_spec_l4DrawCell_ann : Nat → List Ghost
  | _ => []

noncomputable def T_spec_l4DrawCell_ctx (N : Nat) : Ctx := [(88, T_spec_l1Once_sg N), (90, T_spec_l1Below_sg N)]

theorem T_spec_l4DrawCell_den (N : Nat) (c1 : List Int × Int × Int) :
    den (R := ODen (T_spec_l4DrawCell_sg N).ps × RDen (T_spec_l4DrawCell_sg N).rs) tab (T_spec_l4DrawCell_ctx N) T_spec_l4DrawCell_ann N (T_spec_l4DrawCell_sg N) Try.f181 (c1, ()) some =
    (T_spec_l4DrawCell N c1 : Option (ODen (T_spec_l4DrawCell_sg N).ps × RDen (T_spec_l4DrawCell_sg N).rs)) := by kernel_rfl

theorem T_spec_l4DrawCell_ok (N : Nat) : chkBody Try.f181 (T_spec_l4DrawCell_sg N).ps = true := by kernel_rfl

theorem T_spec_l4DrawCell_callable : Callable Try.prog 181 := callable_of Try.func181 (show chkFn Try.f181 = true by kernel_rfl)

theorem T_spec_l4DrawCell_good (N : Nat) : Good Try.prog 181 (T_spec_l4DrawCell_sg N) :=
  good_body mixedOk tabOk (ctx_cons (T_spec_l1Once_good N) T_spec_l1Once_callable (ctx_cons (T_spec_l1Below_good N) T_spec_l1Below_callable ctx_nil)) Try.func181 (T_spec_l4DrawCell_ok N) (fun d _ h => ⟨N, (T_spec_l4DrawCell_den N d.1).trans h⟩)

noncomputable def T_spec_l4DrawKey_sg (N : Nat) : Sig := Sig.of [.box (.prod (.slice (.int .u8)) (.prod (.int .i64) (.int .i64)))] [.v (.int .i64) false] (fun d => T_spec_l4DrawKey N d.1)

def T_spec_l4DrawKey_ann : Nat → List Ghost
  | _ => []

noncomputable def T_spec_l4DrawKey_ctx (N : Nat) : Ctx := [(88, T_spec_l1Once_sg N), (90, T_spec_l1Below_sg N), (170, T_spec_l1PickInt_sg N)]

theorem T_spec_l4DrawKey_den (N : Nat) (c1 : List Int × Int × Int) :
    den (R := ODen (T_spec_l4DrawKey_sg N).ps × RDen (T_spec_l4DrawKey_sg N).rs) tab (T_spec_l4DrawKey_ctx N) T_spec_l4DrawKey_ann N (T_spec_l4DrawKey_sg N) Try.f182 (c1, ()) some =
    (T_spec_l4DrawKey N c1 : Option (ODen (T_spec_l4DrawKey_sg N).ps × RDen (T_spec_l4DrawKey_sg N).rs)) := by kernel_rfl

theorem T_spec_l4DrawKey_ok (N : Nat) : chkBody Try.f182 (T_spec_l4DrawKey_sg N).ps = true := by kernel_rfl

theorem T_spec_l4DrawKey_callable : Callable Try.prog 182 := callable_of Try.func182 (show chkFn Try.f182 = true by kernel_rfl)

theorem T_spec_l4DrawKey_good (N : Nat) : Good Try.prog 182 (T_spec_l4DrawKey_sg N) :=
  good_body mixedOk tabOk (ctx_cons (T_spec_l1Once_good N) T_spec_l1Once_callable (ctx_cons (T_spec_l1Below_good N) T_spec_l1Below_callable (ctx_cons (T_spec_l1PickInt_good N) T_spec_l1PickInt_callable ctx_nil))) Try.func182 (T_spec_l4DrawKey_ok N) (fun d _ h => ⟨N, (T_spec_l4DrawKey_den N d.1).trans h⟩)

noncomputable def T_spec_l4Plain_sg (N : Nat) : Sig := Sig.of [.box (.prod (.slice (.int .u8)) (.prod (.int .i64) (.int .i64))), .v (.int .i64) false] [.v (.prod (.int .i64) (.prod (.int .i64) (.prod (.int .i64) (.int .i64)))) true] (fun d => T_spec_l4Plain N d.1 d.2.1)

def T_spec_l4Plain_ann : Nat → List Ghost
  | _ => []

noncomputable def T_spec_l4Plain_ctx (N : Nat) : Ctx := [(180, T_spec_l4DrawReg_sg N), (140, T_spec_l3Draw_sg N), (181, T_spec_l4DrawCell_sg N), (90, T_spec_l1Below_sg N), (182, T_spec_l4DrawKey_sg N)]

theorem T_spec_l4Plain_den (N : Nat) (c1 : List Int × Int × Int) (kind2 : Int) :
    den (R := ODen (T_spec_l4Plain_sg N).ps × RDen (T_spec_l4Plain_sg N).rs) tab (T_spec_l4Plain_ctx N) T_spec_l4Plain_ann N (T_spec_l4Plain_sg N) Try.f157 (c1, kind2, ()) some =
    (T_spec_l4Plain N c1 kind2 : Option (ODen (T_spec_l4Plain_sg N).ps × RDen (T_spec_l4Plain_sg N).rs)) := by kernel_rfl

theorem T_spec_l4Plain_ok (N : Nat) : chkBody Try.f157 (T_spec_l4Plain_sg N).ps = true := by kernel_rfl

theorem T_spec_l4Plain_callable : Callable Try.prog 157 := callable_of Try.func157 (show chkFn Try.f157 = true by kernel_rfl)

theorem T_spec_l4Plain_good (N : Nat) : Good Try.prog 157 (T_spec_l4Plain_sg N) :=
  good_body mixedOk tabOk (ctx_cons (T_spec_l4DrawReg_good N) T_spec_l4DrawReg_callable (ctx_cons (T_spec_l3Draw_good N) T_spec_l3Draw_callable (ctx_cons (T_spec_l4DrawCell_good N) T_spec_l4DrawCell_callable (ctx_cons (T_spec_l1Below_good N) T_spec_l1Below_callable (ctx_cons (T_spec_l4DrawKey_good N) T_spec_l4DrawKey_callable ctx_nil))))) Try.func157 (T_spec_l4Plain_ok N) (fun d _ h => ⟨N, (T_spec_l4Plain_den N d.1 d.2.1).trans h⟩)

noncomputable def T_spec_l5Gen_sgr (N m : Nat) : Sig := Sig.of [.box (.prod (.slice (.int .u8)) (.prod (.int .i64) (.int .i64))), .v (.int .i64) false, .v (.int .i64) false, .v (.bool) false] [.v (.own (.prod (.int .i64) (.prod (.int .i64) (.prod (.int .i64) (.int .i64))))) false] (fun d => T_spec_l5Gen_r N m d.1 d.2.1 d.2.2.1 d.2.2.2.1)

noncomputable def T_spec_l5Gen_sg (N : Nat) : Sig := T_spec_l5Gen_sgr N N

def T_spec_l5Gen_ann : Nat → List Ghost
  | 3 => [.canon [0, 1, 2, 3, 9, 10, 27]]
  | 4 => [.canon [0, 1, 2, 3, 9, 10]]
  | 5 => [.canon [0, 1, 2, 3, 9, 10, 11]]
  | 6 => [.canon [0, 1, 2, 3, 9, 10]]
  | 7 => [.canon [0, 1, 2, 3, 9, 10, 11, 40]]
  | 8 => [.canon [0, 1, 2, 3, 9, 10]]
  | 9 => [.canon [0, 1, 2, 3, 9, 10, 11, 48]]
  | 10 => [.canon [0, 1, 2, 3, 9, 10]]
  | 11 => [.canon [0, 1, 2, 3, 9, 10, 11, 56]]
  | 12 => [.canon [0, 1, 2, 3, 9, 10]]
  | 13 => [.canon [0, 1, 2, 3, 9, 10, 11, 67]]
  | 14 => [.canon [0, 1, 2, 3, 9, 10, 12]]
  | 15 => [.canon [0, 1, 2, 3, 9, 10, 12]]
  | 16 => [.canon [0, 1, 2, 3, 9, 10]]
  | 17 => [.canon [0, 1, 2, 3, 9, 10, 100]]
  | 18 => [.canon [0, 1, 2, 3, 9, 10]]
  | 19 => [.canon [0, 1, 2, 3, 9, 10]]
  | 20 => [.canon [0, 1, 2, 3, 9, 10, 11, 109]]
  | 21 => [.canon [0, 1, 2, 3, 9, 10, 13]]
  | 22 => [.canon [0, 1, 2, 3, 9, 10, 13, 14]]
  | 23 => [.canon [0, 1, 2, 3, 9, 10, 13, 14]]
  | 24 => [.canon [0, 1, 2, 3, 9, 10, 13]]
  | 25 => [.canon [0, 1, 2, 3, 9, 10]]
  | 26 => [.canon [0, 1, 2, 3, 9, 10, 134]]
  | 27 => [.canon [0, 1, 2, 3, 9, 10]]
  | 28 => [.canon [0, 1, 2, 3, 9, 10, 145]]
  | 29 => [.canon [0, 1, 2, 3, 9, 10]]
  | 100003 => [.canon [0, 1, 2, 3, 9, 10]]
  | _ => []

noncomputable def T_spec_l5Gen_ctx (N m : Nat) : Ctx := [(90, T_spec_l1Below_sg N), (157, T_spec_l4Plain_sg N), (110, T_spec_l5Gen_sgr N m), (88, T_spec_l1Once_sg N)]

def T_spec_l5Gen_lp0_sh (most6 : Int) (deep7 : Int) (kid8 : Bool) (n9 : Int) (b10 : List Int × Int × Int) (l11 : List (Int × Int × Int × Int)) : St := { env := [(0, .s (.one (.ptr 0 0))), (1, .s (.one (.val (.int .i64) (most6 : Int)))), (2, .s (.one (.val (.int .i64) (deep7 : Int)))), (3, .s (.one (.val (.bool) (kid8 : Bool)))), (9, .s (.one (.own 1))), (10, .s (.one (.val (.int .i64) (n9 : Int))))], objs := [(0, .box [.val (.slice (.int .u8)) (b10.1 : List Int), .val (.int .i64) (b10.2.1 : Int), .val (.int .i64) (b10.2.2 : Int)]), (1, .arr (.prod (.int .i64) (.prod (.int .i64) (.prod (.int .i64) (.int .i64)))) (l11 : List (Int × Int × Int × Int)))], nx := 2 }

def T_spec_l5Gen_lp0_e0 (most6 : Int) (deep7 : Int) (kid8 : Bool) (n80 : Int) (t81 : Bool) (b82 : List Int × Int × Int) (l83 : List (Int × Int × Int × Int)) : St := { env := [(0, .s (.one (.ptr 0 0))), (1, .s (.one (.val (.int .i64) (most6 : Int)))), (2, .s (.one (.val (.int .i64) (deep7 : Int)))), (3, .s (.one (.val (.bool) (kid8 : Bool)))), (9, .s (.one (.own 1))), (10, .s (.one (.val (.int .i64) (n80 : Int)))), (27, .s (.one (.val (.bool) (t81 : Bool))))], objs := [(0, .box [.val (.slice (.int .u8)) (b82.1 : List Int), .val (.int .i64) (b82.2.1 : Int), .val (.int .i64) (b82.2.2 : Int)]), (1, .arr (.prod (.int .i64) (.prod (.int .i64) (.prod (.int .i64) (.int .i64)))) (l83 : List (Int × Int × Int × Int)))], nx := 2 }

noncomputable def T_spec_l5Gen_lp0_m (N m : Nat) {R : Type} (n : Nat) (st : St) (K : Ex → St → Option R) : Option R := loopN (roundG (T_spec_l5Gen_ann 100003) fun st k => sx tab (T_spec_l5Gen_ctx N m) T_spec_l5Gen_ann N (nthLoop Try.f110 0) st k) n st K

theorem T_spec_l5Gen_lp0_step (N m : Nat) {R : Type} (n : Nat) (K : Ex → St → Option R) (most6 : Int) (deep7 : Int) (kid8 : Bool) (n9 : Int) (b10 : List Int × Int × Int) (l11 : List (Int × Int × Int × Int)) :
    T_spec_l5Gen_lp0_m N m (n + 1) (T_spec_l5Gen_lp0_sh most6 deep7 kid8 n9 b10 l11) K =
    (bif decide (n9 > (0 : Int)) then
 (bif decide ((ilen l11) < most6) then
 ((T_spec_l1Below N b10 (20 : Int)).bind fun o84 =>
 (bif decide (o84.2.1 < (5 : Int)) then
 ((T_spec_l4Plain N o84.1.1 (5 : Int)).bind fun o85 =>
 (bif room ((List.length l11) + (List.length ([o85.2.1]))) then
 (T_spec_l5Gen_lp0_m N m n (T_spec_l5Gen_lp0_sh most6 deep7 kid8 (isub .i64 n9 (1 : Int)) o85.1.1 (List.append l11 ([o85.2.1]))) K) else none))
 else
 (bif decide (o84.2.1 < (10 : Int)) then
 ((T_spec_l4Plain N o84.1.1 (6 : Int)).bind fun o86 =>
 (bif room ((List.length l11) + (List.length ([o86.2.1]))) then
 (T_spec_l5Gen_lp0_m N m n (T_spec_l5Gen_lp0_sh most6 deep7 kid8 (isub .i64 n9 (1 : Int)) o86.1.1 (List.append l11 ([o86.2.1]))) K) else none))
 else
 (bif decide (o84.2.1 < (12 : Int)) then
 ((T_spec_l1Below N o84.1.1 (4 : Int)).bind fun o87 =>
 ((T_spec_l4Plain N o87.1.1 (iadd .i64 (1 : Int) o87.2.1)).bind fun o88 =>
 (bif room ((List.length l11) + (List.length ([o88.2.1]))) then
 (T_spec_l5Gen_lp0_m N m n (T_spec_l5Gen_lp0_sh most6 deep7 kid8 (isub .i64 n9 (1 : Int)) o88.1.1 (List.append l11 ([o88.2.1]))) K) else none)))
 else
 (bif o84.2.1 == (12 : Int) then
 (bif decide (deep7 > (0 : Int)) then
 (bif decide ((isub .i64 most6 (ilen l11)) ≥ (4 : Int)) then
 ((T_spec_l5Gen_r N m o84.1.1 (isub .i64 (isub .i64 most6 (ilen l11)) (3 : Int)) (isub .i64 deep7 (1 : Int)) kid8).bind fun o89 =>
 ((T_spec_l4Plain N o89.1.1 (8 : Int)).bind fun o90 =>
 (bif room ((List.length l11) + (List.length ([o90.2.1]))) then
 (bif room ((List.length (List.append l11 ([o90.2.1]))) + (List.length o89.2.1)) then
 ((T_spec_l1Once N o90.1.1 (3 : Int)).bind fun o91 =>
 (bif o91.2.1 then
 (bif room ((List.length (List.append (List.append l11 ([o90.2.1])) o89.2.1)) + (List.length ([((10 : Int), ((0 : Int), ((0 : Int), (0 : Int))))]))) then
 (bif room ((List.length (List.append (List.append (List.append l11 ([o90.2.1])) o89.2.1) ([((10 : Int), ((0 : Int), ((0 : Int), (0 : Int))))]))) + (List.length ([((9 : Int), ((0 : Int), ((0 : Int), (0 : Int))))]))) then
 (T_spec_l5Gen_lp0_m N m n (T_spec_l5Gen_lp0_sh most6 deep7 kid8 (isub .i64 n9 (1 : Int)) o91.1.1 (List.append (List.append (List.append (List.append l11 ([o90.2.1])) o89.2.1) ([((10 : Int), ((0 : Int), ((0 : Int), (0 : Int))))])) ([((9 : Int), ((0 : Int), ((0 : Int), (0 : Int))))]))) K) else none) else none)
 else
 (bif room ((List.length (List.append (List.append l11 ([o90.2.1])) o89.2.1)) + (List.length ([((9 : Int), ((0 : Int), ((0 : Int), (0 : Int))))]))) then
 (T_spec_l5Gen_lp0_m N m n (T_spec_l5Gen_lp0_sh most6 deep7 kid8 (isub .i64 n9 (1 : Int)) o91.1.1 (List.append (List.append (List.append l11 ([o90.2.1])) o89.2.1) ([((9 : Int), ((0 : Int), ((0 : Int), (0 : Int))))]))) K) else none))) else none) else none)))
 else
 (bif o84.2.1 == (13 : Int) then
 (bif decide ((isub .i64 most6 (ilen l11)) ≥ (3 : Int)) then
 ((T_spec_l5Gen_r N m o84.1.1 (2 : Int) (0 : Int) kid8).bind fun o92 =>
 ((T_spec_l4Plain N o92.1.1 (7 : Int)).bind fun o93 =>
 (bif room ((List.length l11) + (List.length ([(o93.2.1.1, (o93.2.1.2.1, (ilen o92.2.1, o93.2.1.2.2.2)))]))) then
 (bif room ((List.length (List.append l11 ([(o93.2.1.1, (o93.2.1.2.1, (ilen o92.2.1, o93.2.1.2.2.2)))]))) + (List.length o92.2.1)) then
 (T_spec_l5Gen_lp0_m N m n (T_spec_l5Gen_lp0_sh most6 deep7 kid8 (isub .i64 n9 (1 : Int)) o93.1.1 (List.append (List.append l11 ([(o93.2.1.1, (o93.2.1.2.1, (ilen o92.2.1, o93.2.1.2.2.2)))])) o92.2.1)) K) else none) else none)))
 else
 (bif o84.2.1 == (14 : Int) then
 ((T_spec_l1Once N o84.1.1 (6 : Int)).bind fun o94 =>
 (bif o94.2.1 then
 (bif room ((List.length l11) + (List.length ([((10 : Int), ((0 : Int), ((0 : Int), (0 : Int))))]))) then
 (T_spec_l5Gen_lp0_m N m n (T_spec_l5Gen_lp0_sh most6 deep7 kid8 (isub .i64 n9 (1 : Int)) o94.1.1 (List.append l11 ([((10 : Int), ((0 : Int), ((0 : Int), (0 : Int))))]))) K) else none)
 else
 (bif kid8 then
 ((T_spec_l1Below N o94.1.1 (3 : Int)).bind fun o95 =>
 ((T_spec_l4Plain N o95.1.1 (iadd .i64 (1 : Int) o95.2.1)).bind fun o96 =>
 (bif room ((List.length l11) + (List.length ([o96.2.1]))) then
 (T_spec_l5Gen_lp0_m N m n (T_spec_l5Gen_lp0_sh most6 deep7 kid8 (isub .i64 n9 (1 : Int)) o96.1.1 (List.append l11 ([o96.2.1]))) K) else none)))
 else
 ((T_spec_l1Below N o94.1.1 (5 : Int)).bind fun o97 =>
 ((T_spec_l4Plain N o97.1.1 (iadd .i64 (12 : Int) o97.2.1)).bind fun o98 =>
 (bif room ((List.length l11) + (List.length ([o98.2.1]))) then
 (T_spec_l5Gen_lp0_m N m n (T_spec_l5Gen_lp0_sh most6 deep7 kid8 (isub .i64 n9 (1 : Int)) o98.1.1 (List.append l11 ([o98.2.1]))) K) else none))))))
 else
 (bif kid8 then
 ((T_spec_l1Below N o84.1.1 (3 : Int)).bind fun o99 =>
 ((T_spec_l4Plain N o99.1.1 (iadd .i64 (1 : Int) o99.2.1)).bind fun o100 =>
 (bif room ((List.length l11) + (List.length ([o100.2.1]))) then
 (T_spec_l5Gen_lp0_m N m n (T_spec_l5Gen_lp0_sh most6 deep7 kid8 (isub .i64 n9 (1 : Int)) o100.1.1 (List.append l11 ([o100.2.1]))) K) else none)))
 else
 ((T_spec_l1Below N o84.1.1 (5 : Int)).bind fun o101 =>
 ((T_spec_l4Plain N o101.1.1 (iadd .i64 (12 : Int) o101.2.1)).bind fun o102 =>
 (bif room ((List.length l11) + (List.length ([o102.2.1]))) then
 (T_spec_l5Gen_lp0_m N m n (T_spec_l5Gen_lp0_sh most6 deep7 kid8 (isub .i64 n9 (1 : Int)) o102.1.1 (List.append l11 ([o102.2.1]))) K) else none))))))
 else
 (bif o84.2.1 == (14 : Int) then
 ((T_spec_l1Once N o84.1.1 (6 : Int)).bind fun o103 =>
 (bif o103.2.1 then
 (bif room ((List.length l11) + (List.length ([((10 : Int), ((0 : Int), ((0 : Int), (0 : Int))))]))) then
 (T_spec_l5Gen_lp0_m N m n (T_spec_l5Gen_lp0_sh most6 deep7 kid8 (isub .i64 n9 (1 : Int)) o103.1.1 (List.append l11 ([((10 : Int), ((0 : Int), ((0 : Int), (0 : Int))))]))) K) else none)
 else
 (bif kid8 then
 ((T_spec_l1Below N o103.1.1 (3 : Int)).bind fun o104 =>
 ((T_spec_l4Plain N o104.1.1 (iadd .i64 (1 : Int) o104.2.1)).bind fun o105 =>
 (bif room ((List.length l11) + (List.length ([o105.2.1]))) then
 (T_spec_l5Gen_lp0_m N m n (T_spec_l5Gen_lp0_sh most6 deep7 kid8 (isub .i64 n9 (1 : Int)) o105.1.1 (List.append l11 ([o105.2.1]))) K) else none)))
 else
 ((T_spec_l1Below N o103.1.1 (5 : Int)).bind fun o106 =>
 ((T_spec_l4Plain N o106.1.1 (iadd .i64 (12 : Int) o106.2.1)).bind fun o107 =>
 (bif room ((List.length l11) + (List.length ([o107.2.1]))) then
 (T_spec_l5Gen_lp0_m N m n (T_spec_l5Gen_lp0_sh most6 deep7 kid8 (isub .i64 n9 (1 : Int)) o107.1.1 (List.append l11 ([o107.2.1]))) K) else none))))))
 else
 (bif kid8 then
 ((T_spec_l1Below N o84.1.1 (3 : Int)).bind fun o108 =>
 ((T_spec_l4Plain N o108.1.1 (iadd .i64 (1 : Int) o108.2.1)).bind fun o109 =>
 (bif room ((List.length l11) + (List.length ([o109.2.1]))) then
 (T_spec_l5Gen_lp0_m N m n (T_spec_l5Gen_lp0_sh most6 deep7 kid8 (isub .i64 n9 (1 : Int)) o109.1.1 (List.append l11 ([o109.2.1]))) K) else none)))
 else
 ((T_spec_l1Below N o84.1.1 (5 : Int)).bind fun o110 =>
 ((T_spec_l4Plain N o110.1.1 (iadd .i64 (12 : Int) o110.2.1)).bind fun o111 =>
 (bif room ((List.length l11) + (List.length ([o111.2.1]))) then
 (T_spec_l5Gen_lp0_m N m n (T_spec_l5Gen_lp0_sh most6 deep7 kid8 (isub .i64 n9 (1 : Int)) o111.1.1 (List.append l11 ([o111.2.1]))) K) else none)))))))
 else
 (bif o84.2.1 == (13 : Int) then
 (bif decide ((isub .i64 most6 (ilen l11)) ≥ (3 : Int)) then
 ((T_spec_l5Gen_r N m o84.1.1 (2 : Int) (0 : Int) kid8).bind fun o112 =>
 ((T_spec_l4Plain N o112.1.1 (7 : Int)).bind fun o113 =>
 (bif room ((List.length l11) + (List.length ([(o113.2.1.1, (o113.2.1.2.1, (ilen o112.2.1, o113.2.1.2.2.2)))]))) then
 (bif room ((List.length (List.append l11 ([(o113.2.1.1, (o113.2.1.2.1, (ilen o112.2.1, o113.2.1.2.2.2)))]))) + (List.length o112.2.1)) then
 (T_spec_l5Gen_lp0_m N m n (T_spec_l5Gen_lp0_sh most6 deep7 kid8 (isub .i64 n9 (1 : Int)) o113.1.1 (List.append (List.append l11 ([(o113.2.1.1, (o113.2.1.2.1, (ilen o112.2.1, o113.2.1.2.2.2)))])) o112.2.1)) K) else none) else none)))
 else
 (bif o84.2.1 == (14 : Int) then
 ((T_spec_l1Once N o84.1.1 (6 : Int)).bind fun o114 =>
 (bif o114.2.1 then
 (bif room ((List.length l11) + (List.length ([((10 : Int), ((0 : Int), ((0 : Int), (0 : Int))))]))) then
 (T_spec_l5Gen_lp0_m N m n (T_spec_l5Gen_lp0_sh most6 deep7 kid8 (isub .i64 n9 (1 : Int)) o114.1.1 (List.append l11 ([((10 : Int), ((0 : Int), ((0 : Int), (0 : Int))))]))) K) else none)
 else
 (bif kid8 then
 ((T_spec_l1Below N o114.1.1 (3 : Int)).bind fun o115 =>
 ((T_spec_l4Plain N o115.1.1 (iadd .i64 (1 : Int) o115.2.1)).bind fun o116 =>
 (bif room ((List.length l11) + (List.length ([o116.2.1]))) then
 (T_spec_l5Gen_lp0_m N m n (T_spec_l5Gen_lp0_sh most6 deep7 kid8 (isub .i64 n9 (1 : Int)) o116.1.1 (List.append l11 ([o116.2.1]))) K) else none)))
 else
 ((T_spec_l1Below N o114.1.1 (5 : Int)).bind fun o117 =>
 ((T_spec_l4Plain N o117.1.1 (iadd .i64 (12 : Int) o117.2.1)).bind fun o118 =>
 (bif room ((List.length l11) + (List.length ([o118.2.1]))) then
 (T_spec_l5Gen_lp0_m N m n (T_spec_l5Gen_lp0_sh most6 deep7 kid8 (isub .i64 n9 (1 : Int)) o118.1.1 (List.append l11 ([o118.2.1]))) K) else none))))))
 else
 (bif kid8 then
 ((T_spec_l1Below N o84.1.1 (3 : Int)).bind fun o119 =>
 ((T_spec_l4Plain N o119.1.1 (iadd .i64 (1 : Int) o119.2.1)).bind fun o120 =>
 (bif room ((List.length l11) + (List.length ([o120.2.1]))) then
 (T_spec_l5Gen_lp0_m N m n (T_spec_l5Gen_lp0_sh most6 deep7 kid8 (isub .i64 n9 (1 : Int)) o120.1.1 (List.append l11 ([o120.2.1]))) K) else none)))
 else
 ((T_spec_l1Below N o84.1.1 (5 : Int)).bind fun o121 =>
 ((T_spec_l4Plain N o121.1.1 (iadd .i64 (12 : Int) o121.2.1)).bind fun o122 =>
 (bif room ((List.length l11) + (List.length ([o122.2.1]))) then
 (T_spec_l5Gen_lp0_m N m n (T_spec_l5Gen_lp0_sh most6 deep7 kid8 (isub .i64 n9 (1 : Int)) o122.1.1 (List.append l11 ([o122.2.1]))) K) else none))))))
 else
 (bif o84.2.1 == (14 : Int) then
 ((T_spec_l1Once N o84.1.1 (6 : Int)).bind fun o123 =>
 (bif o123.2.1 then
 (bif room ((List.length l11) + (List.length ([((10 : Int), ((0 : Int), ((0 : Int), (0 : Int))))]))) then
 (T_spec_l5Gen_lp0_m N m n (T_spec_l5Gen_lp0_sh most6 deep7 kid8 (isub .i64 n9 (1 : Int)) o123.1.1 (List.append l11 ([((10 : Int), ((0 : Int), ((0 : Int), (0 : Int))))]))) K) else none)
 else
 (bif kid8 then
 ((T_spec_l1Below N o123.1.1 (3 : Int)).bind fun o124 =>
 ((T_spec_l4Plain N o124.1.1 (iadd .i64 (1 : Int) o124.2.1)).bind fun o125 =>
 (bif room ((List.length l11) + (List.length ([o125.2.1]))) then
 (T_spec_l5Gen_lp0_m N m n (T_spec_l5Gen_lp0_sh most6 deep7 kid8 (isub .i64 n9 (1 : Int)) o125.1.1 (List.append l11 ([o125.2.1]))) K) else none)))
 else
 ((T_spec_l1Below N o123.1.1 (5 : Int)).bind fun o126 =>
 ((T_spec_l4Plain N o126.1.1 (iadd .i64 (12 : Int) o126.2.1)).bind fun o127 =>
 (bif room ((List.length l11) + (List.length ([o127.2.1]))) then
 (T_spec_l5Gen_lp0_m N m n (T_spec_l5Gen_lp0_sh most6 deep7 kid8 (isub .i64 n9 (1 : Int)) o127.1.1 (List.append l11 ([o127.2.1]))) K) else none))))))
 else
 (bif kid8 then
 ((T_spec_l1Below N o84.1.1 (3 : Int)).bind fun o128 =>
 ((T_spec_l4Plain N o128.1.1 (iadd .i64 (1 : Int) o128.2.1)).bind fun o129 =>
 (bif room ((List.length l11) + (List.length ([o129.2.1]))) then
 (T_spec_l5Gen_lp0_m N m n (T_spec_l5Gen_lp0_sh most6 deep7 kid8 (isub .i64 n9 (1 : Int)) o129.1.1 (List.append l11 ([o129.2.1]))) K) else none)))
 else
 ((T_spec_l1Below N o84.1.1 (5 : Int)).bind fun o130 =>
 ((T_spec_l4Plain N o130.1.1 (iadd .i64 (12 : Int) o130.2.1)).bind fun o131 =>
 (bif room ((List.length l11) + (List.length ([o131.2.1]))) then
 (T_spec_l5Gen_lp0_m N m n (T_spec_l5Gen_lp0_sh most6 deep7 kid8 (isub .i64 n9 (1 : Int)) o131.1.1 (List.append l11 ([o131.2.1]))) K) else none)))))))
 else
 (bif o84.2.1 == (13 : Int) then
 (bif decide ((isub .i64 most6 (ilen l11)) ≥ (3 : Int)) then
 ((T_spec_l5Gen_r N m o84.1.1 (2 : Int) (0 : Int) kid8).bind fun o132 =>
 ((T_spec_l4Plain N o132.1.1 (7 : Int)).bind fun o133 =>
 (bif room ((List.length l11) + (List.length ([(o133.2.1.1, (o133.2.1.2.1, (ilen o132.2.1, o133.2.1.2.2.2)))]))) then
 (bif room ((List.length (List.append l11 ([(o133.2.1.1, (o133.2.1.2.1, (ilen o132.2.1, o133.2.1.2.2.2)))]))) + (List.length o132.2.1)) then
 (T_spec_l5Gen_lp0_m N m n (T_spec_l5Gen_lp0_sh most6 deep7 kid8 (isub .i64 n9 (1 : Int)) o133.1.1 (List.append (List.append l11 ([(o133.2.1.1, (o133.2.1.2.1, (ilen o132.2.1, o133.2.1.2.2.2)))])) o132.2.1)) K) else none) else none)))
 else
 (bif o84.2.1 == (14 : Int) then
 ((T_spec_l1Once N o84.1.1 (6 : Int)).bind fun o134 =>
 (bif o134.2.1 then
 (bif room ((List.length l11) + (List.length ([((10 : Int), ((0 : Int), ((0 : Int), (0 : Int))))]))) then
 (T_spec_l5Gen_lp0_m N m n (T_spec_l5Gen_lp0_sh most6 deep7 kid8 (isub .i64 n9 (1 : Int)) o134.1.1 (List.append l11 ([((10 : Int), ((0 : Int), ((0 : Int), (0 : Int))))]))) K) else none)
 else
 (bif kid8 then
 ((T_spec_l1Below N o134.1.1 (3 : Int)).bind fun o135 =>
 ((T_spec_l4Plain N o135.1.1 (iadd .i64 (1 : Int) o135.2.1)).bind fun o136 =>
 (bif room ((List.length l11) + (List.length ([o136.2.1]))) then
 (T_spec_l5Gen_lp0_m N m n (T_spec_l5Gen_lp0_sh most6 deep7 kid8 (isub .i64 n9 (1 : Int)) o136.1.1 (List.append l11 ([o136.2.1]))) K) else none)))
 else
 ((T_spec_l1Below N o134.1.1 (5 : Int)).bind fun o137 =>
 ((T_spec_l4Plain N o137.1.1 (iadd .i64 (12 : Int) o137.2.1)).bind fun o138 =>
 (bif room ((List.length l11) + (List.length ([o138.2.1]))) then
 (T_spec_l5Gen_lp0_m N m n (T_spec_l5Gen_lp0_sh most6 deep7 kid8 (isub .i64 n9 (1 : Int)) o138.1.1 (List.append l11 ([o138.2.1]))) K) else none))))))
 else
 (bif kid8 then
 ((T_spec_l1Below N o84.1.1 (3 : Int)).bind fun o139 =>
 ((T_spec_l4Plain N o139.1.1 (iadd .i64 (1 : Int) o139.2.1)).bind fun o140 =>
 (bif room ((List.length l11) + (List.length ([o140.2.1]))) then
 (T_spec_l5Gen_lp0_m N m n (T_spec_l5Gen_lp0_sh most6 deep7 kid8 (isub .i64 n9 (1 : Int)) o140.1.1 (List.append l11 ([o140.2.1]))) K) else none)))
 else
 ((T_spec_l1Below N o84.1.1 (5 : Int)).bind fun o141 =>
 ((T_spec_l4Plain N o141.1.1 (iadd .i64 (12 : Int) o141.2.1)).bind fun o142 =>
 (bif room ((List.length l11) + (List.length ([o142.2.1]))) then
 (T_spec_l5Gen_lp0_m N m n (T_spec_l5Gen_lp0_sh most6 deep7 kid8 (isub .i64 n9 (1 : Int)) o142.1.1 (List.append l11 ([o142.2.1]))) K) else none))))))
 else
 (bif o84.2.1 == (14 : Int) then
 ((T_spec_l1Once N o84.1.1 (6 : Int)).bind fun o143 =>
 (bif o143.2.1 then
 (bif room ((List.length l11) + (List.length ([((10 : Int), ((0 : Int), ((0 : Int), (0 : Int))))]))) then
 (T_spec_l5Gen_lp0_m N m n (T_spec_l5Gen_lp0_sh most6 deep7 kid8 (isub .i64 n9 (1 : Int)) o143.1.1 (List.append l11 ([((10 : Int), ((0 : Int), ((0 : Int), (0 : Int))))]))) K) else none)
 else
 (bif kid8 then
 ((T_spec_l1Below N o143.1.1 (3 : Int)).bind fun o144 =>
 ((T_spec_l4Plain N o144.1.1 (iadd .i64 (1 : Int) o144.2.1)).bind fun o145 =>
 (bif room ((List.length l11) + (List.length ([o145.2.1]))) then
 (T_spec_l5Gen_lp0_m N m n (T_spec_l5Gen_lp0_sh most6 deep7 kid8 (isub .i64 n9 (1 : Int)) o145.1.1 (List.append l11 ([o145.2.1]))) K) else none)))
 else
 ((T_spec_l1Below N o143.1.1 (5 : Int)).bind fun o146 =>
 ((T_spec_l4Plain N o146.1.1 (iadd .i64 (12 : Int) o146.2.1)).bind fun o147 =>
 (bif room ((List.length l11) + (List.length ([o147.2.1]))) then
 (T_spec_l5Gen_lp0_m N m n (T_spec_l5Gen_lp0_sh most6 deep7 kid8 (isub .i64 n9 (1 : Int)) o147.1.1 (List.append l11 ([o147.2.1]))) K) else none))))))
 else
 (bif kid8 then
 ((T_spec_l1Below N o84.1.1 (3 : Int)).bind fun o148 =>
 ((T_spec_l4Plain N o148.1.1 (iadd .i64 (1 : Int) o148.2.1)).bind fun o149 =>
 (bif room ((List.length l11) + (List.length ([o149.2.1]))) then
 (T_spec_l5Gen_lp0_m N m n (T_spec_l5Gen_lp0_sh most6 deep7 kid8 (isub .i64 n9 (1 : Int)) o149.1.1 (List.append l11 ([o149.2.1]))) K) else none)))
 else
 ((T_spec_l1Below N o84.1.1 (5 : Int)).bind fun o150 =>
 ((T_spec_l4Plain N o150.1.1 (iadd .i64 (12 : Int) o150.2.1)).bind fun o151 =>
 (bif room ((List.length l11) + (List.length ([o151.2.1]))) then
 (T_spec_l5Gen_lp0_m N m n (T_spec_l5Gen_lp0_sh most6 deep7 kid8 (isub .i64 n9 (1 : Int)) o151.1.1 (List.append l11 ([o151.2.1]))) K) else none)))))))))))
 else
 (K (.exit 0) (T_spec_l5Gen_lp0_e0 most6 deep7 kid8 n9 (decide ((ilen l11) < most6)) b10 l11)))
 else
 (K (.exit 0) (T_spec_l5Gen_lp0_e0 most6 deep7 kid8 n9 false b10 l11))) := by kernel_rfl

theorem T_spec_l5Gen_lp0_eq (N m : Nat) {R : Type} (most6 : Int) (deep7 : Int) (kid8 : Bool) (K : Ex → St → Option R) : ∀ (n : Nat) (n9 : Int) (b10 : List Int × Int × Int) (l11 : List (Int × Int × Int × Int)), T_spec_l5Gen_lp0_m N m n (T_spec_l5Gen_lp0_sh most6 deep7 kid8 n9 b10 l11) K = T_spec_l5Gen_lp0 N (T_spec_l5Gen_r N m) most6 deep7 kid8 (fun n80 t81 b82 l83 => (K (.exit 0) (T_spec_l5Gen_lp0_e0 most6 deep7 kid8 n80 t81 b82 l83))) n n9 b10 l11
  | 0, _, _, _ => rfl
  | n + 1, n9, b10, l11 => by rw [T_spec_l5Gen_lp0_step, T_spec_l5Gen_lp0]; (try simp only [T_spec_l5Gen_lp0_eq N m most6 deep7 kid8 K n])

theorem T_spec_l5Gen_c1 (N m : Nat) (most2 : Int) (deep3 : Int) (kid4 : Bool) (n152 : Int) (t153 : Bool) (b154 : List Int × Int × Int) (l155 : List (Int × Int × Int × Int)) :
    ((ctxK (R := ODen (T_spec_l5Gen_sgr N (m + 1)).ps × RDen (T_spec_l5Gen_sgr N (m + 1)).rs) tab (T_spec_l5Gen_ctx N m) T_spec_l5Gen_ann N (theCode Try.f110) [1, 1, 0, 1, 0] (retK tab (T_spec_l5Gen_sgr N (m + 1)) Try.f110.results.toList some)) (.exit 0) (T_spec_l5Gen_lp0_e0 most2 deep3 kid4 n152 t153 b154 l155)) =
    (some (α := ODen (T_spec_l5Gen_sgr N (m + 1)).ps × RDen (T_spec_l5Gen_sgr N (m + 1)).rs) ((b154, ()), (l155, ()))) := by kernel_rfl

theorem T_spec_l5Gen_den (N m : Nat) (c1 : List Int × Int × Int) (most2 : Int) (deep3 : Int) (kid4 : Bool) :
    den (R := ODen (T_spec_l5Gen_sgr N (m + 1)).ps × RDen (T_spec_l5Gen_sgr N (m + 1)).rs) tab (T_spec_l5Gen_ctx N m) T_spec_l5Gen_ann N (T_spec_l5Gen_sgr N (m + 1)) Try.f110 (c1, most2, deep3, kid4, ()) some =
    ((T_spec_l1Below N c1 most2).bind fun o5 =>
 (T_spec_l5Gen_lp0 N (T_spec_l5Gen_r N m) most2 deep3 kid4
 (fun n152 t153 b154 l155 =>
   (some (α := ODen (T_spec_l5Gen_sgr N (m + 1)).ps × RDen (T_spec_l5Gen_sgr N (m + 1)).rs) ((b154, ()), (l155, ()))))
  N (iadd .i64 (1 : Int) o5.2.1) o5.1.1 ([] : List (Int × Int × Int × Int)))) := by
  have h : den (R := ODen (T_spec_l5Gen_sgr N (m + 1)).ps × RDen (T_spec_l5Gen_sgr N (m + 1)).rs) tab (T_spec_l5Gen_ctx N m) T_spec_l5Gen_ann N (T_spec_l5Gen_sgr N (m + 1)) Try.f110 (c1, most2, deep3, kid4, ()) some =
    ((T_spec_l1Below N c1 most2).bind fun o5 =>
 (T_spec_l5Gen_lp0_m N m N (T_spec_l5Gen_lp0_sh most2 deep3 kid4 (iadd .i64 (1 : Int) o5.2.1) o5.1.1 ([] : List (Int × Int × Int × Int))) (ctxK (R := ODen (T_spec_l5Gen_sgr N (m + 1)).ps × RDen (T_spec_l5Gen_sgr N (m + 1)).rs) tab (T_spec_l5Gen_ctx N m) T_spec_l5Gen_ann N (theCode Try.f110) [1, 1, 0, 1, 0] (retK tab (T_spec_l5Gen_sgr N (m + 1)) Try.f110.results.toList some)))) := by kernel_rfl
  rw [h]
  (try simp only [T_spec_l5Gen_lp0_eq, T_spec_l5Gen_c1]) <;> rfl

theorem T_spec_l5Gen_ok (N m : Nat) : chkBody Try.f110 (T_spec_l5Gen_sgr N (m + 1)).ps = true := by kernel_rfl

theorem T_spec_l5Gen_callable : Callable Try.prog 110 := callable_of Try.func110 (show chkFn Try.f110 = true by kernel_rfl)

theorem T_spec_l5Gen_goodr (N : Nat) : ∀ m, Good Try.prog 110 (T_spec_l5Gen_sgr N m)
  | 0 => fun d o h => nomatch (show none = some o from h)
  | m + 1 => good_body mixedOk tabOk (ctx_cons (T_spec_l1Below_good N) T_spec_l1Below_callable (ctx_cons (T_spec_l4Plain_good N) T_spec_l4Plain_callable (ctx_cons (T_spec_l5Gen_goodr N m) T_spec_l5Gen_callable (ctx_cons (T_spec_l1Once_good N) T_spec_l1Once_callable ctx_nil)))) Try.func110 (T_spec_l5Gen_ok N m) (fun d _ h => ⟨N, (T_spec_l5Gen_den N m d.1 d.2.1 d.2.2.1 d.2.2.2.1).trans h⟩)

theorem T_spec_l5Gen_good (N : Nat) : Good Try.prog 110 (T_spec_l5Gen_sg N) := T_spec_l5Gen_goodr N N

noncomputable def T_spec_l28Code_sg (N : Nat) : Sig := Sig.of [.box (.prod (.slice (.int .u8)) (.prod (.int .i64) (.int .i64)))] [.v (.own (.prod (.int .i64) (.prod (.int .i64) (.prod (.int .i64) (.int .i64))))) false] (fun d => T_spec_l28Code N d.1)

def T_spec_l28Code_ann : Nat → List Ghost
  | _ => []

noncomputable def T_spec_l28Code_ctx (N : Nat) : Ctx := [(110, T_spec_l5Gen_sg N), (88, T_spec_l1Once_sg N), (181, T_spec_l4DrawCell_sg N), (180, T_spec_l4DrawReg_sg N), (90, T_spec_l1Below_sg N)]

theorem T_spec_l28Code_den (N : Nat) (c1 : List Int × Int × Int) :
    den (R := ODen (T_spec_l28Code_sg N).ps × RDen (T_spec_l28Code_sg N).rs) tab (T_spec_l28Code_ctx N) T_spec_l28Code_ann N (T_spec_l28Code_sg N) Try.f179 (c1, ()) some =
    (T_spec_l28Code N c1 : Option (ODen (T_spec_l28Code_sg N).ps × RDen (T_spec_l28Code_sg N).rs)) := by kernel_rfl

theorem T_spec_l28Code_ok (N : Nat) : chkBody Try.f179 (T_spec_l28Code_sg N).ps = true := by kernel_rfl

theorem T_spec_l28Code_callable : Callable Try.prog 179 := callable_of Try.func179 (show chkFn Try.f179 = true by kernel_rfl)

theorem T_spec_l28Code_good (N : Nat) : Good Try.prog 179 (T_spec_l28Code_sg N) :=
  good_body mixedOk tabOk (ctx_cons (T_spec_l5Gen_good N) T_spec_l5Gen_callable (ctx_cons (T_spec_l1Once_good N) T_spec_l1Once_callable (ctx_cons (T_spec_l4DrawCell_good N) T_spec_l4DrawCell_callable (ctx_cons (T_spec_l4DrawReg_good N) T_spec_l4DrawReg_callable (ctx_cons (T_spec_l1Below_good N) T_spec_l1Below_callable ctx_nil))))) Try.func179 (T_spec_l28Code_ok N) (fun d _ h => ⟨N, (T_spec_l28Code_den N d.1).trans h⟩)

noncomputable def T_spec_l28Alts_sg (N : Nat) : Sig := Sig.of [.box (.prod (.slice (.int .u8)) (.prod (.int .i64) (.int .i64)))] [.v (.own (.slice (.prod (.int .i64) (.prod (.int .i64) (.prod (.int .i64) (.int .i64)))))) false] (fun d => T_spec_l28Alts N d.1)

def T_spec_l28Alts_ann : Nat → List Ghost
  | 3 => [.canon [0, 3, 4, 9]]
  | 4 => [.canon [0, 3, 4]]
  | 5 => [.canon [0, 3, 4]]
  | 100003 => [.canon [0, 3, 4]]
  | _ => []

noncomputable def T_spec_l28Alts_ctx (N : Nat) : Ctx := [(90, T_spec_l1Below_sg N), (179, T_spec_l28Code_sg N)]

def T_spec_l28Alts_lp0_sh (n3 : Int) (b4 : List Int × Int × Int) (l5 : List (List (Int × Int × Int × Int))) : St := { env := [(0, .s (.one (.ptr 0 0))), (3, .s (.one (.own 1))), (4, .s (.one (.val (.int .i64) (n3 : Int))))], objs := [(0, .box [.val (.slice (.int .u8)) (b4.1 : List Int), .val (.int .i64) (b4.2.1 : Int), .val (.int .i64) (b4.2.2 : Int)]), (1, .arr (.slice (.prod (.int .i64) (.prod (.int .i64) (.prod (.int .i64) (.int .i64))))) (l5 : List (List (Int × Int × Int × Int))))], nx := 2 }

def T_spec_l28Alts_lp0_e0 (n7 : Int) (t8 : Bool) (b9 : List Int × Int × Int) (l10 : List (List (Int × Int × Int × Int))) : St := { env := [(0, .s (.one (.ptr 0 0))), (3, .s (.one (.own 1))), (4, .s (.one (.val (.int .i64) (n7 : Int)))), (9, .s (.one (.val (.bool) (t8 : Bool))))], objs := [(0, .box [.val (.slice (.int .u8)) (b9.1 : List Int), .val (.int .i64) (b9.2.1 : Int), .val (.int .i64) (b9.2.2 : Int)]), (1, .arr (.slice (.prod (.int .i64) (.prod (.int .i64) (.prod (.int .i64) (.int .i64))))) (l10 : List (List (Int × Int × Int × Int))))], nx := 2 }

noncomputable def T_spec_l28Alts_lp0_m (N : Nat) {R : Type} (n : Nat) (st : St) (K : Ex → St → Option R) : Option R := loopN (roundG (T_spec_l28Alts_ann 100003) fun st k => sx tab (T_spec_l28Alts_ctx N) T_spec_l28Alts_ann N (nthLoop Try.f156 0) st k) n st K

theorem T_spec_l28Alts_lp0_step (N : Nat) {R : Type} (n : Nat) (K : Ex → St → Option R) (n3 : Int) (b4 : List Int × Int × Int) (l5 : List (List (Int × Int × Int × Int))) :
    T_spec_l28Alts_lp0_m N (n + 1) (T_spec_l28Alts_lp0_sh n3 b4 l5) K =
    (bif decide (n3 > (0 : Int)) then
 ((T_spec_l28Code N b4).bind fun o11 =>
 (bif room ((List.length l5) + (List.length ([o11.2.1]))) then
 (T_spec_l28Alts_lp0_m N n (T_spec_l28Alts_lp0_sh (isub .i64 n3 (1 : Int)) o11.1.1 (List.append l5 ([o11.2.1]))) K) else none))
 else
 (K (.exit 0) (T_spec_l28Alts_lp0_e0 n3 (decide (n3 > (0 : Int))) b4 l5))) := by kernel_rfl

theorem T_spec_l28Alts_lp0_eq (N : Nat) {R : Type} (K : Ex → St → Option R) : ∀ (n : Nat) (n3 : Int) (b4 : List Int × Int × Int) (l5 : List (List (Int × Int × Int × Int))), T_spec_l28Alts_lp0_m N n (T_spec_l28Alts_lp0_sh n3 b4 l5) K = T_spec_l28Alts_lp0 N (fun n7 t8 b9 l10 => (K (.exit 0) (T_spec_l28Alts_lp0_e0 n7 t8 b9 l10))) n n3 b4 l5
  | 0, _, _, _ => rfl
  | n + 1, n3, b4, l5 => by rw [T_spec_l28Alts_lp0_step, T_spec_l28Alts_lp0]; (try simp only [T_spec_l28Alts_lp0_eq N K n])

theorem T_spec_l28Alts_c1 (N : Nat) (n12 : Int) (t13 : Bool) (b14 : List Int × Int × Int) (l15 : List (List (Int × Int × Int × Int))) :
    ((ctxK (R := ODen (T_spec_l28Alts_sg N).ps × RDen (T_spec_l28Alts_sg N).rs) tab (T_spec_l28Alts_ctx N) T_spec_l28Alts_ann N (theCode Try.f156) [1, 1, 0, 1, 0] (retK tab (T_spec_l28Alts_sg N) Try.f156.results.toList some)) (.exit 0) (T_spec_l28Alts_lp0_e0 n12 t13 b14 l15)) =
    (some (α := ODen (T_spec_l28Alts_sg N).ps × RDen (T_spec_l28Alts_sg N).rs) ((b14, ()), (l15, ()))) := by kernel_rfl

theorem T_spec_l28Alts_den (N : Nat) (c1 : List Int × Int × Int) :
 den (R := ODen (T_spec_l28Alts_sg N).ps × RDen (T_spec_l28Alts_sg N).rs) tab (T_spec_l28Alts_ctx N) T_spec_l28Alts_ann N (T_spec_l28Alts_sg N) Try.f156 (c1, ()) some =
 (T_spec_l28Alts N c1 : Option (ODen (T_spec_l28Alts_sg N).ps × RDen (T_spec_l28Alts_sg N).rs)) := by
  have h : den (R := ODen (T_spec_l28Alts_sg N).ps × RDen (T_spec_l28Alts_sg N).rs) tab (T_spec_l28Alts_ctx N) T_spec_l28Alts_ann N (T_spec_l28Alts_sg N) Try.f156 (c1, ()) some =
 ((T_spec_l1Below N c1 (4 : Int)).bind fun o2 =>
 (T_spec_l28Alts_lp0_m N N (T_spec_l28Alts_lp0_sh o2.2.1 o2.1.1 ([] : List (List (Int × Int × Int × Int)))) (ctxK (R := ODen (T_spec_l28Alts_sg N).ps × RDen (T_spec_l28Alts_sg N).rs) tab (T_spec_l28Alts_ctx N) T_spec_l28Alts_ann N (theCode Try.f156) [1, 1, 0, 1, 0] (retK tab (T_spec_l28Alts_sg N) Try.f156.results.toList some)))) := by kernel_rfl
  rw [h]
  (try simp only [T_spec_l28Alts_lp0_eq, T_spec_l28Alts_c1]) <;> rfl

theorem T_spec_l28Alts_ok (N : Nat) : chkBody Try.f156 (T_spec_l28Alts_sg N).ps = true := by kernel_rfl

theorem T_spec_l28Alts_callable : Callable Try.prog 156 := callable_of Try.func156 (show chkFn Try.f156 = true by kernel_rfl)

theorem T_spec_l28Alts_good (N : Nat) : Good Try.prog 156 (T_spec_l28Alts_sg N) :=
  good_body mixedOk tabOk (ctx_cons (T_spec_l1Below_good N) T_spec_l1Below_callable (ctx_cons (T_spec_l28Code_good N) T_spec_l28Code_callable ctx_nil)) Try.func156 (T_spec_l28Alts_ok N) (fun d _ h => ⟨N, (T_spec_l28Alts_den N d.1).trans h⟩)

noncomputable def T_spec_l3DrawVals_sg (N : Nat) : Sig := Sig.of [.box (.prod (.slice (.int .u8)) (.prod (.int .i64) (.int .i64)))] [.v (.own (.int .i64)) false] (fun d => T_spec_l3DrawVals N d.1)

def T_spec_l3DrawVals_ann : Nat → List Ghost
  | 3 => [.canon [0, 3, 4, 7]]
  | 4 => [.canon [0, 3, 4]]
  | 5 => [.canon [0, 3, 4]]
  | 100003 => [.canon [0, 3, 4]]
  | _ => []

noncomputable def T_spec_l3DrawVals_ctx (N : Nat) : Ctx := [(140, T_spec_l3Draw_sg N)]

def T_spec_l3DrawVals_lp0_sh (i2 : Int) (b3 : List Int × Int × Int) (l4 : List Int) : St := { env := [(0, .s (.one (.ptr 0 0))), (3, .s (.one (.own 1))), (4, .s (.one (.val (.int .i64) (i2 : Int))))], objs := [(0, .box [.val (.slice (.int .u8)) (b3.1 : List Int), .val (.int .i64) (b3.2.1 : Int), .val (.int .i64) (b3.2.2 : Int)]), (1, .arr (.int .i64) (l4 : List Int))], nx := 2 }

def T_spec_l3DrawVals_lp0_e0 (i6 : Int) (t7 : Bool) (b8 : List Int × Int × Int) (l9 : List Int) : St := { env := [(0, .s (.one (.ptr 0 0))), (3, .s (.one (.own 1))), (4, .s (.one (.val (.int .i64) (i6 : Int)))), (7, .s (.one (.val (.bool) (t7 : Bool))))], objs := [(0, .box [.val (.slice (.int .u8)) (b8.1 : List Int), .val (.int .i64) (b8.2.1 : Int), .val (.int .i64) (b8.2.2 : Int)]), (1, .arr (.int .i64) (l9 : List Int))], nx := 2 }

noncomputable def T_spec_l3DrawVals_lp0_m (N : Nat) {R : Type} (n : Nat) (st : St) (K : Ex → St → Option R) : Option R := loopN (roundG (T_spec_l3DrawVals_ann 100003) fun st k => sx tab (T_spec_l3DrawVals_ctx N) T_spec_l3DrawVals_ann N (nthLoop Try.f87 0) st k) n st K

theorem T_spec_l3DrawVals_lp0_step (N : Nat) {R : Type} (n : Nat) (K : Ex → St → Option R) (i2 : Int) (b3 : List Int × Int × Int) (l4 : List Int) :
    T_spec_l3DrawVals_lp0_m N (n + 1) (T_spec_l3DrawVals_lp0_sh i2 b3 l4) K =
    (bif decide (i2 < (8 : Int)) then
 ((T_spec_l3Draw N b3).bind fun o10 =>
 (bif room ((List.length l4) + (List.length ([o10.2.1]))) then
 (T_spec_l3DrawVals_lp0_m N n (T_spec_l3DrawVals_lp0_sh (iadd .i64 i2 (1 : Int)) o10.1.1 (List.append l4 ([o10.2.1]))) K) else none))
 else
 (K (.exit 0) (T_spec_l3DrawVals_lp0_e0 i2 (decide (i2 < (8 : Int))) b3 l4))) := by kernel_rfl

theorem T_spec_l3DrawVals_lp0_eq (N : Nat) {R : Type} (K : Ex → St → Option R) : ∀ (n : Nat) (i2 : Int) (b3 : List Int × Int × Int) (l4 : List Int), T_spec_l3DrawVals_lp0_m N n (T_spec_l3DrawVals_lp0_sh i2 b3 l4) K = T_spec_l3DrawVals_lp0 N (fun i6 t7 b8 l9 => (K (.exit 0) (T_spec_l3DrawVals_lp0_e0 i6 t7 b8 l9))) n i2 b3 l4
  | 0, _, _, _ => rfl
  | n + 1, i2, b3, l4 => by rw [T_spec_l3DrawVals_lp0_step, T_spec_l3DrawVals_lp0]; (try simp only [T_spec_l3DrawVals_lp0_eq N K n])

theorem T_spec_l3DrawVals_c1 (N : Nat) (i11 : Int) (t12 : Bool) (b13 : List Int × Int × Int) (l14 : List Int) :
    ((ctxK (R := ODen (T_spec_l3DrawVals_sg N).ps × RDen (T_spec_l3DrawVals_sg N).rs) tab (T_spec_l3DrawVals_ctx N) T_spec_l3DrawVals_ann N (theCode Try.f87) [1, 1, 0, 1, 0] (retK tab (T_spec_l3DrawVals_sg N) Try.f87.results.toList some)) (.exit 0) (T_spec_l3DrawVals_lp0_e0 i11 t12 b13 l14)) =
    (some (α := ODen (T_spec_l3DrawVals_sg N).ps × RDen (T_spec_l3DrawVals_sg N).rs) ((b13, ()), (l14, ()))) := by kernel_rfl

theorem T_spec_l3DrawVals_den (N : Nat) (c1 : List Int × Int × Int) :
 den (R := ODen (T_spec_l3DrawVals_sg N).ps × RDen (T_spec_l3DrawVals_sg N).rs) tab (T_spec_l3DrawVals_ctx N) T_spec_l3DrawVals_ann N (T_spec_l3DrawVals_sg N) Try.f87 (c1, ()) some =
 (T_spec_l3DrawVals N c1 : Option (ODen (T_spec_l3DrawVals_sg N).ps × RDen (T_spec_l3DrawVals_sg N).rs)) := by
  have h : den (R := ODen (T_spec_l3DrawVals_sg N).ps × RDen (T_spec_l3DrawVals_sg N).rs) tab (T_spec_l3DrawVals_ctx N) T_spec_l3DrawVals_ann N (T_spec_l3DrawVals_sg N) Try.f87 (c1, ()) some =
 (T_spec_l3DrawVals_lp0_m N N (T_spec_l3DrawVals_lp0_sh (0 : Int) c1 ([] : List Int)) (ctxK (R := ODen (T_spec_l3DrawVals_sg N).ps × RDen (T_spec_l3DrawVals_sg N).rs) tab (T_spec_l3DrawVals_ctx N) T_spec_l3DrawVals_ann N (theCode Try.f87) [1, 1, 0, 1, 0] (retK tab (T_spec_l3DrawVals_sg N) Try.f87.results.toList some))) := by kernel_rfl
  rw [h]
  (try simp only [T_spec_l3DrawVals_lp0_eq, T_spec_l3DrawVals_c1]) <;> rfl

theorem T_spec_l3DrawVals_ok (N : Nat) : chkBody Try.f87 (T_spec_l3DrawVals_sg N).ps = true := by kernel_rfl

theorem T_spec_l3DrawVals_callable : Callable Try.prog 87 := callable_of Try.func87 (show chkFn Try.f87 = true by kernel_rfl)

theorem T_spec_l3DrawVals_good (N : Nat) : Good Try.prog 87 (T_spec_l3DrawVals_sg N) :=
  good_body mixedOk tabOk (ctx_cons (T_spec_l3Draw_good N) T_spec_l3Draw_callable ctx_nil) Try.func87 (T_spec_l3DrawVals_ok N) (fun d _ h => ⟨N, (T_spec_l3DrawVals_den N d.1).trans h⟩)

noncomputable def T_spec_l28All_sg (N : Nat) : Sig := Sig.of [.box (.prod (.slice (.int .u8)) (.prod (.int .i64) (.int .i64)))] [.v (.own (.slice (.prod (.int .i64) (.prod (.int .i64) (.prod (.int .i64) (.int .i64)))))) false, .v (.own (.int .i64)) false, .v (.own (.int .i64)) false] (fun d => T_spec_l28All N d.1)

def T_spec_l28All_ann : Nat → List Ghost
  | 5 => [.canon [0, 5, 6, 7, 8, 23]]
  | 6 => [.canon [0, 5, 6, 7, 8]]
  | 7 => [.canon [0, 5, 6, 7, 8, 27]]
  | 8 => [.canon [0, 5, 6, 7, 8]]
  | 15 => [.canon [0, 5, 6, 7, 48]]
  | 16 => [.canon [0, 5, 6, 7]]
  | 100005 => [.canon [0, 5, 6, 7, 8]]
  | 100015 => [.canon [0, 5, 6, 7]]
  | _ => []

noncomputable def T_spec_l28All_ctx (N : Nat) : Ctx := [(156, T_spec_l28Alts_sg N), (90, T_spec_l1Below_sg N), (140, T_spec_l3Draw_sg N), (87, T_spec_l3DrawVals_sg N), (88, T_spec_l1Once_sg N)]

def T_spec_l28All_lp0_sh (i7 : Int) (b8 : List Int × Int × Int) (l9 : List (List (Int × Int × Int × Int))) (l10 : List Int) (l11 : List Int) : St := { env := [(0, .s (.one (.ptr 0 0))), (5, .s (.one (.own 1))), (6, .s (.one (.own 2))), (7, .s (.one (.own 3))), (8, .s (.one (.val (.int .i64) (i7 : Int))))], objs := [(0, .box [.val (.slice (.int .u8)) (b8.1 : List Int), .val (.int .i64) (b8.2.1 : Int), .val (.int .i64) (b8.2.2 : Int)]), (1, .arr (.slice (.prod (.int .i64) (.prod (.int .i64) (.prod (.int .i64) (.int .i64))))) (l9 : List (List (Int × Int × Int × Int)))), (2, .arr (.int .i64) (l10 : List Int)), (3, .arr (.int .i64) (l11 : List Int))], nx := 4 }

def T_spec_l28All_lp0_e0 (l9 : List (List (Int × Int × Int × Int))) (l10 : List Int) (i13 : Int) (t14 : Bool) (b15 : List Int × Int × Int) (l16 : List Int) : St := { env := [(0, .s (.one (.ptr 0 0))), (5, .s (.one (.own 1))), (6, .s (.one (.own 2))), (7, .s (.one (.own 3))), (8, .s (.one (.val (.int .i64) (i13 : Int)))), (23, .s (.one (.val (.bool) (t14 : Bool))))], objs := [(0, .box [.val (.slice (.int .u8)) (b15.1 : List Int), .val (.int .i64) (b15.2.1 : Int), .val (.int .i64) (b15.2.2 : Int)]), (1, .arr (.slice (.prod (.int .i64) (.prod (.int .i64) (.prod (.int .i64) (.int .i64))))) (l9 : List (List (Int × Int × Int × Int)))), (2, .arr (.int .i64) (l10 : List Int)), (3, .arr (.int .i64) (l16 : List Int))], nx := 4 }

noncomputable def T_spec_l28All_lp0_m (N : Nat) {R : Type} (n : Nat) (st : St) (K : Ex → St → Option R) : Option R := loopN (roundG (T_spec_l28All_ann 100005) fun st k => sx tab (T_spec_l28All_ctx N) T_spec_l28All_ann N (nthLoop Try.f109 0) st k) n st K

theorem T_spec_l28All_lp0_step (N : Nat) {R : Type} (n : Nat) (K : Ex → St → Option R) (i7 : Int) (b8 : List Int × Int × Int) (l9 : List (List (Int × Int × Int × Int))) (l10 : List Int) (l11 : List Int) :
    T_spec_l28All_lp0_m N (n + 1) (T_spec_l28All_lp0_sh i7 b8 l9 l10 l11) K =
    (bif decide (i7 < (ilen l11)) then
 ((T_spec_l1Once N b8 (2 : Int)).bind fun o17 =>
 (bif o17.2.1 then
 (bif inb i7 (List.length l11) then
 (T_spec_l28All_lp0_m N n (T_spec_l28All_lp0_sh (iadd .i64 i7 (1 : Int)) o17.1.1 l9 l10 (List.set l11 (Int.toNat i7) (0 : Int))) K) else none)
 else
 (T_spec_l28All_lp0_m N n (T_spec_l28All_lp0_sh (iadd .i64 i7 (1 : Int)) o17.1.1 l9 l10 l11) K)))
 else
 (K (.exit 0) (T_spec_l28All_lp0_e0 l9 l10 i7 (decide (i7 < (ilen l11))) b8 l11))) := by kernel_rfl

theorem T_spec_l28All_lp0_eq (N : Nat) {R : Type} (l9 : List (List (Int × Int × Int × Int))) (l10 : List Int) (K : Ex → St → Option R) : ∀ (n : Nat) (i7 : Int) (b8 : List Int × Int × Int) (l11 : List Int), T_spec_l28All_lp0_m N n (T_spec_l28All_lp0_sh i7 b8 l9 l10 l11) K = T_spec_l28All_lp0 N l9 l10 (fun i13 t14 b15 l16 => (K (.exit 0) (T_spec_l28All_lp0_e0 l9 l10 i13 t14 b15 l16))) n i7 b8 l11
  | 0, _, _, _ => rfl
  | n + 1, i7, b8, l11 => by rw [T_spec_l28All_lp0_step, T_spec_l28All_lp0]; (try simp only [T_spec_l28All_lp0_eq N l9 l10 K n])

def T_spec_l28All_lp1_sh (b23 : List Int × Int × Int) (l24 : List (List (Int × Int × Int × Int))) (l25 : List Int) (l26 : List Int) : St := { env := [(0, .s (.one (.ptr 0 0))), (5, .s (.one (.own 1))), (6, .s (.one (.own 2))), (7, .s (.one (.own 3)))], objs := [(0, .box [.val (.slice (.int .u8)) (b23.1 : List Int), .val (.int .i64) (b23.2.1 : Int), .val (.int .i64) (b23.2.2 : Int)]), (1, .arr (.slice (.prod (.int .i64) (.prod (.int .i64) (.prod (.int .i64) (.int .i64))))) (l24 : List (List (Int × Int × Int × Int)))), (2, .arr (.int .i64) (l25 : List Int)), (3, .arr (.int .i64) (l26 : List Int))], nx := 4 }

def T_spec_l28All_lp1_e0 (l25 : List Int) (l26 : List Int) (t28 : Bool) (b29 : List Int × Int × Int) (l30 : List (List (Int × Int × Int × Int))) : St := { env := [(0, .s (.one (.ptr 0 0))), (5, .s (.one (.own 1))), (6, .s (.one (.own 2))), (7, .s (.one (.own 3))), (48, .s (.one (.val (.bool) (t28 : Bool))))], objs := [(0, .box [.val (.slice (.int .u8)) (b29.1 : List Int), .val (.int .i64) (b29.2.1 : Int), .val (.int .i64) (b29.2.2 : Int)]), (1, .arr (.slice (.prod (.int .i64) (.prod (.int .i64) (.prod (.int .i64) (.int .i64))))) (l30 : List (List (Int × Int × Int × Int)))), (2, .arr (.int .i64) (l25 : List Int)), (3, .arr (.int .i64) (l26 : List Int))], nx := 4 }

noncomputable def T_spec_l28All_lp1_m (N : Nat) {R : Type} (n : Nat) (st : St) (K : Ex → St → Option R) : Option R := loopN (roundG (T_spec_l28All_ann 100015) fun st k => sx tab (T_spec_l28All_ctx N) T_spec_l28All_ann N (nthLoop Try.f109 1) st k) n st K

theorem T_spec_l28All_lp1_step (N : Nat) {R : Type} (n : Nat) (K : Ex → St → Option R) (b23 : List Int × Int × Int) (l24 : List (List (Int × Int × Int × Int))) (l25 : List Int) (l26 : List Int) :
    T_spec_l28All_lp1_m N (n + 1) (T_spec_l28All_lp1_sh b23 l24 l25 l26) K =
    ((T_spec_l1Below N b23 (2 : Int)).bind fun o31 =>
 (bif decide ((ilen l24) < (iadd .i64 (4 : Int) o31.2.1)) then
 (bif room ((List.length l24) + (List.length ([([] : List (Int × Int × Int × Int))]))) then
 (T_spec_l28All_lp1_m N n (T_spec_l28All_lp1_sh o31.1.1 (List.append l24 ([([] : List (Int × Int × Int × Int))])) l25 l26) K) else none)
 else
 (K (.exit 3) (T_spec_l28All_lp1_e0 l25 l26 (decide ((ilen l24) < (iadd .i64 (4 : Int) o31.2.1))) o31.1.1 l24)))) := by kernel_rfl

theorem T_spec_l28All_lp1_eq (N : Nat) {R : Type} (l25 : List Int) (l26 : List Int) (K : Ex → St → Option R) : ∀ (n : Nat) (b23 : List Int × Int × Int) (l24 : List (List (Int × Int × Int × Int))), T_spec_l28All_lp1_m N n (T_spec_l28All_lp1_sh b23 l24 l25 l26) K = T_spec_l28All_lp1 N l25 l26 (fun t28 b29 l30 => (K (.exit 3) (T_spec_l28All_lp1_e0 l25 l26 t28 b29 l30))) n b23 l24
  | 0, _, _ => rfl
  | n + 1, b23, l24 => by rw [T_spec_l28All_lp1_step, T_spec_l28All_lp1]; (try simp only [T_spec_l28All_lp1_eq N l25 l26 K n])

theorem T_spec_l28All_c2 (N : Nat) (o3 : ((List Int × Int × Int) × Unit) × Int × Unit) (o4 : ((List Int × Int × Int) × Unit) × Int × Unit) (o5 : ((List Int × Int × Int) × Unit) × Int × Unit) (l21 : List Int) (t32 : Bool) (b33 : List Int × Int × Int) (l34 : List (List (Int × Int × Int × Int))) :
    ((ctxK (R := ODen (T_spec_l28All_sg N).ps × RDen (T_spec_l28All_sg N).rs) tab (T_spec_l28All_ctx N) T_spec_l28All_ann N (theCode Try.f109) [1, 1, 1, 1, 1, 0, 1, 0, 1, 1, 1, 1, 1, 0, 0] (retK tab (T_spec_l28All_sg N) Try.f109.results.toList some)) (.exit 3) (T_spec_l28All_lp1_e0 ([o3.2.1, (0 : Int), o4.2.1, o5.2.1]) l21 t32 b33 l34)) =
    (some (α := ODen (T_spec_l28All_sg N).ps × RDen (T_spec_l28All_sg N).rs) ((b33, ()), (l34, ([o3.2.1, (0 : Int), o4.2.1, o5.2.1], (l21, ()))))) := by kernel_rfl

theorem T_spec_l28All_c1 (N : Nat) (o2 : ((List Int × Int × Int) × Unit) × List (List (Int × Int × Int × Int)) × Unit) (o3 : ((List Int × Int × Int) × Unit) × Int × Unit) (o4 : ((List Int × Int × Int) × Unit) × Int × Unit) (o5 : ((List Int × Int × Int) × Unit) × Int × Unit) (i18 : Int) (t19 : Bool) (b20 : List Int × Int × Int) (l21 : List Int) :
    ((ctxK (R := ODen (T_spec_l28All_sg N).ps × RDen (T_spec_l28All_sg N).rs) tab (T_spec_l28All_ctx N) T_spec_l28All_ann N (theCode Try.f109) [1, 1, 1, 1, 0, 1, 0] (retK tab (T_spec_l28All_sg N) Try.f109.results.toList some)) (.exit 0) (T_spec_l28All_lp0_e0 o2.2.1 ([o3.2.1, (0 : Int), o4.2.1, o5.2.1]) i18 t19 b20 l21)) =
    ((T_spec_l1Below N b20 (24 : Int)).bind fun o22 =>
 (bif o22.2.1 == (0 : Int) then
 (bif (decide ((0 : Int) ≤ (1 : Int))) && (decide ((1 : Int) ≤ ((List.length ([o3.2.1, (0 : Int), o4.2.1, o5.2.1])) : Int))) then
 (some (α := ODen (T_spec_l28All_sg N).ps × RDen (T_spec_l28All_sg N).rs) ((o22.1.1, ()), (o2.2.1, (List.take (Int.toNat (1 : Int)) ([o3.2.1, (0 : Int), o4.2.1, o5.2.1]), (l21, ()))))) else none)
 else
 (bif o22.2.1 == (1 : Int) then
 (bif (decide ((0 : Int) ≤ (1 : Int))) && (decide ((1 : Int) ≤ ((List.length l21) : Int))) then
 (some (α := ODen (T_spec_l28All_sg N).ps × RDen (T_spec_l28All_sg N).rs) ((o22.1.1, ()), (o2.2.1, ([o3.2.1, (0 : Int), o4.2.1, o5.2.1], (List.take (Int.toNat (1 : Int)) l21, ()))))) else none)
 else
 (bif o22.2.1 == (2 : Int) then
 (T_spec_l28All_lp1 N ([o3.2.1, (0 : Int), o4.2.1, o5.2.1]) l21
 (fun t32 b33 l34 =>
   (some (α := ODen (T_spec_l28All_sg N).ps × RDen (T_spec_l28All_sg N).rs) ((b33, ()), (l34, ([o3.2.1, (0 : Int), o4.2.1, o5.2.1], (l21, ()))))))
  N o22.1.1 o2.2.1)
 else
 (bif o22.2.1 == (3 : Int) then
 (bif room ((List.length o2.2.1) + (List.length ([([((11 : Int), ((0 : Int), ((0 : Int), (0 : Int))))])]))) then
 (some (α := ODen (T_spec_l28All_sg N).ps × RDen (T_spec_l28All_sg N).rs) ((o22.1.1, ()), (List.append o2.2.1 ([([((11 : Int), ((0 : Int), ((0 : Int), (0 : Int))))])]), ([o3.2.1, (0 : Int), o4.2.1, o5.2.1], (l21, ()))))) else none)
 else
 (some (α := ODen (T_spec_l28All_sg N).ps × RDen (T_spec_l28All_sg N).rs) ((o22.1.1, ()), (o2.2.1, ([o3.2.1, (0 : Int), o4.2.1, o5.2.1], (l21, ())))))))))) := by
  have h : ((ctxK (R := ODen (T_spec_l28All_sg N).ps × RDen (T_spec_l28All_sg N).rs) tab (T_spec_l28All_ctx N) T_spec_l28All_ann N (theCode Try.f109) [1, 1, 1, 1, 0, 1, 0] (retK tab (T_spec_l28All_sg N) Try.f109.results.toList some)) (.exit 0) (T_spec_l28All_lp0_e0 o2.2.1 ([o3.2.1, (0 : Int), o4.2.1, o5.2.1]) i18 t19 b20 l21)) =
    ((T_spec_l1Below N b20 (24 : Int)).bind fun o22 =>
 (bif o22.2.1 == (0 : Int) then
 (bif (decide ((0 : Int) ≤ (1 : Int))) && (decide ((1 : Int) ≤ ((List.length ([o3.2.1, (0 : Int), o4.2.1, o5.2.1])) : Int))) then
 (some (α := ODen (T_spec_l28All_sg N).ps × RDen (T_spec_l28All_sg N).rs) ((o22.1.1, ()), (o2.2.1, (List.take (Int.toNat (1 : Int)) ([o3.2.1, (0 : Int), o4.2.1, o5.2.1]), (l21, ()))))) else none)
 else
 (bif o22.2.1 == (1 : Int) then
 (bif (decide ((0 : Int) ≤ (1 : Int))) && (decide ((1 : Int) ≤ ((List.length l21) : Int))) then
 (some (α := ODen (T_spec_l28All_sg N).ps × RDen (T_spec_l28All_sg N).rs) ((o22.1.1, ()), (o2.2.1, ([o3.2.1, (0 : Int), o4.2.1, o5.2.1], (List.take (Int.toNat (1 : Int)) l21, ()))))) else none)
 else
 (bif o22.2.1 == (2 : Int) then
 (T_spec_l28All_lp1_m N N (T_spec_l28All_lp1_sh o22.1.1 o2.2.1 ([o3.2.1, (0 : Int), o4.2.1, o5.2.1]) l21) (ctxK (R := ODen (T_spec_l28All_sg N).ps × RDen (T_spec_l28All_sg N).rs) tab (T_spec_l28All_ctx N) T_spec_l28All_ann N (theCode Try.f109) [1, 1, 1, 1, 1, 0, 1, 0, 1, 1, 1, 1, 1, 0, 0] (retK tab (T_spec_l28All_sg N) Try.f109.results.toList some)))
 else
 (bif o22.2.1 == (3 : Int) then
 (bif room ((List.length o2.2.1) + (List.length ([([((11 : Int), ((0 : Int), ((0 : Int), (0 : Int))))])]))) then
 (some (α := ODen (T_spec_l28All_sg N).ps × RDen (T_spec_l28All_sg N).rs) ((o22.1.1, ()), (List.append o2.2.1 ([([((11 : Int), ((0 : Int), ((0 : Int), (0 : Int))))])]), ([o3.2.1, (0 : Int), o4.2.1, o5.2.1], (l21, ()))))) else none)
 else
 (some (α := ODen (T_spec_l28All_sg N).ps × RDen (T_spec_l28All_sg N).rs) ((o22.1.1, ()), (o2.2.1, ([o3.2.1, (0 : Int), o4.2.1, o5.2.1], (l21, ())))))))))) := by kernel_rfl
  rw [h]
  (try simp only [T_spec_l28All_lp1_eq, T_spec_l28All_c2]) <;> rfl

theorem T_spec_l28All_den (N : Nat) (c1 : List Int × Int × Int) :
 den (R := ODen (T_spec_l28All_sg N).ps × RDen (T_spec_l28All_sg N).rs) tab (T_spec_l28All_ctx N) T_spec_l28All_ann N (T_spec_l28All_sg N) Try.f109 (c1, ()) some =
 (T_spec_l28All N c1 : Option (ODen (T_spec_l28All_sg N).ps × RDen (T_spec_l28All_sg N).rs)) := by
  have h : den (R := ODen (T_spec_l28All_sg N).ps × RDen (T_spec_l28All_sg N).rs) tab (T_spec_l28All_ctx N) T_spec_l28All_ann N (T_spec_l28All_sg N) Try.f109 (c1, ()) some =
 ((T_spec_l28Alts N c1).bind fun o2 =>
 ((T_spec_l1Below N o2.1.1 (3 : Int)).bind fun o3 =>
 ((T_spec_l3Draw N o3.1.1).bind fun o4 =>
 ((T_spec_l1Below N o4.1.1 (2 : Int)).bind fun o5 =>
 ((T_spec_l3DrawVals N o5.1.1).bind fun o6 =>
 (T_spec_l28All_lp0_m N N (T_spec_l28All_lp0_sh (0 : Int) o6.1.1 o2.2.1 ([o3.2.1, (0 : Int), o4.2.1, o5.2.1]) o6.2.1) (ctxK (R := ODen (T_spec_l28All_sg N).ps × RDen (T_spec_l28All_sg N).rs) tab (T_spec_l28All_ctx N) T_spec_l28All_ann N (theCode Try.f109) [1, 1, 1, 1, 0, 1, 0] (retK tab (T_spec_l28All_sg N) Try.f109.results.toList some)))))))) := by kernel_rfl
  rw [h]
  (try simp only [T_spec_l28All_lp0_eq, T_spec_l28All_c1]) <;> rfl

theorem T_spec_l28All_ok (N : Nat) : chkBody Try.f109 (T_spec_l28All_sg N).ps = true := by kernel_rfl

theorem T_spec_l28All_callable : Callable Try.prog 109 := callable_of Try.func109 (show chkFn Try.f109 = true by kernel_rfl)

theorem T_spec_l28All_good (N : Nat) : Good Try.prog 109 (T_spec_l28All_sg N) :=
  good_body mixedOk tabOk (ctx_cons (T_spec_l28Alts_good N) T_spec_l28Alts_callable (ctx_cons (T_spec_l1Below_good N) T_spec_l1Below_callable (ctx_cons (T_spec_l3Draw_good N) T_spec_l3Draw_callable (ctx_cons (T_spec_l3DrawVals_good N) T_spec_l3DrawVals_callable (ctx_cons (T_spec_l1Once_good N) T_spec_l1Once_callable ctx_nil))))) Try.func109 (T_spec_l28All_ok N) (fun d _ h => ⟨N, (T_spec_l28All_den N d.1).trans h⟩)

noncomputable def T_spec_l5Prog_sg (N : Nat) : Sig := Sig.of [.box (.prod (.slice (.int .u8)) (.prod (.int .i64) (.int .i64))), .v (.bool) false] [.v (.prod (.own (.prod (.int .i64) (.prod (.int .i64) (.prod (.int .i64) (.int .i64))))) (.own (.slice (.prod (.int .i64) (.prod (.int .i64) (.prod (.int .i64) (.int .i64))))))) true] (fun d => T_spec_l5Prog N d.1 d.2.1)

def T_spec_l5Prog_ann : Nat → List Ghost
  | 7 => [.canon [0, 4, 7, 8, 38]]
  | 8 => [.canon [0, 4, 7, 8]]
  | 9 => [.canon [0, 4, 7, 8]]
  | 100007 => [.adoptC 7 1 (.slice (.prod (.int .i64) (.prod (.int .i64) (.prod (.int .i64) (.int .i64))))), .canon [0, 4, 7, 8]]
  | _ => []

noncomputable def T_spec_l5Prog_ctx (N : Nat) : Ctx := [(90, T_spec_l1Below_sg N), (110, T_spec_l5Gen_sg N)]

def T_spec_l5Prog_lp0_sh (n10 : Int) (b11 : List Int × Int × Int) (l12 : List (Int × Int × Int × Int)) (l13 : List (List (Int × Int × Int × Int))) : St := { env := [(0, .s (.one (.ptr 0 0))), (4, .s (.one (.ptr 1 0))), (7, .s (.one (.ptr 2 0))), (8, .s (.one (.val (.int .i64) (n10 : Int))))], objs := [(0, .box [.val (.slice (.int .u8)) (b11.1 : List Int), .val (.int .i64) (b11.2.1 : Int), .val (.int .i64) (b11.2.2 : Int)]), (1, .box [.nils, .nils]), (2, .box [.own 3, .own 4]), (3, .arr (.prod (.int .i64) (.prod (.int .i64) (.prod (.int .i64) (.int .i64)))) (l12 : List (Int × Int × Int × Int))), (4, .arr (.slice (.prod (.int .i64) (.prod (.int .i64) (.prod (.int .i64) (.int .i64))))) (l13 : List (List (Int × Int × Int × Int))))], nx := 5 }

def T_spec_l5Prog_lp0_e0 (l12 : List (Int × Int × Int × Int)) (n16 : Int) (t17 : Bool) (b18 : List Int × Int × Int) (l19 : List (List (Int × Int × Int × Int))) : St := { env := [(0, .s (.one (.ptr 0 0))), (4, .s (.one (.ptr 1 0))), (7, .s (.one (.ptr 2 0))), (8, .s (.one (.val (.int .i64) (n16 : Int)))), (38, .s (.one (.val (.bool) (t17 : Bool))))], objs := [(0, .box [.val (.slice (.int .u8)) (b18.1 : List Int), .val (.int .i64) (b18.2.1 : Int), .val (.int .i64) (b18.2.2 : Int)]), (1, .box [.nils, .nils]), (2, .box [.own 3, .own 4]), (3, .arr (.prod (.int .i64) (.prod (.int .i64) (.prod (.int .i64) (.int .i64)))) (l12 : List (Int × Int × Int × Int))), (4, .arr (.slice (.prod (.int .i64) (.prod (.int .i64) (.prod (.int .i64) (.int .i64))))) (l19 : List (List (Int × Int × Int × Int))))], nx := 5 }

noncomputable def T_spec_l5Prog_lp0_m (N : Nat) {R : Type} (n : Nat) (st : St) (K : Ex → St → Option R) : Option R := loopN (roundG (T_spec_l5Prog_ann 100007) fun st k => sx tab (T_spec_l5Prog_ctx N) T_spec_l5Prog_ann N (nthLoop Try.f158 0) st k) n st K

theorem T_spec_l5Prog_lp0_step (N : Nat) {R : Type} (n : Nat) (K : Ex → St → Option R) (n10 : Int) (b11 : List Int × Int × Int) (l12 : List (Int × Int × Int × Int)) (l13 : List (List (Int × Int × Int × Int))) :
    T_spec_l5Prog_lp0_m N (n + 1) (T_spec_l5Prog_lp0_sh n10 b11 l12 l13) K =
    (bif decide (n10 > (0 : Int)) then
 ((T_spec_l1Below N b11 (5 : Int)).bind fun o20 =>
 ((T_spec_l5Gen N o20.1.1 (iadd .i64 (2 : Int) o20.2.1) (1 : Int) true).bind fun o21 =>
 (bif room ((List.length l13) + (List.length ([o21.2.1]))) then
 (T_spec_l5Prog_lp0_m N n (T_spec_l5Prog_lp0_sh (isub .i64 n10 (1 : Int)) o21.1.1 l12 (List.append l13 ([o21.2.1]))) K) else none)))
 else
 (K (.exit 0) (T_spec_l5Prog_lp0_e0 l12 n10 (decide (n10 > (0 : Int))) b11 l13))) := by kernel_rfl

theorem T_spec_l5Prog_lp0_eq (N : Nat) {R : Type} (l12 : List (Int × Int × Int × Int)) (K : Ex → St → Option R) : ∀ (n : Nat) (n10 : Int) (b11 : List Int × Int × Int) (l13 : List (List (Int × Int × Int × Int))), T_spec_l5Prog_lp0_m N n (T_spec_l5Prog_lp0_sh n10 b11 l12 l13) K = T_spec_l5Prog_lp0 N l12 (fun n16 t17 b18 l19 => (K (.exit 0) (T_spec_l5Prog_lp0_e0 l12 n16 t17 b18 l19))) n n10 b11 l13
  | 0, _, _, _ => rfl
  | n + 1, n10, b11, l13 => by rw [T_spec_l5Prog_lp0_step, T_spec_l5Prog_lp0]; (try simp only [T_spec_l5Prog_lp0_eq N l12 K n])

theorem T_spec_l5Prog_c1 (N : Nat) (o6 : ((List Int × Int × Int) × Unit) × List (Int × Int × Int × Int) × Unit) (o8 : ((List Int × Int × Int) × Unit) × List (Int × Int × Int × Int) × Unit) (n22 : Int) (t23 : Bool) (b24 : List Int × Int × Int) (l25 : List (List (Int × Int × Int × Int))) :
    ((ctxK (R := ODen (T_spec_l5Prog_sg N).ps × RDen (T_spec_l5Prog_sg N).rs) tab (T_spec_l5Prog_ctx N) T_spec_l5Prog_ann N (theCode Try.f158) [1, 1, 1, 1, 1, 0, 1, 0] (retK tab (T_spec_l5Prog_sg N) Try.f158.results.toList some)) (.exit 0) (T_spec_l5Prog_lp0_e0 (List.append (List.append o6.2.1 ([((11 : Int), ((0 : Int), ((0 : Int), (0 : Int))))])) o8.2.1) n22 t23 b24 l25)) =
    (some (α := ODen (T_spec_l5Prog_sg N).ps × RDen (T_spec_l5Prog_sg N).rs) ((b24, ()), ((List.append (List.append o6.2.1 ([((11 : Int), ((0 : Int), ((0 : Int), (0 : Int))))])) o8.2.1, l25), ()))) := by kernel_rfl

theorem T_spec_l5Prog_den (N : Nat) (c1 : List Int × Int × Int) (forks2 : Bool) :
 den (R := ODen (T_spec_l5Prog_sg N).ps × RDen (T_spec_l5Prog_sg N).rs) tab (T_spec_l5Prog_ctx N) T_spec_l5Prog_ann N (T_spec_l5Prog_sg N) Try.f158 (c1, forks2, ()) some =
 (T_spec_l5Prog N c1 forks2 : Option (ODen (T_spec_l5Prog_sg N).ps × RDen (T_spec_l5Prog_sg N).rs)) := by
  have h : den (R := ODen (T_spec_l5Prog_sg N).ps × RDen (T_spec_l5Prog_sg N).rs) tab (T_spec_l5Prog_ctx N) T_spec_l5Prog_ann N (T_spec_l5Prog_sg N) Try.f158 (c1, forks2, ()) some =
 (bif !forks2 then
 ((T_spec_l1Below N c1 (8 : Int)).bind fun o3 =>
 ((T_spec_l5Gen N o3.1.1 (iadd .i64 (3 : Int) o3.2.1) (2 : Int) false).bind fun o4 =>
 (some (α := ODen (T_spec_l5Prog_sg N).ps × RDen (T_spec_l5Prog_sg N).rs) ((o4.1.1, ()), ((o4.2.1, ([] : List (List (Int × Int × Int × Int)))), ())))))
 else
 ((T_spec_l1Below N c1 (4 : Int)).bind fun o5 =>
 ((T_spec_l5Gen N o5.1.1 (iadd .i64 (1 : Int) o5.2.1) (1 : Int) false).bind fun o6 =>
 ((T_spec_l1Below N o6.1.1 (4 : Int)).bind fun o7 =>
 ((T_spec_l5Gen N o7.1.1 (iadd .i64 (1 : Int) o7.2.1) (1 : Int) false).bind fun o8 =>
 (bif room ((List.length o6.2.1) + (List.length ([((11 : Int), ((0 : Int), ((0 : Int), (0 : Int))))]))) then
 (bif room ((List.length (List.append o6.2.1 ([((11 : Int), ((0 : Int), ((0 : Int), (0 : Int))))]))) + (List.length o8.2.1)) then
 ((T_spec_l1Below N o8.1.1 (3 : Int)).bind fun o9 =>
 (T_spec_l5Prog_lp0_m N N (T_spec_l5Prog_lp0_sh (iadd .i64 (1 : Int) o9.2.1) o9.1.1 (List.append (List.append o6.2.1 ([((11 : Int), ((0 : Int), ((0 : Int), (0 : Int))))])) o8.2.1) ([] : List (List (Int × Int × Int × Int)))) (ctxK (R := ODen (T_spec_l5Prog_sg N).ps × RDen (T_spec_l5Prog_sg N).rs) tab (T_spec_l5Prog_ctx N) T_spec_l5Prog_ann N (theCode Try.f158) [1, 1, 1, 1, 1, 0, 1, 0] (retK tab (T_spec_l5Prog_sg N) Try.f158.results.toList some)))) else none) else none)))))) := by kernel_rfl
  rw [h]
  (try simp only [T_spec_l5Prog_lp0_eq, T_spec_l5Prog_c1]) <;> rfl

theorem T_spec_l5Prog_ok (N : Nat) : chkBody Try.f158 (T_spec_l5Prog_sg N).ps = true := by kernel_rfl

theorem T_spec_l5Prog_callable : Callable Try.prog 158 := callable_of Try.func158 (show chkFn Try.f158 = true by kernel_rfl)

theorem T_spec_l5Prog_good (N : Nat) : Good Try.prog 158 (T_spec_l5Prog_sg N) :=
  good_body mixedOk tabOk (ctx_cons (T_spec_l1Below_good N) T_spec_l1Below_callable (ctx_cons (T_spec_l5Gen_good N) T_spec_l5Gen_callable ctx_nil)) Try.func158 (T_spec_l5Prog_ok N) (fun d _ h => ⟨N, (T_spec_l5Prog_den N d.1 d.2.1).trans h⟩)

noncomputable def T_spec_l4Any_sg (N : Nat) : Sig := Sig.of [.box (.prod (.slice (.int .u8)) (.prod (.int .i64) (.int .i64)))] [.v (.prod (.int .i64) (.prod (.int .i64) (.prod (.int .i64) (.int .i64)))) true] (fun d => T_spec_l4Any N d.1)

def T_spec_l4Any_ann : Nat → List Ghost
  | _ => []

noncomputable def T_spec_l4Any_ctx (N : Nat) : Ctx := [(90, T_spec_l1Below_sg N), (157, T_spec_l4Plain_sg N), (170, T_spec_l1PickInt_sg N)]

theorem T_spec_l4Any_den (N : Nat) (c1 : List Int × Int × Int) :
    den (R := ODen (T_spec_l4Any_sg N).ps × RDen (T_spec_l4Any_sg N).rs) tab (T_spec_l4Any_ctx N) T_spec_l4Any_ann N (T_spec_l4Any_sg N) Try.f183 (c1, ()) some =
    (T_spec_l4Any N c1 : Option (ODen (T_spec_l4Any_sg N).ps × RDen (T_spec_l4Any_sg N).rs)) := by kernel_rfl

theorem T_spec_l4Any_ok (N : Nat) : chkBody Try.f183 (T_spec_l4Any_sg N).ps = true := by kernel_rfl

theorem T_spec_l4Any_callable : Callable Try.prog 183 := callable_of Try.func183 (show chkFn Try.f183 = true by kernel_rfl)

theorem T_spec_l4Any_good (N : Nat) : Good Try.prog 183 (T_spec_l4Any_sg N) :=
  good_body mixedOk tabOk (ctx_cons (T_spec_l1Below_good N) T_spec_l1Below_callable (ctx_cons (T_spec_l4Plain_good N) T_spec_l4Plain_callable (ctx_cons (T_spec_l1PickInt_good N) T_spec_l1PickInt_callable ctx_nil))) Try.func183 (T_spec_l4Any_ok N) (fun d _ h => ⟨N, (T_spec_l4Any_den N d.1).trans h⟩)

noncomputable def T_spec_l5Bend_sg (N : Nat) : Sig := Sig.of [.box (.prod (.slice (.int .u8)) (.prod (.int .i64) (.int .i64))), .v (.slice (.prod (.int .i64) (.prod (.int .i64) (.prod (.int .i64) (.int .i64))))) false] [.v (.own (.prod (.int .i64) (.prod (.int .i64) (.prod (.int .i64) (.int .i64))))) false] (fun d => T_spec_l5Bend N d.1 d.2.1)

def T_spec_l5Bend_ann : Nat → List Ghost
  | 12 => [.view 49, .view 45]
  | 14 => [.canon [0, 5, 58]]
  | 15 => [.canon [0, 5]]
  | 100014 => [.canon [0, 5]]
  | _ => []

noncomputable def T_spec_l5Bend_ctx (N : Nat) : Ctx := [(90, T_spec_l1Below_sg N), (183, T_spec_l4Any_sg N)]

def T_spec_l5Bend_lp0_sh (b6 : List Int × Int × Int) (l7 : List (Int × Int × Int × Int)) : St := { env := [(0, .s (.one (.ptr 0 0))), (5, .s (.one (.own 1)))], objs := [(0, .box [.val (.slice (.int .u8)) (b6.1 : List Int), .val (.int .i64) (b6.2.1 : Int), .val (.int .i64) (b6.2.2 : Int)]), (1, .arr (.prod (.int .i64) (.prod (.int .i64) (.prod (.int .i64) (.int .i64)))) (l7 : List (Int × Int × Int × Int)))], nx := 2 }

def T_spec_l5Bend_lp0_e0 (t9 : Bool) (b10 : List Int × Int × Int) (l11 : List (Int × Int × Int × Int)) : St := { env := [(0, .s (.one (.ptr 0 0))), (5, .s (.one (.own 1))), (58, .s (.one (.val (.bool) (t9 : Bool))))], objs := [(0, .box [.val (.slice (.int .u8)) (b10.1 : List Int), .val (.int .i64) (b10.2.1 : Int), .val (.int .i64) (b10.2.2 : Int)]), (1, .arr (.prod (.int .i64) (.prod (.int .i64) (.prod (.int .i64) (.int .i64)))) (l11 : List (Int × Int × Int × Int)))], nx := 2 }

noncomputable def T_spec_l5Bend_lp0_m (N : Nat) {R : Type} (n : Nat) (st : St) (K : Ex → St → Option R) : Option R := loopN (roundG (T_spec_l5Bend_ann 100014) fun st k => sx tab (T_spec_l5Bend_ctx N) T_spec_l5Bend_ann N (nthLoop Try.f159 0) st k) n st K

theorem T_spec_l5Bend_lp0_step (N : Nat) {R : Type} (n : Nat) (K : Ex → St → Option R) (b6 : List Int × Int × Int) (l7 : List (Int × Int × Int × Int)) :
    T_spec_l5Bend_lp0_m N (n + 1) (T_spec_l5Bend_lp0_sh b6 l7) K =
    ((T_spec_l1Below N b6 (2 : Int)).bind fun o12 =>
 (bif decide ((ilen l7) < (iadd .i64 (24 : Int) o12.2.1)) then
 (bif room ((List.length l7) + (List.length ([((1 : Int), ((0 : Int), ((0 : Int), (0 : Int))))]))) then
 (T_spec_l5Bend_lp0_m N n (T_spec_l5Bend_lp0_sh o12.1.1 (List.append l7 ([((1 : Int), ((0 : Int), ((0 : Int), (0 : Int))))]))) K) else none)
 else
 (K (.exit 1) (T_spec_l5Bend_lp0_e0 (decide ((ilen l7) < (iadd .i64 (24 : Int) o12.2.1))) o12.1.1 l7)))) := by kernel_rfl

theorem T_spec_l5Bend_lp0_eq (N : Nat) {R : Type} (K : Ex → St → Option R) : ∀ (n : Nat) (b6 : List Int × Int × Int) (l7 : List (Int × Int × Int × Int)), T_spec_l5Bend_lp0_m N n (T_spec_l5Bend_lp0_sh b6 l7) K = T_spec_l5Bend_lp0 N (fun t9 b10 l11 => (K (.exit 1) (T_spec_l5Bend_lp0_e0 t9 b10 l11))) n b6 l7
  | 0, _, _ => rfl
  | n + 1, b6, l7 => by rw [T_spec_l5Bend_lp0_step, T_spec_l5Bend_lp0]; (try simp only [T_spec_l5Bend_lp0_eq N K n])

theorem T_spec_l5Bend_c1 (N : Nat) (t13 : Bool) (b14 : List Int × Int × Int) (l15 : List (Int × Int × Int × Int)) :
    ((ctxK (R := ODen (T_spec_l5Bend_sg N).ps × RDen (T_spec_l5Bend_sg N).rs) tab (T_spec_l5Bend_ctx N) T_spec_l5Bend_ann N (theCode Try.f159) [1, 1, 1, 1, 0, 1, 0, 1, 1, 1, 1, 1, 1, 1, 0, 0] (retK tab (T_spec_l5Bend_sg N) Try.f159.results.toList some)) (.exit 1) (T_spec_l5Bend_lp0_e0 t13 b14 l15)) =
    (some (α := ODen (T_spec_l5Bend_sg N).ps × RDen (T_spec_l5Bend_sg N).rs) ((b14, ()), (l15, ()))) := by kernel_rfl

theorem T_spec_l5Bend_den (N : Nat) (c1 : List Int × Int × Int) (code2 : List (Int × Int × Int × Int)) :
 den (R := ODen (T_spec_l5Bend_sg N).ps × RDen (T_spec_l5Bend_sg N).rs) tab (T_spec_l5Bend_ctx N) T_spec_l5Bend_ann N (T_spec_l5Bend_sg N) Try.f159 (c1, code2, ()) some =
 (T_spec_l5Bend N c1 code2 : Option (ODen (T_spec_l5Bend_sg N).ps × RDen (T_spec_l5Bend_sg N).rs)) := by
  have h : den (R := ODen (T_spec_l5Bend_sg N).ps × RDen (T_spec_l5Bend_sg N).rs) tab (T_spec_l5Bend_ctx N) T_spec_l5Bend_ann N (T_spec_l5Bend_sg N) Try.f159 (c1, code2, ()) some =
 (bif room ((List.length ([] : List (Int × Int × Int × Int))) + (List.length code2)) then
 (bif (ilen (List.append ([] : List (Int × Int × Int × Int)) code2)) == (0 : Int) then
 (some (α := ODen (T_spec_l5Bend_sg N).ps × RDen (T_spec_l5Bend_sg N).rs) ((c1, ()), ([((9 : Int), ((0 : Int), ((0 : Int), (0 : Int))))], ())))
 else
 ((T_spec_l1Below N c1 (ilen (List.append ([] : List (Int × Int × Int × Int)) code2))).bind fun o3 =>
 ((T_spec_l1Below N o3.1.1 (6 : Int)).bind fun o4 =>
 (bif o4.2.1 == (0 : Int) then
 ((T_spec_l4Any N o4.1.1).bind fun o5 =>
 (bif inb o3.2.1 (List.length (List.append ([] : List (Int × Int × Int × Int)) code2)) then
 (some (α := ODen (T_spec_l5Bend_sg N).ps × RDen (T_spec_l5Bend_sg N).rs) ((o5.1.1, ()), (List.set (List.append ([] : List (Int × Int × Int × Int)) code2) (Int.toNat o3.2.1) o5.2.1, ()))) else none))
 else
 (bif o4.2.1 == (1 : Int) then
 (bif inb o3.2.1 (List.length (List.append ([] : List (Int × Int × Int × Int)) code2)) then
 (some (α := ODen (T_spec_l5Bend_sg N).ps × RDen (T_spec_l5Bend_sg N).rs) ((o4.1.1, ()), (List.set (List.append ([] : List (Int × Int × Int × Int)) code2) (Int.toNat o3.2.1) ((11 : Int), ((0 : Int), ((0 : Int), (0 : Int)))), ()))) else none)
 else
 (bif o4.2.1 == (2 : Int) then
 (both
 (bif (decide ((0 : Int) ≤ o3.2.1)) && (decide (o3.2.1 ≤ ((List.length (List.append ([] : List (Int × Int × Int × Int)) code2)) : Int))) then
 (bif (decide ((0 : Int) ≤ (iadd .i64 o3.2.1 (1 : Int)))) && (decide ((iadd .i64 o3.2.1 (1 : Int)) ≤ ((List.length (List.append ([] : List (Int × Int × Int × Int)) code2)) : Int))) then
 (bif room ((Int.toNat o3.2.1) + (List.length (List.drop (Int.toNat (iadd .i64 o3.2.1 (1 : Int))) (List.take (List.length (List.append ([] : List (Int × Int × Int × Int)) code2)) (List.append ([] : List (Int × Int × Int × Int)) code2))))) then
 (some (α := ODen (T_spec_l5Bend_sg N).ps × RDen (T_spec_l5Bend_sg N).rs) ((o4.1.1, ()), (List.append (List.take (Int.toNat o3.2.1) (List.append ([] : List (Int × Int × Int × Int)) code2)) (List.drop (Int.toNat (iadd .i64 o3.2.1 (1 : Int))) (List.take (List.length (List.append ([] : List (Int × Int × Int × Int)) code2)) (List.append ([] : List (Int × Int × Int × Int)) code2))), ()))) else none) else none) else none)
 (bif (decide ((0 : Int) ≤ (iadd .i64 o3.2.1 (1 : Int)))) && (decide ((iadd .i64 o3.2.1 (1 : Int)) ≤ ((List.length (List.append ([] : List (Int × Int × Int × Int)) code2)) : Int))) then
 (bif (decide ((0 : Int) ≤ o3.2.1)) && (decide (o3.2.1 ≤ ((List.length (List.append ([] : List (Int × Int × Int × Int)) code2)) : Int))) then
 (bif room ((Int.toNat o3.2.1) + (List.length (List.drop (Int.toNat (iadd .i64 o3.2.1 (1 : Int))) (List.take (List.length (List.append ([] : List (Int × Int × Int × Int)) code2)) (List.append ([] : List (Int × Int × Int × Int)) code2))))) then
 (some (α := ODen (T_spec_l5Bend_sg N).ps × RDen (T_spec_l5Bend_sg N).rs) ((o4.1.1, ()), (List.append (List.take (Int.toNat o3.2.1) (List.append ([] : List (Int × Int × Int × Int)) code2)) (List.drop (Int.toNat (iadd .i64 o3.2.1 (1 : Int))) (List.take (List.length (List.append ([] : List (Int × Int × Int × Int)) code2)) (List.append ([] : List (Int × Int × Int × Int)) code2))), ()))) else none) else none) else none))
 else
 (bif o4.2.1 == (3 : Int) then
 (T_spec_l5Bend_lp0_m N N (T_spec_l5Bend_lp0_sh o4.1.1 (List.append ([] : List (Int × Int × Int × Int)) code2)) (ctxK (R := ODen (T_spec_l5Bend_sg N).ps × RDen (T_spec_l5Bend_sg N).rs) tab (T_spec_l5Bend_ctx N) T_spec_l5Bend_ann N (theCode Try.f159) [1, 1, 1, 1, 0, 1, 0, 1, 1, 1, 1, 1, 1, 1, 0, 0] (retK tab (T_spec_l5Bend_sg N) Try.f159.results.toList some)))
 else
 (bif o4.2.1 == (4 : Int) then
 (bif inb o3.2.1 (List.length (List.append ([] : List (Int × Int × Int × Int)) code2)) then
 (bif inb o3.2.1 (List.length (List.append ([] : List (Int × Int × Int × Int)) code2)) then
 (some (α := ODen (T_spec_l5Bend_sg N).ps × RDen (T_spec_l5Bend_sg N).rs) ((o4.1.1, ()), (List.set (List.append ([] : List (Int × Int × Int × Int)) code2) (Int.toNat o3.2.1) ((List.getD (List.append ([] : List (Int × Int × Int × Int)) code2) (Int.toNat o3.2.1) ((0 : Int), ((0 : Int), ((0 : Int), (0 : Int))))).1, ((List.getD (List.append ([] : List (Int × Int × Int × Int)) code2) (Int.toNat o3.2.1) ((0 : Int), ((0 : Int), ((0 : Int), (0 : Int))))).2.1, (iadd .i64 (List.getD (List.append ([] : List (Int × Int × Int × Int)) code2) (Int.toNat o3.2.1) ((0 : Int), ((0 : Int), ((0 : Int), (0 : Int))))).2.2.1 (1 : Int), (List.getD (List.append ([] : List (Int × Int × Int × Int)) code2) (Int.toNat o3.2.1) ((0 : Int), ((0 : Int), ((0 : Int), (0 : Int))))).2.2.2))), ()))) else none) else none)
 else
 ((T_spec_l1Below N o4.1.1 (2 : Int)).bind fun o16 =>
 (bif inb o3.2.1 (List.length (List.append ([] : List (Int × Int × Int × Int)) code2)) then
 (some (α := ODen (T_spec_l5Bend_sg N).ps × RDen (T_spec_l5Bend_sg N).rs) ((o16.1.1, ()), (List.set (List.append ([] : List (Int × Int × Int × Int)) code2) (Int.toNat o3.2.1) (isub .i64 (9 : Int) o16.2.1, ((0 : Int), ((0 : Int), (0 : Int)))), ()))) else none)))))))))) else none) := by kernel_rfl
  rw [h]
  (try simp only [T_spec_l5Bend_lp0_eq, T_spec_l5Bend_c1]) <;> rfl

theorem T_spec_l5Bend_ok (N : Nat) : chkBody Try.f159 (T_spec_l5Bend_sg N).ps = true := by kernel_rfl

theorem T_spec_l5Bend_callable : Callable Try.prog 159 := callable_of Try.func159 (show chkFn Try.f159 = true by kernel_rfl)

theorem T_spec_l5Bend_good (N : Nat) : Good Try.prog 159 (T_spec_l5Bend_sg N) :=
  good_body mixedOk tabOk (ctx_cons (T_spec_l1Below_good N) T_spec_l1Below_callable (ctx_cons (T_spec_l4Any_good N) T_spec_l4Any_callable ctx_nil)) Try.func159 (T_spec_l5Bend_ok N) (fun d _ h => ⟨N, (T_spec_l5Bend_den N d.1 d.2.1).trans h⟩)

noncomputable def T_spec_l5AnyCode_sg (N : Nat) : Sig := Sig.of [.box (.prod (.slice (.int .u8)) (.prod (.int .i64) (.int .i64)))] [.v (.own (.prod (.int .i64) (.prod (.int .i64) (.prod (.int .i64) (.int .i64))))) false] (fun d => T_spec_l5AnyCode N d.1)

def T_spec_l5AnyCode_ann : Nat → List Ghost
  | _ => []

noncomputable def T_spec_l5AnyCode_ctx (N : Nat) : Ctx := [(88, T_spec_l1Once_sg N), (158, T_spec_l5Prog_sg N), (159, T_spec_l5Bend_sg N)]

theorem T_spec_l5AnyCode_den (N : Nat) (c1 : List Int × Int × Int) :
    den (R := ODen (T_spec_l5AnyCode_sg N).ps × RDen (T_spec_l5AnyCode_sg N).rs) tab (T_spec_l5AnyCode_ctx N) T_spec_l5AnyCode_ann N (T_spec_l5AnyCode_sg N) Try.f111 (c1, ()) some =
    (T_spec_l5AnyCode N c1 : Option (ODen (T_spec_l5AnyCode_sg N).ps × RDen (T_spec_l5AnyCode_sg N).rs)) := by kernel_rfl

theorem T_spec_l5AnyCode_ok (N : Nat) : chkBody Try.f111 (T_spec_l5AnyCode_sg N).ps = true := by kernel_rfl

theorem T_spec_l5AnyCode_callable : Callable Try.prog 111 := callable_of Try.func111 (show chkFn Try.f111 = true by kernel_rfl)

theorem T_spec_l5AnyCode_good (N : Nat) : Good Try.prog 111 (T_spec_l5AnyCode_sg N) :=
  good_body mixedOk tabOk (ctx_cons (T_spec_l1Once_good N) T_spec_l1Once_callable (ctx_cons (T_spec_l5Prog_good N) T_spec_l5Prog_callable (ctx_cons (T_spec_l5Bend_good N) T_spec_l5Bend_callable ctx_nil))) Try.func111 (T_spec_l5AnyCode_ok N) (fun d _ h => ⟨N, (T_spec_l5AnyCode_den N d.1).trans h⟩)

noncomputable def T_spec_DrawEagerRun_sg (N : Nat) : Sig := Sig.of [.v (.slice (.int .u8)) false] [.v (.own (.prod (.int .i64) (.prod (.int .i64) (.prod (.int .i64) (.int .i64))))) false, .v (.own (.int .i64)) false, .v (.own (.int .i64)) false] (fun d => T_spec_DrawEagerRun N d.1)

def T_spec_DrawEagerRun_ann : Nat → List Ghost
  | _ => []

noncomputable def T_spec_DrawEagerRun_ctx (N : Nat) : Ctx := [(53, T_spec_l1New_sg N), (109, T_spec_l28All_sg N), (110, T_spec_l5Gen_sg N), (88, T_spec_l1Once_sg N), (111, T_spec_l5AnyCode_sg N)]

theorem T_spec_DrawEagerRun_den (N : Nat) (code1 : List Int) :
    den (R := ODen (T_spec_DrawEagerRun_sg N).ps × RDen (T_spec_DrawEagerRun_sg N).rs) tab (T_spec_DrawEagerRun_ctx N) T_spec_DrawEagerRun_ann N (T_spec_DrawEagerRun_sg N) Try.f49 (code1, ()) some =
    (T_spec_DrawEagerRun N code1 : Option (ODen (T_spec_DrawEagerRun_sg N).ps × RDen (T_spec_DrawEagerRun_sg N).rs)) := by kernel_rfl

theorem T_spec_DrawEagerRun_ok (N : Nat) : chkBody Try.f49 (T_spec_DrawEagerRun_sg N).ps = true := by kernel_rfl

theorem T_spec_DrawEagerRun_callable : Callable Try.prog 49 := callable_of Try.func49 (show chkFn Try.f49 = true by kernel_rfl)

theorem T_spec_DrawEagerRun_good (N : Nat) : Good Try.prog 49 (T_spec_DrawEagerRun_sg N) :=
  good_body mixedOk tabOk (ctx_cons (T_spec_l1New_good N) T_spec_l1New_callable (ctx_cons (T_spec_l28All_good N) T_spec_l28All_callable (ctx_cons (T_spec_l5Gen_good N) T_spec_l5Gen_callable (ctx_cons (T_spec_l1Once_good N) T_spec_l1Once_callable (ctx_cons (T_spec_l5AnyCode_good N) T_spec_l5AnyCode_callable ctx_nil))))) Try.func49 (T_spec_DrawEagerRun_ok N) (fun d _ h => ⟨N, (T_spec_DrawEagerRun_den N d.1).trans h⟩)

noncomputable def T_impl_within_sg (N : Nat) : Sig := Sig.of [.v (.int .i64) false, .v (.int .i64) false, .v (.int .i64) false] [.v (.bool) false] (fun d => T_impl_within N d.1 d.2.1 d.2.2.1)

def T_impl_within_ann : Nat → List Ghost
  | _ => []

noncomputable def T_impl_within_ctx (N : Nat) : Ctx := []

theorem T_impl_within_den (N : Nat) (x1 : Int) (lo2 : Int) (hi3 : Int) :
    den (R := ODen (T_impl_within_sg N).ps × RDen (T_impl_within_sg N).rs) tab (T_impl_within_ctx N) T_impl_within_ann N (T_impl_within_sg N) Try.f61 (x1, lo2, hi3, ()) some =
    (T_impl_within N x1 lo2 hi3 : Option (ODen (T_impl_within_sg N).ps × RDen (T_impl_within_sg N).rs)) := by kernel_rfl

theorem T_impl_within_ok (N : Nat) : chkBody Try.f61 (T_impl_within_sg N).ps = true := by kernel_rfl

theorem T_impl_within_callable : Callable Try.prog 61 := callable_of Try.func61 (show chkFn Try.f61 = true by kernel_rfl)

theorem T_impl_within_good (N : Nat) : Good Try.prog 61 (T_impl_within_sg N) :=
  good_body mixedOk tabOk ctx_nil Try.func61 (T_impl_within_ok N) (fun d _ h => ⟨N, (T_impl_within_den N d.1 d.2.1 d.2.2.1).trans h⟩)

noncomputable def T_impl_isReg_sg (N : Nat) : Sig := Sig.of [.v (.int .i64) false] [.v (.bool) false] (fun d => T_impl_isReg N d.1)

def T_impl_isReg_ann : Nat → List Ghost
  | _ => []

noncomputable def T_impl_isReg_ctx (N : Nat) : Ctx := [(61, T_impl_within_sg N)]

theorem T_impl_isReg_den (N : Nat) (r1 : Int) :
    den (R := ODen (T_impl_isReg_sg N).ps × RDen (T_impl_isReg_sg N).rs) tab (T_impl_isReg_ctx N) T_impl_isReg_ann N (T_impl_isReg_sg N) Try.f187 (r1, ()) some =
    (T_impl_isReg N r1 : Option (ODen (T_impl_isReg_sg N).ps × RDen (T_impl_isReg_sg N).rs)) := by kernel_rfl

theorem T_impl_isReg_ok (N : Nat) : chkBody Try.f187 (T_impl_isReg_sg N).ps = true := by kernel_rfl

theorem T_impl_isReg_callable : Callable Try.prog 187 := callable_of Try.func187 (show chkFn Try.f187 = true by kernel_rfl)

theorem T_impl_isReg_good (N : Nat) : Good Try.prog 187 (T_impl_isReg_sg N) :=
  good_body mixedOk tabOk (ctx_cons (T_impl_within_good N) T_impl_within_callable ctx_nil) Try.func187 (T_impl_isReg_ok N) (fun d _ h => ⟨N, (T_impl_isReg_den N d.1).trans h⟩)

noncomputable def T_impl_isValue_sg (N : Nat) : Sig := Sig.of [.v (.int .i64) false] [.v (.bool) false] (fun d => T_impl_isValue N d.1)

def T_impl_isValue_ann : Nat → List Ghost
  | _ => []

noncomputable def T_impl_isValue_ctx (N : Nat) : Ctx := [(61, T_impl_within_sg N)]

theorem T_impl_isValue_den (N : Nat) (v1 : Int) :
    den (R := ODen (T_impl_isValue_sg N).ps × RDen (T_impl_isValue_sg N).rs) tab (T_impl_isValue_ctx N) T_impl_isValue_ann N (T_impl_isValue_sg N) Try.f143 (v1, ()) some =
    (T_impl_isValue N v1 : Option (ODen (T_impl_isValue_sg N).ps × RDen (T_impl_isValue_sg N).rs)) := by kernel_rfl

theorem T_impl_isValue_ok (N : Nat) : chkBody Try.f143 (T_impl_isValue_sg N).ps = true := by kernel_rfl

theorem T_impl_isValue_callable : Callable Try.prog 143 := callable_of Try.func143 (show chkFn Try.f143 = true by kernel_rfl)

theorem T_impl_isValue_good (N : Nat) : Good Try.prog 143 (T_impl_isValue_sg N) :=
  good_body mixedOk tabOk (ctx_cons (T_impl_within_good N) T_impl_within_callable ctx_nil) Try.func143 (T_impl_isValue_ok N) (fun d _ h => ⟨N, (T_impl_isValue_den N d.1).trans h⟩)

noncomputable def T_impl_isCell_sg (N : Nat) : Sig := Sig.of [.v (.int .i64) false] [.v (.bool) false] (fun d => T_impl_isCell N d.1)

def T_impl_isCell_ann : Nat → List Ghost
  | _ => []

noncomputable def T_impl_isCell_ctx (N : Nat) : Ctx := [(61, T_impl_within_sg N)]

theorem T_impl_isCell_den (N : Nat) (i1 : Int) :
    den (R := ODen (T_impl_isCell_sg N).ps × RDen (T_impl_isCell_sg N).rs) tab (T_impl_isCell_ctx N) T_impl_isCell_ann N (T_impl_isCell_sg N) Try.f161 (i1, ()) some =
    (T_impl_isCell N i1 : Option (ODen (T_impl_isCell_sg N).ps × RDen (T_impl_isCell_sg N).rs)) := by kernel_rfl

theorem T_impl_isCell_ok (N : Nat) : chkBody Try.f161 (T_impl_isCell_sg N).ps = true := by kernel_rfl

theorem T_impl_isCell_callable : Callable Try.prog 161 := callable_of Try.func161 (show chkFn Try.f161 = true by kernel_rfl)

theorem T_impl_isCell_good (N : Nat) : Good Try.prog 161 (T_impl_isCell_sg N) :=
  good_body mixedOk tabOk (ctx_cons (T_impl_within_good N) T_impl_within_callable ctx_nil) Try.func161 (T_impl_isCell_ok N) (fun d _ h => ⟨N, (T_impl_isCell_den N d.1).trans h⟩)

noncomputable def T_impl_isKey_sg (N : Nat) : Sig := Sig.of [.v (.int .i64) false] [.v (.bool) false] (fun d => T_impl_isKey N d.1)

def T_impl_isKey_ann : Nat → List Ghost
  | _ => []

noncomputable def T_impl_isKey_ctx (N : Nat) : Ctx := [(61, T_impl_within_sg N)]

theorem T_impl_isKey_den (N : Nat) (k1 : Int) :
    den (R := ODen (T_impl_isKey_sg N).ps × RDen (T_impl_isKey_sg N).rs) tab (T_impl_isKey_ctx N) T_impl_isKey_ann N (T_impl_isKey_sg N) Try.f188 (k1, ()) some =
    (T_impl_isKey N k1 : Option (ODen (T_impl_isKey_sg N).ps × RDen (T_impl_isKey_sg N).rs)) := by kernel_rfl

theorem T_impl_isKey_ok (N : Nat) : chkBody Try.f188 (T_impl_isKey_sg N).ps = true := by kernel_rfl

theorem T_impl_isKey_callable : Callable Try.prog 188 := callable_of Try.func188 (show chkFn Try.f188 = true by kernel_rfl)

theorem T_impl_isKey_good (N : Nat) : Good Try.prog 188 (T_impl_isKey_sg N) :=
  good_body mixedOk tabOk (ctx_cons (T_impl_within_good N) T_impl_within_callable ctx_nil) Try.func188 (T_impl_isKey_ok N) (fun d _ h => ⟨N, (T_impl_isKey_den N d.1).trans h⟩)

noncomputable def T_impl_OpOk_sg (N : Nat) : Sig := Sig.of [.v (.prod (.int .i64) (.prod (.int .i64) (.prod (.int .i64) (.int .i64)))) true] [.v (.bool) false] (fun d => T_impl_OpOk N d.1)

def T_impl_OpOk_ann : Nat → List Ghost
  | _ => []

noncomputable def T_impl_OpOk_ctx (N : Nat) : Ctx := [(187, T_impl_isReg_sg N), (143, T_impl_isValue_sg N), (161, T_impl_isCell_sg N), (61, T_impl_within_sg N), (188, T_impl_isKey_sg N)]

theorem T_impl_OpOk_den (N : Nat) (o1 : Int × Int × Int × Int) :
    den (R := ODen (T_impl_OpOk_sg N).ps × RDen (T_impl_OpOk_sg N).rs) tab (T_impl_OpOk_ctx N) T_impl_OpOk_ann N (T_impl_OpOk_sg N) Try.f178 (o1, ()) some =
    (T_impl_OpOk N o1 : Option (ODen (T_impl_OpOk_sg N).ps × RDen (T_impl_OpOk_sg N).rs)) := by kernel_rfl

theorem T_impl_OpOk_ok (N : Nat) : chkBody Try.f178 (T_impl_OpOk_sg N).ps = true := by kernel_rfl

theorem T_impl_OpOk_callable : Callable Try.prog 178 := callable_of Try.func178 (show chkFn Try.f178 = true by kernel_rfl)

theorem T_impl_OpOk_good (N : Nat) : Good Try.prog 178 (T_impl_OpOk_sg N) :=
  good_body mixedOk tabOk (ctx_cons (T_impl_isReg_good N) T_impl_isReg_callable (ctx_cons (T_impl_isValue_good N) T_impl_isValue_callable (ctx_cons (T_impl_isCell_good N) T_impl_isCell_callable (ctx_cons (T_impl_within_good N) T_impl_within_callable (ctx_cons (T_impl_isKey_good N) T_impl_isKey_callable ctx_nil))))) Try.func178 (T_impl_OpOk_ok N) (fun d _ h => ⟨N, (T_impl_OpOk_den N d.1).trans h⟩)

noncomputable def T_impl_Touches_sg (N : Nat) : Sig := Sig.of [.v (.prod (.int .i64) (.prod (.int .i64) (.prod (.int .i64) (.int .i64)))) true] [.v (.int .i64) false] (fun d => T_impl_Touches N d.1)

def T_impl_Touches_ann : Nat → List Ghost
  | _ => []

noncomputable def T_impl_Touches_ctx (N : Nat) : Ctx := [(178, T_impl_OpOk_sg N)]

theorem T_impl_Touches_den (N : Nat) (o1 : Int × Int × Int × Int) :
    den (R := ODen (T_impl_Touches_sg N).ps × RDen (T_impl_Touches_sg N).rs) tab (T_impl_Touches_ctx N) T_impl_Touches_ann N (T_impl_Touches_sg N) Try.f173 (o1, ()) some =
    (T_impl_Touches N o1 : Option (ODen (T_impl_Touches_sg N).ps × RDen (T_impl_Touches_sg N).rs)) := by kernel_rfl

theorem T_impl_Touches_ok (N : Nat) : chkBody Try.f173 (T_impl_Touches_sg N).ps = true := by kernel_rfl

theorem T_impl_Touches_callable : Callable Try.prog 173 := callable_of Try.func173 (show chkFn Try.f173 = true by kernel_rfl)

theorem T_impl_Touches_good (N : Nat) : Good Try.prog 173 (T_impl_Touches_sg N) :=
  good_body mixedOk tabOk (ctx_cons (T_impl_OpOk_good N) T_impl_OpOk_callable ctx_nil) Try.func173 (T_impl_Touches_ok N) (fun d _ h => ⟨N, (T_impl_Touches_den N d.1).trans h⟩)

noncomputable def T_impl_opens_sg (N : Nat) : Sig := Sig.of [.v (.prod (.int .i64) (.prod (.int .i64) (.prod (.int .i64) (.int .i64)))) true] [.v (.int .i64) false] (fun d => T_impl_opens N d.1)

def T_impl_opens_ann : Nat → List Ghost
  | _ => []

noncomputable def T_impl_opens_ctx (N : Nat) : Ctx := []

theorem T_impl_opens_den (N : Nat) (o1 : Int × Int × Int × Int) :
    den (R := ODen (T_impl_opens_sg N).ps × RDen (T_impl_opens_sg N).rs) tab (T_impl_opens_ctx N) T_impl_opens_ann N (T_impl_opens_sg N) Try.f177 (o1, ()) some =
    (T_impl_opens N o1 : Option (ODen (T_impl_opens_sg N).ps × RDen (T_impl_opens_sg N).rs)) := by kernel_rfl

theorem T_impl_opens_ok (N : Nat) : chkBody Try.f177 (T_impl_opens_sg N).ps = true := by kernel_rfl

theorem T_impl_opens_callable : Callable Try.prog 177 := callable_of Try.func177 (show chkFn Try.f177 = true by kernel_rfl)

theorem T_impl_opens_good (N : Nat) : Good Try.prog 177 (T_impl_opens_sg N) :=
  good_body mixedOk tabOk ctx_nil Try.func177 (T_impl_opens_ok N) (fun d _ h => ⟨N, (T_impl_opens_den N d.1).trans h⟩)

noncomputable def T_impl_isBalanced_sg (N : Nat) : Sig := Sig.of [.v (.slice (.prod (.int .i64) (.prod (.int .i64) (.prod (.int .i64) (.int .i64))))) false] [.v (.bool) false] (fun d => T_impl_isBalanced N d.1)

def T_impl_isBalanced_ann : Nat → List Ghost
  | 3 => [.canon [3, 6, 7, 8, 9]]
  | 4 => [.canon [3, 5, 6, 7, 8]]
  | 5 => [.canon [3, 6, 7, 8]]
  | 6 => [.canon [3, 6, 7, 8, 17]]
  | 7 => [.canon [2]]
  | 8 => [.canon [3, 6, 7, 8]]
  | 100003 => [.canon [3, 6, 7, 8]]
  | _ => []

noncomputable def T_impl_isBalanced_ctx (N : Nat) : Ctx := [(177, T_impl_opens_sg N)]

def T_impl_isBalanced_lp0_sh (n2 : Int) (t3 : List (Int × Int × Int × Int)) (t5 : Int) : St := { env := [(3, .s (.one (.val (.int .i64) (n2 : Int)))), (6, .s (.one (.val (.slice (.prod (.int .i64) (.prod (.int .i64) (.prod (.int .i64) (.int .i64))))) (t3 : List (Int × Int × Int × Int))))), (7, .s (.one (.val (.int .i64) (ilen t3 : Int)))), (8, .s (.one (.val (.int .i64) (t5 : Int))))], objs := [], nx := 0 }

def T_impl_isBalanced_lp0_e0 (t3 : List (Int × Int × Int × Int)) : St := { env := [(2, .s (.one (.val (.bool) (false : Bool))))], objs := [], nx := 0 }

def T_impl_isBalanced_lp0_e1 (t3 : List (Int × Int × Int × Int)) (n8 : Int) (t9 : Int) (t10 : Bool) : St := { env := [(3, .s (.one (.val (.int .i64) (n8 : Int)))), (6, .s (.one (.val (.slice (.prod (.int .i64) (.prod (.int .i64) (.prod (.int .i64) (.int .i64))))) (t3 : List (Int × Int × Int × Int))))), (7, .s (.one (.val (.int .i64) (ilen t3 : Int)))), (8, .s (.one (.val (.int .i64) (t9 : Int)))), (9, .s (.one (.val (.bool) (t10 : Bool))))], objs := [], nx := 0 }

noncomputable def T_impl_isBalanced_lp0_m (N : Nat) {R : Type} (n : Nat) (st : St) (K : Ex → St → Option R) : Option R := loopN (roundG (T_impl_isBalanced_ann 100003) fun st k => sx tab (T_impl_isBalanced_ctx N) T_impl_isBalanced_ann N (nthLoop Try.f185 0) st k) n st K

theorem T_impl_isBalanced_lp0_step (N : Nat) {R : Type} (n : Nat) (K : Ex → St → Option R) (n2 : Int) (t3 : List (Int × Int × Int × Int)) (t5 : Int) :
    T_impl_isBalanced_lp0_m N (n + 1) (T_impl_isBalanced_lp0_sh n2 t3 t5) K =
    (bif decide (t5 < (ilen t3)) then
 (bif inb t5 (List.length t3) then
 ((T_impl_opens N (List.getD t3 (Int.toNat t5) ((0 : Int), ((0 : Int), ((0 : Int), (0 : Int)))))).bind fun o11 =>
 (bif decide ((iadd .i64 n2 o11.2.1) < (0 : Int)) then
 (K .ret (T_impl_isBalanced_lp0_e0 t3))
 else
 (T_impl_isBalanced_lp0_m N n (T_impl_isBalanced_lp0_sh (iadd .i64 n2 o11.2.1) t3 (iadd .i64 t5 (1 : Int))) K))) else none)
 else
 (K (.exit 0) (T_impl_isBalanced_lp0_e1 t3 n2 t5 (decide (t5 < (ilen t3)))))) := by kernel_rfl

theorem T_impl_isBalanced_lp0_eq (N : Nat) {R : Type} (t3 : List (Int × Int × Int × Int)) (K : Ex → St → Option R) : ∀ (n : Nat) (n2 : Int) (t5 : Int), T_impl_isBalanced_lp0_m N n (T_impl_isBalanced_lp0_sh n2 t3 t5) K = T_impl_isBalanced_lp0 N t3 (K .ret (T_impl_isBalanced_lp0_e0 t3)) (fun n8 t9 t10 => (K (.exit 0) (T_impl_isBalanced_lp0_e1 t3 n8 t9 t10))) n n2 t5
  | 0, _, _ => rfl
  | n + 1, n2, t5 => by rw [T_impl_isBalanced_lp0_step, T_impl_isBalanced_lp0]; (try simp only [T_impl_isBalanced_lp0_eq N t3 K n])

theorem T_impl_isBalanced_c1 (N : Nat) (code1 : List (Int × Int × Int × Int)) :
    ((ctxK (R := ODen (T_impl_isBalanced_sg N).ps × RDen (T_impl_isBalanced_sg N).rs) tab (T_impl_isBalanced_ctx N) T_impl_isBalanced_ann N (theCode Try.f185) [1, 1, 0, 1, 0] (retK tab (T_impl_isBalanced_sg N) Try.f185.results.toList some)) .ret (T_impl_isBalanced_lp0_e0 code1)) =
    (some (α := ODen (T_impl_isBalanced_sg N).ps × RDen (T_impl_isBalanced_sg N).rs) ((), (false, ()))) := by kernel_rfl

theorem T_impl_isBalanced_c2 (N : Nat) (code1 : List (Int × Int × Int × Int)) (n12 : Int) (t13 : Int) (t14 : Bool) :
    ((ctxK (R := ODen (T_impl_isBalanced_sg N).ps × RDen (T_impl_isBalanced_sg N).rs) tab (T_impl_isBalanced_ctx N) T_impl_isBalanced_ann N (theCode Try.f185) [1, 1, 0, 1, 0] (retK tab (T_impl_isBalanced_sg N) Try.f185.results.toList some)) (.exit 0) (T_impl_isBalanced_lp0_e1 code1 n12 t13 t14)) =
    (some (α := ODen (T_impl_isBalanced_sg N).ps × RDen (T_impl_isBalanced_sg N).rs) ((), (n12 == (0 : Int), ()))) := by kernel_rfl

theorem T_impl_isBalanced_den (N : Nat) (code1 : List (Int × Int × Int × Int)) :
 den (R := ODen (T_impl_isBalanced_sg N).ps × RDen (T_impl_isBalanced_sg N).rs) tab (T_impl_isBalanced_ctx N) T_impl_isBalanced_ann N (T_impl_isBalanced_sg N) Try.f185 (code1, ()) some =
 (T_impl_isBalanced N code1 : Option (ODen (T_impl_isBalanced_sg N).ps × RDen (T_impl_isBalanced_sg N).rs)) := by
  have h : den (R := ODen (T_impl_isBalanced_sg N).ps × RDen (T_impl_isBalanced_sg N).rs) tab (T_impl_isBalanced_ctx N) T_impl_isBalanced_ann N (T_impl_isBalanced_sg N) Try.f185 (code1, ()) some =
 (T_impl_isBalanced_lp0_m N N (T_impl_isBalanced_lp0_sh (0 : Int) code1 (0 : Int)) (ctxK (R := ODen (T_impl_isBalanced_sg N).ps × RDen (T_impl_isBalanced_sg N).rs) tab (T_impl_isBalanced_ctx N) T_impl_isBalanced_ann N (theCode Try.f185) [1, 1, 0, 1, 0] (retK tab (T_impl_isBalanced_sg N) Try.f185.results.toList some))) := by kernel_rfl
  rw [h]
  (try simp only [T_impl_isBalanced_lp0_eq, T_impl_isBalanced_c1, T_impl_isBalanced_c2]) <;> rfl

theorem T_impl_isBalanced_ok (N : Nat) : chkBody Try.f185 (T_impl_isBalanced_sg N).ps = true := by kernel_rfl

theorem T_impl_isBalanced_callable : Callable Try.prog 185 := callable_of Try.func185 (show chkFn Try.f185 = true by kernel_rfl)

theorem T_impl_isBalanced_good (N : Nat) : Good Try.prog 185 (T_impl_isBalanced_sg N) :=
  good_body mixedOk tabOk (ctx_cons (T_impl_opens_good N) T_impl_opens_callable ctx_nil) Try.func185 (T_impl_isBalanced_ok N) (fun d _ h => ⟨N, (T_impl_isBalanced_den N d.1).trans h⟩)

noncomputable def T_impl_DepthAt_sg (N : Nat) : Sig := Sig.of [.v (.slice (.prod (.int .i64) (.prod (.int .i64) (.prod (.int .i64) (.int .i64))))) false, .v (.int .i64) false] [.v (.int .i64) false] (fun d => T_impl_DepthAt N d.1 d.2.1)

def T_impl_DepthAt_ann : Nat → List Ghost
  | 3 => [.canon [1, 5, 8, 9, 10, 11]]
  | 4 => [.canon [1, 5, 6, 7, 8, 9, 10]]
  | 5 => [.canon [1, 5, 7, 8, 9, 10, 17]]
  | 6 => [.canon [1, 5, 8, 9, 10]]
  | 7 => [.canon [1, 5, 8, 9, 10]]
  | 100003 => [.canon [1, 5, 8, 9, 10]]
  | _ => []

noncomputable def T_impl_DepthAt_ctx (N : Nat) : Ctx := [(177, T_impl_opens_sg N)]

def T_impl_DepthAt_lp0_sh (i3 : Int) (n4 : Int) (t5 : List (Int × Int × Int × Int)) (t7 : Int) : St := { env := [(1, .s (.one (.val (.int .i64) (i3 : Int)))), (5, .s (.one (.val (.int .i64) (n4 : Int)))), (8, .s (.one (.val (.slice (.prod (.int .i64) (.prod (.int .i64) (.prod (.int .i64) (.int .i64))))) (t5 : List (Int × Int × Int × Int))))), (9, .s (.one (.val (.int .i64) (ilen t5 : Int)))), (10, .s (.one (.val (.int .i64) (t7 : Int))))], objs := [], nx := 0 }

def T_impl_DepthAt_lp0_e0 (i3 : Int) (t5 : List (Int × Int × Int × Int)) (n10 : Int) (t11 : Int) (t12 : Bool) : St := { env := [(1, .s (.one (.val (.int .i64) (i3 : Int)))), (5, .s (.one (.val (.int .i64) (n10 : Int)))), (8, .s (.one (.val (.slice (.prod (.int .i64) (.prod (.int .i64) (.prod (.int .i64) (.int .i64))))) (t5 : List (Int × Int × Int × Int))))), (9, .s (.one (.val (.int .i64) (ilen t5 : Int)))), (10, .s (.one (.val (.int .i64) (t11 : Int)))), (11, .s (.one (.val (.bool) (t12 : Bool))))], objs := [], nx := 0 }

noncomputable def T_impl_DepthAt_lp0_m (N : Nat) {R : Type} (n : Nat) (st : St) (K : Ex → St → Option R) : Option R := loopN (roundG (T_impl_DepthAt_ann 100003) fun st k => sx tab (T_impl_DepthAt_ctx N) T_impl_DepthAt_ann N (nthLoop Try.f186 0) st k) n st K

theorem T_impl_DepthAt_lp0_step (N : Nat) {R : Type} (n : Nat) (K : Ex → St → Option R) (i3 : Int) (n4 : Int) (t5 : List (Int × Int × Int × Int)) (t7 : Int) :
    T_impl_DepthAt_lp0_m N (n + 1) (T_impl_DepthAt_lp0_sh i3 n4 t5 t7) K =
    (bif decide (t7 < (ilen t5)) then
 (bif inb t7 (List.length t5) then
 (bif decide (t7 < i3) then
 ((T_impl_opens N (List.getD t5 (Int.toNat t7) ((0 : Int), ((0 : Int), ((0 : Int), (0 : Int)))))).bind fun o13 =>
 (T_impl_DepthAt_lp0_m N n (T_impl_DepthAt_lp0_sh i3 (iadd .i64 n4 o13.2.1) t5 (iadd .i64 t7 (1 : Int))) K))
 else
 (T_impl_DepthAt_lp0_m N n (T_impl_DepthAt_lp0_sh i3 n4 t5 (iadd .i64 t7 (1 : Int))) K)) else none)
 else
 (K (.exit 0) (T_impl_DepthAt_lp0_e0 i3 t5 n4 t7 (decide (t7 < (ilen t5)))))) := by kernel_rfl

theorem T_impl_DepthAt_lp0_eq (N : Nat) {R : Type} (i3 : Int) (t5 : List (Int × Int × Int × Int)) (K : Ex → St → Option R) : ∀ (n : Nat) (n4 : Int) (t7 : Int), T_impl_DepthAt_lp0_m N n (T_impl_DepthAt_lp0_sh i3 n4 t5 t7) K = T_impl_DepthAt_lp0 N i3 t5 (fun n10 t11 t12 => (K (.exit 0) (T_impl_DepthAt_lp0_e0 i3 t5 n10 t11 t12))) n n4 t7
  | 0, _, _ => rfl
  | n + 1, n4, t7 => by rw [T_impl_DepthAt_lp0_step, T_impl_DepthAt_lp0]; (try simp only [T_impl_DepthAt_lp0_eq N i3 t5 K n])

theorem T_impl_DepthAt_c1 (N : Nat) (i2 : Int) (code1 : List (Int × Int × Int × Int)) (n14 : Int) (t15 : Int) (t16 : Bool) :
    ((ctxK (R := ODen (T_impl_DepthAt_sg N).ps × RDen (T_impl_DepthAt_sg N).rs) tab (T_impl_DepthAt_ctx N) T_impl_DepthAt_ann N (theCode Try.f186) [1, 1, 0, 1, 0] (retK tab (T_impl_DepthAt_sg N) Try.f186.results.toList some)) (.exit 0) (T_impl_DepthAt_lp0_e0 i2 code1 n14 t15 t16)) =
    (some (α := ODen (T_impl_DepthAt_sg N).ps × RDen (T_impl_DepthAt_sg N).rs) ((), (n14, ()))) := by kernel_rfl

theorem T_impl_DepthAt_den (N : Nat) (code1 : List (Int × Int × Int × Int)) (i2 : Int) :
 den (R := ODen (T_impl_DepthAt_sg N).ps × RDen (T_impl_DepthAt_sg N).rs) tab (T_impl_DepthAt_ctx N) T_impl_DepthAt_ann N (T_impl_DepthAt_sg N) Try.f186 (code1, i2, ()) some =
 (T_impl_DepthAt N code1 i2 : Option (ODen (T_impl_DepthAt_sg N).ps × RDen (T_impl_DepthAt_sg N).rs)) := by
  have h : den (R := ODen (T_impl_DepthAt_sg N).ps × RDen (T_impl_DepthAt_sg N).rs) tab (T_impl_DepthAt_ctx N) T_impl_DepthAt_ann N (T_impl_DepthAt_sg N) Try.f186 (code1, i2, ()) some =
 (T_impl_DepthAt_lp0_m N N (T_impl_DepthAt_lp0_sh i2 (0 : Int) code1 (0 : Int)) (ctxK (R := ODen (T_impl_DepthAt_sg N).ps × RDen (T_impl_DepthAt_sg N).rs) tab (T_impl_DepthAt_ctx N) T_impl_DepthAt_ann N (theCode Try.f186) [1, 1, 0, 1, 0] (retK tab (T_impl_DepthAt_sg N) Try.f186.results.toList some))) := by kernel_rfl
  rw [h]
  (try simp only [T_impl_DepthAt_lp0_eq, T_impl_DepthAt_c1]) <;> rfl

theorem T_impl_DepthAt_ok (N : Nat) : chkBody Try.f186 (T_impl_DepthAt_sg N).ps = true := by kernel_rfl

theorem T_impl_DepthAt_callable : Callable Try.prog 186 := callable_of Try.func186 (show chkFn Try.f186 = true by kernel_rfl)

theorem T_impl_DepthAt_good (N : Nat) : Good Try.prog 186 (T_impl_DepthAt_sg N) :=
  good_body mixedOk tabOk (ctx_cons (T_impl_opens_good N) T_impl_opens_callable ctx_nil) Try.func186 (T_impl_DepthAt_ok N) (fun d _ h => ⟨N, (T_impl_DepthAt_den N d.1 d.2.1).trans h⟩)

noncomputable def T_impl_CodeOk_sg (N : Nat) : Sig := Sig.of [.v (.slice (.prod (.int .i64) (.prod (.int .i64) (.prod (.int .i64) (.int .i64))))) false] [.v (.bool) false] (fun d => T_impl_CodeOk N d.1)

def T_impl_CodeOk_ann : Nat → List Ghost
  | 5 => [.canon [0, 3, 14, 15, 16, 17]]
  | 6 => [.canon [0, 3, 4, 5, 14, 15, 16]]
  | 7 => [.canon [0, 3, 4, 5, 14, 15, 16, 23]]
  | 8 => [.canon [2]]
  | 9 => [.canon [0, 3, 4, 5, 14, 15, 16, 25]]
  | 10 => [.canon [0, 3, 4, 5, 14, 15, 16, 25, 26]]
  | 11 => [.canon [0, 3, 14, 15, 16, 48]]
  | 12 => [.canon [2]]
  | 13 => [.canon [0, 3, 4, 14, 15, 16, 49]]
  | 14 => [.canon [0, 3, 4, 14, 15, 16]]
  | 15 => [.canon [0, 3, 14, 15, 16, 60]]
  | 16 => [.canon [2]]
  | 17 => [.canon [0, 3, 14, 15, 16]]
  | 100005 => [.canon [0, 3, 14, 15, 16]]
  | _ => []

noncomputable def T_impl_CodeOk_ctx (N : Nat) : Ctx := [(185, T_impl_isBalanced_sg N), (178, T_impl_OpOk_sg N), (186, T_impl_DepthAt_sg N)]

def T_impl_CodeOk_lp0_sh (code3 : List (Int × Int × Int × Int)) (forks4 : Int) (t7 : Int) : St := { env := [(0, .s (.one (.val (.slice (.prod (.int .i64) (.prod (.int .i64) (.prod (.int .i64) (.int .i64))))) (code3 : List (Int × Int × Int × Int))))), (3, .s (.one (.val (.int .i64) (forks4 : Int)))), (14, .s (.one (.val (.slice (.prod (.int .i64) (.prod (.int .i64) (.prod (.int .i64) (.int .i64))))) (code3 : List (Int × Int × Int × Int))))), (15, .s (.one (.val (.int .i64) (ilen code3 : Int)))), (16, .s (.one (.val (.int .i64) (t7 : Int))))], objs := [], nx := 0 }

def T_impl_CodeOk_lp0_e0 (code3 : List (Int × Int × Int × Int)) : St := { env := [(2, .s (.one (.val (.bool) (false : Bool))))], objs := [], nx := 0 }

def T_impl_CodeOk_lp0_e1 (code3 : List (Int × Int × Int × Int)) (forks14 : Int) (t15 : Int) (t16 : Bool) : St := { env := [(0, .s (.one (.val (.slice (.prod (.int .i64) (.prod (.int .i64) (.prod (.int .i64) (.int .i64))))) (code3 : List (Int × Int × Int × Int))))), (3, .s (.one (.val (.int .i64) (forks14 : Int)))), (14, .s (.one (.val (.slice (.prod (.int .i64) (.prod (.int .i64) (.prod (.int .i64) (.int .i64))))) (code3 : List (Int × Int × Int × Int))))), (15, .s (.one (.val (.int .i64) (ilen code3 : Int)))), (16, .s (.one (.val (.int .i64) (t15 : Int)))), (17, .s (.one (.val (.bool) (t16 : Bool))))], objs := [], nx := 0 }

noncomputable def T_impl_CodeOk_lp0_m (N : Nat) {R : Type} (n : Nat) (st : St) (K : Ex → St → Option R) : Option R := loopN (roundG (T_impl_CodeOk_ann 100005) fun st k => sx tab (T_impl_CodeOk_ctx N) T_impl_CodeOk_ann N (nthLoop Try.f174 0) st k) n st K

theorem T_impl_CodeOk_lp0_step (N : Nat) {R : Type} (n : Nat) (K : Ex → St → Option R) (code3 : List (Int × Int × Int × Int)) (forks4 : Int) (t7 : Int) :
    T_impl_CodeOk_lp0_m N (n + 1) (T_impl_CodeOk_lp0_sh code3 forks4 t7) K =
    (bif decide (t7 < (ilen code3)) then
 (bif inb t7 (List.length code3) then
 ((T_impl_OpOk N (List.getD code3 (Int.toNat t7) ((0 : Int), ((0 : Int), ((0 : Int), (0 : Int)))))).bind fun o17 =>
 (bif !o17.2.1 then
 (K .ret (T_impl_CodeOk_lp0_e0 code3))
 else
 (bif (List.getD code3 (Int.toNat t7) ((0 : Int), ((0 : Int), ((0 : Int), (0 : Int))))).1 == (7 : Int) then
 (bif decide ((iadd .i64 (iadd .i64 t7 (1 : Int)) (List.getD code3 (Int.toNat t7) ((0 : Int), ((0 : Int), ((0 : Int), (0 : Int))))).2.2.1) > (ilen code3)) then
 (K .ret (T_impl_CodeOk_lp0_e0 code3))
 else
 (bif (((decide ((0 : Int) ≤ (iadd .i64 (iadd .i64 t7 (1 : Int)) (List.getD code3 (Int.toNat t7) ((0 : Int), ((0 : Int), ((0 : Int), (0 : Int))))).2.2.1))) && (decide ((iadd .i64 (iadd .i64 t7 (1 : Int)) (List.getD code3 (Int.toNat t7) ((0 : Int), ((0 : Int), ((0 : Int), (0 : Int))))).2.2.1) ≤ ((List.length code3) : Int)))) && (decide ((0 : Int) ≤ (iadd .i64 t7 (1 : Int))))) && (decide ((iadd .i64 t7 (1 : Int)) ≤ (iadd .i64 (iadd .i64 t7 (1 : Int)) (List.getD code3 (Int.toNat t7) ((0 : Int), ((0 : Int), ((0 : Int), (0 : Int))))).2.2.1))) then
 ((T_impl_isBalanced N (List.drop (Int.toNat (iadd .i64 t7 (1 : Int))) (List.take (Int.toNat (iadd .i64 (iadd .i64 t7 (1 : Int)) (List.getD code3 (Int.toNat t7) ((0 : Int), ((0 : Int), ((0 : Int), (0 : Int))))).2.2.1)) code3))).bind fun o18 =>
 (bif !o18.2.1 then
 (K .ret (T_impl_CodeOk_lp0_e0 code3))
 else
 (T_impl_CodeOk_lp0_m N n (T_impl_CodeOk_lp0_sh code3 forks4 (iadd .i64 t7 (1 : Int))) K))) else none))
 else
 (bif (List.getD code3 (Int.toNat t7) ((0 : Int), ((0 : Int), ((0 : Int), (0 : Int))))).1 == (11 : Int) then
 (bif decide ((iadd .i64 forks4 (1 : Int)) > (1 : Int)) then
 (K .ret (T_impl_CodeOk_lp0_e0 code3))
 else
 ((T_impl_DepthAt N code3 t7).bind fun o19 =>
 (bif o19.2.1 != (0 : Int) then
 (K .ret (T_impl_CodeOk_lp0_e0 code3))
 else
 (T_impl_CodeOk_lp0_m N n (T_impl_CodeOk_lp0_sh code3 (iadd .i64 forks4 (1 : Int)) (iadd .i64 t7 (1 : Int))) K))))
 else
 (T_impl_CodeOk_lp0_m N n (T_impl_CodeOk_lp0_sh code3 forks4 (iadd .i64 t7 (1 : Int))) K))))) else none)
 else
 (K (.exit 0) (T_impl_CodeOk_lp0_e1 code3 forks4 t7 (decide (t7 < (ilen code3)))))) := by kernel_rfl

theorem T_impl_CodeOk_lp0_eq (N : Nat) {R : Type} (code3 : List (Int × Int × Int × Int)) (K : Ex → St → Option R) : ∀ (n : Nat) (forks4 : Int) (t7 : Int), T_impl_CodeOk_lp0_m N n (T_impl_CodeOk_lp0_sh code3 forks4 t7) K = T_impl_CodeOk_lp0 N code3 (K .ret (T_impl_CodeOk_lp0_e0 code3)) (fun forks14 t15 t16 => (K (.exit 0) (T_impl_CodeOk_lp0_e1 code3 forks14 t15 t16))) n forks4 t7
  | 0, _, _ => rfl
  | n + 1, forks4, t7 => by rw [T_impl_CodeOk_lp0_step, T_impl_CodeOk_lp0]; (try simp only [T_impl_CodeOk_lp0_eq N code3 K n])

theorem T_impl_CodeOk_c1 (N : Nat) (code1 : List (Int × Int × Int × Int)) :
    ((ctxK (R := ODen (T_impl_CodeOk_sg N).ps × RDen (T_impl_CodeOk_sg N).rs) tab (T_impl_CodeOk_ctx N) T_impl_CodeOk_ann N (theCode Try.f174) [1, 1, 1, 0, 1, 0] (retK tab (T_impl_CodeOk_sg N) Try.f174.results.toList some)) .ret (T_impl_CodeOk_lp0_e0 code1)) =
    (some (α := ODen (T_impl_CodeOk_sg N).ps × RDen (T_impl_CodeOk_sg N).rs) ((), (false, ()))) := by kernel_rfl

theorem T_impl_CodeOk_c2 (N : Nat) (code1 : List (Int × Int × Int × Int)) (forks20 : Int) (t21 : Int) (t22 : Bool) :
    ((ctxK (R := ODen (T_impl_CodeOk_sg N).ps × RDen (T_impl_CodeOk_sg N).rs) tab (T_impl_CodeOk_ctx N) T_impl_CodeOk_ann N (theCode Try.f174) [1, 1, 1, 0, 1, 0] (retK tab (T_impl_CodeOk_sg N) Try.f174.results.toList some)) (.exit 0) (T_impl_CodeOk_lp0_e1 code1 forks20 t21 t22)) =
    (some (α := ODen (T_impl_CodeOk_sg N).ps × RDen (T_impl_CodeOk_sg N).rs) ((), (true, ()))) := by kernel_rfl

theorem T_impl_CodeOk_den (N : Nat) (code1 : List (Int × Int × Int × Int)) :
 den (R := ODen (T_impl_CodeOk_sg N).ps × RDen (T_impl_CodeOk_sg N).rs) tab (T_impl_CodeOk_ctx N) T_impl_CodeOk_ann N (T_impl_CodeOk_sg N) Try.f174 (code1, ()) some =
 (T_impl_CodeOk N code1 : Option (ODen (T_impl_CodeOk_sg N).ps × RDen (T_impl_CodeOk_sg N).rs)) := by
  have h : den (R := ODen (T_impl_CodeOk_sg N).ps × RDen (T_impl_CodeOk_sg N).rs) tab (T_impl_CodeOk_ctx N) T_impl_CodeOk_ann N (T_impl_CodeOk_sg N) Try.f174 (code1, ()) some =
 (bif decide ((ilen code1) > (24 : Int)) then
 (some (α := ODen (T_impl_CodeOk_sg N).ps × RDen (T_impl_CodeOk_sg N).rs) ((), (false, ())))
 else
 ((T_impl_isBalanced N code1).bind fun o2 =>
 (bif !o2.2.1 then
 (some (α := ODen (T_impl_CodeOk_sg N).ps × RDen (T_impl_CodeOk_sg N).rs) ((), (false, ())))
 else
 (T_impl_CodeOk_lp0_m N N (T_impl_CodeOk_lp0_sh code1 (0 : Int) (0 : Int)) (ctxK (R := ODen (T_impl_CodeOk_sg N).ps × RDen (T_impl_CodeOk_sg N).rs) tab (T_impl_CodeOk_ctx N) T_impl_CodeOk_ann N (theCode Try.f174) [1, 1, 1, 0, 1, 0] (retK tab (T_impl_CodeOk_sg N) Try.f174.results.toList some)))))) := by kernel_rfl
  rw [h]
  (try simp only [T_impl_CodeOk_lp0_eq, T_impl_CodeOk_c1, T_impl_CodeOk_c2]) <;> rfl

theorem T_impl_CodeOk_ok (N : Nat) : chkBody Try.f174 (T_impl_CodeOk_sg N).ps = true := by kernel_rfl

theorem T_impl_CodeOk_callable : Callable Try.prog 174 := callable_of Try.func174 (show chkFn Try.f174 = true by kernel_rfl)

theorem T_impl_CodeOk_good (N : Nat) : Good Try.prog 174 (T_impl_CodeOk_sg N) :=
  good_body mixedOk tabOk (ctx_cons (T_impl_isBalanced_good N) T_impl_isBalanced_callable (ctx_cons (T_impl_OpOk_good N) T_impl_OpOk_callable (ctx_cons (T_impl_DepthAt_good N) T_impl_DepthAt_callable ctx_nil))) Try.func174 (T_impl_CodeOk_ok N) (fun d _ h => ⟨N, (T_impl_CodeOk_den N d.1).trans h⟩)

noncomputable def T_impl_KidOk_sg (N : Nat) : Sig := Sig.of [.v (.slice (.prod (.int .i64) (.prod (.int .i64) (.prod (.int .i64) (.int .i64))))) false] [.v (.bool) false] (fun d => T_impl_KidOk N d.1)

def T_impl_KidOk_ann : Nat → List Ghost
  | 2 => [.canon [0, 5, 6, 7, 8]]
  | 3 => [.canon [0, 4, 5, 6, 7]]
  | 4 => [.canon [0, 5, 6, 7, 18]]
  | 5 => [.canon [2]]
  | 6 => [.canon [0, 5, 6, 7]]
  | 100002 => [.canon [0, 5, 6, 7]]
  | _ => []

noncomputable def T_impl_KidOk_ctx (N : Nat) : Ctx := [(173, T_impl_Touches_sg N), (174, T_impl_CodeOk_sg N)]

def T_impl_KidOk_lp0_sh (code2 : List (Int × Int × Int × Int)) (t5 : Int) : St := { env := [(0, .s (.one (.val (.slice (.prod (.int .i64) (.prod (.int .i64) (.prod (.int .i64) (.int .i64))))) (code2 : List (Int × Int × Int × Int))))), (5, .s (.one (.val (.slice (.prod (.int .i64) (.prod (.int .i64) (.prod (.int .i64) (.int .i64))))) (code2 : List (Int × Int × Int × Int))))), (6, .s (.one (.val (.int .i64) (ilen code2 : Int)))), (7, .s (.one (.val (.int .i64) (t5 : Int))))], objs := [], nx := 0 }

def T_impl_KidOk_lp0_e0 (code2 : List (Int × Int × Int × Int)) : St := { env := [(2, .s (.one (.val (.bool) (false : Bool))))], objs := [], nx := 0 }

def T_impl_KidOk_lp0_e1 (code2 : List (Int × Int × Int × Int)) (t8 : Int) (t9 : Bool) : St := { env := [(0, .s (.one (.val (.slice (.prod (.int .i64) (.prod (.int .i64) (.prod (.int .i64) (.int .i64))))) (code2 : List (Int × Int × Int × Int))))), (5, .s (.one (.val (.slice (.prod (.int .i64) (.prod (.int .i64) (.prod (.int .i64) (.int .i64))))) (code2 : List (Int × Int × Int × Int))))), (6, .s (.one (.val (.int .i64) (ilen code2 : Int)))), (7, .s (.one (.val (.int .i64) (t8 : Int)))), (8, .s (.one (.val (.bool) (t9 : Bool))))], objs := [], nx := 0 }

noncomputable def T_impl_KidOk_lp0_m (N : Nat) {R : Type} (n : Nat) (st : St) (K : Ex → St → Option R) : Option R := loopN (roundG (T_impl_KidOk_ann 100002) fun st k => sx tab (T_impl_KidOk_ctx N) T_impl_KidOk_ann N (nthLoop Try.f149 0) st k) n st K

theorem T_impl_KidOk_lp0_step (N : Nat) {R : Type} (n : Nat) (K : Ex → St → Option R) (code2 : List (Int × Int × Int × Int)) (t5 : Int) :
    T_impl_KidOk_lp0_m N (n + 1) (T_impl_KidOk_lp0_sh code2 t5) K =
    (bif decide (t5 < (ilen code2)) then
 (bif inb t5 (List.length code2) then
 (bif (List.getD code2 (Int.toNat t5) ((0 : Int), ((0 : Int), ((0 : Int), (0 : Int))))).1 == (11 : Int) then
 (K .ret (T_impl_KidOk_lp0_e0 code2))
 else
 ((T_impl_Touches N (List.getD code2 (Int.toNat t5) ((0 : Int), ((0 : Int), ((0 : Int), (0 : Int)))))).bind fun o10 =>
 (bif o10.2.1 == (2 : Int) then
 (K .ret (T_impl_KidOk_lp0_e0 code2))
 else
 (T_impl_KidOk_lp0_m N n (T_impl_KidOk_lp0_sh code2 (iadd .i64 t5 (1 : Int))) K)))) else none)
 else
 (K (.exit 0) (T_impl_KidOk_lp0_e1 code2 t5 (decide (t5 < (ilen code2)))))) := by kernel_rfl

theorem T_impl_KidOk_lp0_eq (N : Nat) {R : Type} (code2 : List (Int × Int × Int × Int)) (K : Ex → St → Option R) : ∀ (n : Nat) (t5 : Int), T_impl_KidOk_lp0_m N n (T_impl_KidOk_lp0_sh code2 t5) K = T_impl_KidOk_lp0 N code2 (K .ret (T_impl_KidOk_lp0_e0 code2)) (fun t8 t9 => (K (.exit 0) (T_impl_KidOk_lp0_e1 code2 t8 t9))) n t5
  | 0, _ => rfl
  | n + 1, t5 => by rw [T_impl_KidOk_lp0_step, T_impl_KidOk_lp0]; (try simp only [T_impl_KidOk_lp0_eq N code2 K n])

theorem T_impl_KidOk_c1 (N : Nat) (code1 : List (Int × Int × Int × Int)) :
    ((ctxK (R := ODen (T_impl_KidOk_sg N).ps × RDen (T_impl_KidOk_sg N).rs) tab (T_impl_KidOk_ctx N) T_impl_KidOk_ann N (theCode Try.f149) [1, 0, 1, 0] (retK tab (T_impl_KidOk_sg N) Try.f149.results.toList some)) .ret (T_impl_KidOk_lp0_e0 code1)) =
    (some (α := ODen (T_impl_KidOk_sg N).ps × RDen (T_impl_KidOk_sg N).rs) ((), (false, ()))) := by kernel_rfl

theorem T_impl_KidOk_c2 (N : Nat) (code1 : List (Int × Int × Int × Int)) (t11 : Int) (t12 : Bool) :
    ((ctxK (R := ODen (T_impl_KidOk_sg N).ps × RDen (T_impl_KidOk_sg N).rs) tab (T_impl_KidOk_ctx N) T_impl_KidOk_ann N (theCode Try.f149) [1, 0, 1, 0] (retK tab (T_impl_KidOk_sg N) Try.f149.results.toList some)) (.exit 0) (T_impl_KidOk_lp0_e1 code1 t11 t12)) =
    ((T_impl_CodeOk N code1).bind fun o13 =>
 (some (α := ODen (T_impl_KidOk_sg N).ps × RDen (T_impl_KidOk_sg N).rs) ((), (o13.2.1, ())))) := by kernel_rfl

theorem T_impl_KidOk_den (N : Nat) (code1 : List (Int × Int × Int × Int)) :
 den (R := ODen (T_impl_KidOk_sg N).ps × RDen (T_impl_KidOk_sg N).rs) tab (T_impl_KidOk_ctx N) T_impl_KidOk_ann N (T_impl_KidOk_sg N) Try.f149 (code1, ()) some =
 (T_impl_KidOk N code1 : Option (ODen (T_impl_KidOk_sg N).ps × RDen (T_impl_KidOk_sg N).rs)) := by
  have h : den (R := ODen (T_impl_KidOk_sg N).ps × RDen (T_impl_KidOk_sg N).rs) tab (T_impl_KidOk_ctx N) T_impl_KidOk_ann N (T_impl_KidOk_sg N) Try.f149 (code1, ()) some =
 (T_impl_KidOk_lp0_m N N (T_impl_KidOk_lp0_sh code1 (0 : Int)) (ctxK (R := ODen (T_impl_KidOk_sg N).ps × RDen (T_impl_KidOk_sg N).rs) tab (T_impl_KidOk_ctx N) T_impl_KidOk_ann N (theCode Try.f149) [1, 0, 1, 0] (retK tab (T_impl_KidOk_sg N) Try.f149.results.toList some))) := by kernel_rfl
  rw [h]
  (try simp only [T_impl_KidOk_lp0_eq, T_impl_KidOk_c1, T_impl_KidOk_c2]) <;> rfl

theorem T_impl_KidOk_ok (N : Nat) : chkBody Try.f149 (T_impl_KidOk_sg N).ps = true := by kernel_rfl

theorem T_impl_KidOk_callable : Callable Try.prog 149 := callable_of Try.func149 (show chkFn Try.f149 = true by kernel_rfl)

theorem T_impl_KidOk_good (N : Nat) : Good Try.prog 149 (T_impl_KidOk_sg N) :=
  good_body mixedOk tabOk (ctx_cons (T_impl_Touches_good N) T_impl_Touches_callable (ctx_cons (T_impl_CodeOk_good N) T_impl_CodeOk_callable ctx_nil)) Try.func149 (T_impl_KidOk_ok N) (fun d _ h => ⟨N, (T_impl_KidOk_den N d.1).trans h⟩)

noncomputable def T_impl_areValues_sg (N : Nat) : Sig := Sig.of [.v (.slice (.int .i64)) false, .v (.int .i64) false] [.v (.bool) false] (fun d => T_impl_areValues N d.1 d.2.1)

def T_impl_areValues_ann : Nat → List Ghost
  | 2 => [.canon [0, 1, 7, 8, 9, 10]]
  | 3 => [.canon [0, 1, 6, 7, 8, 9]]
  | 4 => [.canon [0, 1, 7, 8, 9, 15]]
  | 5 => [.canon [4]]
  | 6 => [.canon [0, 1, 7, 8, 9]]
  | 100002 => [.canon [0, 1, 7, 8, 9]]
  | _ => []

noncomputable def T_impl_areValues_ctx (N : Nat) : Ctx := [(143, T_impl_isValue_sg N)]

def T_impl_areValues_lp0_sh (l3 : List Int) (n4 : Int) (t7 : Int) : St := { env := [(0, .s (.one (.val (.slice (.int .i64)) (l3 : List Int)))), (1, .s (.one (.val (.int .i64) (n4 : Int)))), (7, .s (.one (.val (.slice (.int .i64)) (l3 : List Int)))), (8, .s (.one (.val (.int .i64) (ilen l3 : Int)))), (9, .s (.one (.val (.int .i64) (t7 : Int))))], objs := [], nx := 0 }

def T_impl_areValues_lp0_e0 (l3 : List Int) (n4 : Int) : St := { env := [(4, .s (.one (.val (.bool) (false : Bool))))], objs := [], nx := 0 }

def T_impl_areValues_lp0_e1 (l3 : List Int) (n4 : Int) (t10 : Int) (t11 : Bool) : St := { env := [(0, .s (.one (.val (.slice (.int .i64)) (l3 : List Int)))), (1, .s (.one (.val (.int .i64) (n4 : Int)))), (7, .s (.one (.val (.slice (.int .i64)) (l3 : List Int)))), (8, .s (.one (.val (.int .i64) (ilen l3 : Int)))), (9, .s (.one (.val (.int .i64) (t10 : Int)))), (10, .s (.one (.val (.bool) (t11 : Bool))))], objs := [], nx := 0 }

noncomputable def T_impl_areValues_lp0_m (N : Nat) {R : Type} (n : Nat) (st : St) (K : Ex → St → Option R) : Option R := loopN (roundG (T_impl_areValues_ann 100002) fun st k => sx tab (T_impl_areValues_ctx N) T_impl_areValues_ann N (nthLoop Try.f91 0) st k) n st K

theorem T_impl_areValues_lp0_step (N : Nat) {R : Type} (n : Nat) (K : Ex → St → Option R) (l3 : List Int) (n4 : Int) (t7 : Int) :
    T_impl_areValues_lp0_m N (n + 1) (T_impl_areValues_lp0_sh l3 n4 t7) K =
    (bif decide (t7 < (ilen l3)) then
 (bif inb t7 (List.length l3) then
 ((T_impl_isValue N (List.getD l3 (Int.toNat t7) (0 : Int))).bind fun o12 =>
 (bif !o12.2.1 then
 (K .ret (T_impl_areValues_lp0_e0 l3 n4))
 else
 (T_impl_areValues_lp0_m N n (T_impl_areValues_lp0_sh l3 n4 (iadd .i64 t7 (1 : Int))) K))) else none)
 else
 (K (.exit 0) (T_impl_areValues_lp0_e1 l3 n4 t7 (decide (t7 < (ilen l3)))))) := by kernel_rfl

theorem T_impl_areValues_lp0_eq (N : Nat) {R : Type} (l3 : List Int) (n4 : Int) (K : Ex → St → Option R) : ∀ (n : Nat) (t7 : Int), T_impl_areValues_lp0_m N n (T_impl_areValues_lp0_sh l3 n4 t7) K = T_impl_areValues_lp0 N l3 n4 (K .ret (T_impl_areValues_lp0_e0 l3 n4)) (fun t10 t11 => (K (.exit 0) (T_impl_areValues_lp0_e1 l3 n4 t10 t11))) n t7
  | 0, _ => rfl
  | n + 1, t7 => by rw [T_impl_areValues_lp0_step, T_impl_areValues_lp0]; (try simp only [T_impl_areValues_lp0_eq N l3 n4 K n])

theorem T_impl_areValues_c1 (N : Nat) (l1 : List Int) (n2 : Int) :
    ((ctxK (R := ODen (T_impl_areValues_sg N).ps × RDen (T_impl_areValues_sg N).rs) tab (T_impl_areValues_ctx N) T_impl_areValues_ann N (theCode Try.f91) [1, 0, 1, 0] (retK tab (T_impl_areValues_sg N) Try.f91.results.toList some)) .ret (T_impl_areValues_lp0_e0 l1 n2)) =
    (some (α := ODen (T_impl_areValues_sg N).ps × RDen (T_impl_areValues_sg N).rs) ((), (false, ()))) := by kernel_rfl

theorem T_impl_areValues_c2 (N : Nat) (l1 : List Int) (n2 : Int) (t13 : Int) (t14 : Bool) :
    ((ctxK (R := ODen (T_impl_areValues_sg N).ps × RDen (T_impl_areValues_sg N).rs) tab (T_impl_areValues_ctx N) T_impl_areValues_ann N (theCode Try.f91) [1, 0, 1, 0] (retK tab (T_impl_areValues_sg N) Try.f91.results.toList some)) (.exit 0) (T_impl_areValues_lp0_e1 l1 n2 t13 t14)) =
    (some (α := ODen (T_impl_areValues_sg N).ps × RDen (T_impl_areValues_sg N).rs) ((), ((ilen l1) == n2, ()))) := by kernel_rfl

theorem T_impl_areValues_den (N : Nat) (l1 : List Int) (n2 : Int) :
 den (R := ODen (T_impl_areValues_sg N).ps × RDen (T_impl_areValues_sg N).rs) tab (T_impl_areValues_ctx N) T_impl_areValues_ann N (T_impl_areValues_sg N) Try.f91 (l1, n2, ()) some =
 (T_impl_areValues N l1 n2 : Option (ODen (T_impl_areValues_sg N).ps × RDen (T_impl_areValues_sg N).rs)) := by
  have h : den (R := ODen (T_impl_areValues_sg N).ps × RDen (T_impl_areValues_sg N).rs) tab (T_impl_areValues_ctx N) T_impl_areValues_ann N (T_impl_areValues_sg N) Try.f91 (l1, n2, ()) some =
 (T_impl_areValues_lp0_m N N (T_impl_areValues_lp0_sh l1 n2 (0 : Int)) (ctxK (R := ODen (T_impl_areValues_sg N).ps × RDen (T_impl_areValues_sg N).rs) tab (T_impl_areValues_ctx N) T_impl_areValues_ann N (theCode Try.f91) [1, 0, 1, 0] (retK tab (T_impl_areValues_sg N) Try.f91.results.toList some))) := by kernel_rfl
  rw [h]
  (try simp only [T_impl_areValues_lp0_eq, T_impl_areValues_c1, T_impl_areValues_c2]) <;> rfl

theorem T_impl_areValues_ok (N : Nat) : chkBody Try.f91 (T_impl_areValues_sg N).ps = true := by kernel_rfl

theorem T_impl_areValues_callable : Callable Try.prog 91 := callable_of Try.func91 (show chkFn Try.f91 = true by kernel_rfl)

theorem T_impl_areValues_good (N : Nat) : Good Try.prog 91 (T_impl_areValues_sg N) :=
  good_body mixedOk tabOk (ctx_cons (T_impl_isValue_good N) T_impl_isValue_callable ctx_nil) Try.func91 (T_impl_areValues_ok N) (fun d _ h => ⟨N, (T_impl_areValues_den N d.1 d.2.1).trans h⟩)

noncomputable def T_impl_copyInts_sg (N : Nat) : Sig := Sig.of [.v (.slice (.int .i64)) false] [.v (.own (.int .i64)) false] (fun d => T_impl_copyInts N d.1)

def T_impl_copyInts_ann : Nat → List Ghost
  | _ => []

noncomputable def T_impl_copyInts_ctx (N : Nat) : Ctx := []

theorem T_impl_copyInts_den (N : Nat) (l1 : List Int) :
    den (R := ODen (T_impl_copyInts_sg N).ps × RDen (T_impl_copyInts_sg N).rs) tab (T_impl_copyInts_ctx N) T_impl_copyInts_ann N (T_impl_copyInts_sg N) Try.f62 (l1, ()) some =
    (T_impl_copyInts N l1 : Option (ODen (T_impl_copyInts_sg N).ps × RDen (T_impl_copyInts_sg N).rs)) := by kernel_rfl

theorem T_impl_copyInts_ok (N : Nat) : chkBody Try.f62 (T_impl_copyInts_sg N).ps = true := by kernel_rfl

theorem T_impl_copyInts_callable : Callable Try.prog 62 := callable_of Try.func62 (show chkFn Try.f62 = true by kernel_rfl)

theorem T_impl_copyInts_good (N : Nat) : Good Try.prog 62 (T_impl_copyInts_sg N) :=
  good_body mixedOk tabOk ctx_nil Try.func62 (T_impl_copyInts_ok N) (fun d _ h => ⟨N, (T_impl_copyInts_den N d.1).trans h⟩)

noncomputable def T_impl_kidOf_sg (N : Nat) : Sig := Sig.of [.v (.slice (.prod (.int .i64) (.prod (.int .i64) (.prod (.int .i64) (.int .i64))))) false, .v (.slice (.int .i64)) false, .v (.slice (.int .i64)) false] [.box (.prod (.own (.int .i64)) (.prod (.own (.int .i64)) (.prod (.own (.prod (.int .i64) (.int .i64))) (.prod (.int .i64) (.prod (.own (.prod (.int .i64) (.prod (.int .i64) (.own (.int .i64))))) (.own (.int .i64))))))), .v (.bool) false] (fun d => T_impl_kidOf N d.1 d.2.1 d.2.2.1)

def T_impl_kidOf_ann : Nat → List Ghost
  | _ => []

noncomputable def T_impl_kidOf_ctx (N : Nat) : Ctx := [(149, T_impl_KidOk_sg N), (91, T_impl_areValues_sg N), (62, T_impl_copyInts_sg N)]

theorem T_impl_kidOf_den (N : Nat) (code1 : List (Int × Int × Int × Int)) (regs2 : List Int) (cells3 : List Int) :
    den (R := ODen (T_impl_kidOf_sg N).ps × RDen (T_impl_kidOf_sg N).rs) tab (T_impl_kidOf_ctx N) T_impl_kidOf_ann N (T_impl_kidOf_sg N) Try.f103 (code1, regs2, cells3, ()) some =
    (T_impl_kidOf N code1 regs2 cells3 : Option (ODen (T_impl_kidOf_sg N).ps × RDen (T_impl_kidOf_sg N).rs)) := by kernel_rfl

theorem T_impl_kidOf_ok (N : Nat) : chkBody Try.f103 (T_impl_kidOf_sg N).ps = true := by kernel_rfl

theorem T_impl_kidOf_callable : Callable Try.prog 103 := callable_of Try.func103 (show chkFn Try.f103 = true by kernel_rfl)

theorem T_impl_kidOf_good (N : Nat) : Good Try.prog 103 (T_impl_kidOf_sg N) :=
  good_body mixedOk tabOk (ctx_cons (T_impl_KidOk_good N) T_impl_KidOk_callable (ctx_cons (T_impl_areValues_good N) T_impl_areValues_callable (ctx_cons (T_impl_copyInts_good N) T_impl_copyInts_callable ctx_nil))) Try.func103 (T_impl_kidOf_ok N) (fun d _ h => ⟨N, (T_impl_kidOf_den N d.1 d.2.1 d.2.2.1).trans h⟩)

noncomputable def T_impl_eager_run_1_sg (N : Nat) : Sig := Sig.of [.v (.prod (.int .i64) (.int .i64)) true, .box (.prod (.int .i64) (.prod (.int .i64) (.prod (.int .i64) (.int .i64))))] [.v (.bool) false] (fun d => T_impl_eager_run_1 N d.1 d.2.1)

def T_impl_eager_run_1_ann : Nat → List Ghost
  | _ => []

noncomputable def T_impl_eager_run_1_ctx (N : Nat) : Ctx := []

theorem T_impl_eager_run_1_den (N : Nat) (r1 : Int × Int) (a2 : Int × Int × Int × Int) :
    den (R := ODen (T_impl_eager_run_1_sg N).ps × RDen (T_impl_eager_run_1_sg N).rs) tab (T_impl_eager_run_1_ctx N) T_impl_eager_run_1_ann N (T_impl_eager_run_1_sg N) Try.f151 (r1, a2, ()) some =
    (T_impl_eager_run_1 N r1 a2 : Option (ODen (T_impl_eager_run_1_sg N).ps × RDen (T_impl_eager_run_1_sg N).rs)) := by kernel_rfl

theorem T_impl_eager_run_1_ok (N : Nat) : chkBody Try.f151 (T_impl_eager_run_1_sg N).ps = true := by kernel_rfl

theorem T_impl_eager_run_1_callable : Callable Try.prog 151 := callable_of Try.func151 (show chkFn Try.f151 = true by kernel_rfl)

theorem T_impl_eager_run_1_good (N : Nat) : Good Try.prog 151 (T_impl_eager_run_1_sg N) :=
  good_body mixedOk tabOk ctx_nil Try.func151 (T_impl_eager_run_1_ok N) (fun d _ h => ⟨N, (T_impl_eager_run_1_den N d.1 d.2.1).trans h⟩)

noncomputable def T_slices_IndexFunc___impl_Row_impl_Row___impl_eager_run_1_sg (N : Nat) : Sig := Sig.of [.v (.slice (.prod (.int .i64) (.int .i64))) false, .clos 151 1, .box (.prod (.int .i64) (.prod (.int .i64) (.prod (.int .i64) (.int .i64))))] [.v (.int .i64) false] (fun d => T_slices_IndexFunc___impl_Row_impl_Row___impl_eager_run_1 N d.1 d.2.1)

def T_slices_IndexFunc___impl_Row_impl_Row___impl_eager_run_1_ann : Nat → List Ghost
  | 2 => [.canon [0, 1, 7, 8, 9]]
  | 3 => [.canon [0, 1, 5, 7, 8]]
  | 4 => [.canon [0, 1, 5, 7, 8, 16]]
  | 5 => [.canon [1, 4]]
  | 6 => [.canon [0, 1, 7, 8]]
  | 100002 => [.canon [0, 1, 7, 8]]
  | _ => []

noncomputable def T_slices_IndexFunc___impl_Row_impl_Row___impl_eager_run_1_ctx (N : Nat) : Ctx := [(151, T_impl_eager_run_1_sg N)]

def T_slices_IndexFunc___impl_Row_impl_Row___impl_eager_run_1_lp0_sh (s3 : List (Int × Int)) (t5 : Int) (b6 : Int × Int × Int × Int) : St := { env := [(0, .s (.one (.val (.slice (.prod (.int .i64) (.int .i64))) (s3 : List (Int × Int))))), (1, .s (.one (.clos 151 [0]))), (7, .s (.one (.val (.int .i64) (ilen s3 : Int)))), (8, .s (.one (.val (.int .i64) (t5 : Int))))], objs := [(0, .box [.val (.int .i64) (b6.1 : Int), .val (.int .i64) (b6.2.1 : Int), .val (.int .i64) (b6.2.2.1 : Int), .val (.int .i64) (b6.2.2.2 : Int)])], nx := 1 }

def T_slices_IndexFunc___impl_Row_impl_Row___impl_eager_run_1_lp0_e0 (s3 : List (Int × Int)) (t9 : Int) (b10 : Int × Int × Int × Int) : St := { env := [(1, .s (.one (.clos 151 [0]))), (4, .s (.one (.val (.int .i64) (t9 : Int))))], objs := [(0, .box [.val (.int .i64) (b10.1 : Int), .val (.int .i64) (b10.2.1 : Int), .val (.int .i64) (b10.2.2.1 : Int), .val (.int .i64) (b10.2.2.2 : Int)])], nx := 1 }

def T_slices_IndexFunc___impl_Row_impl_Row___impl_eager_run_1_lp0_e1 (s3 : List (Int × Int)) (t11 : Int) (t12 : Bool) (b13 : Int × Int × Int × Int) : St := { env := [(0, .s (.one (.val (.slice (.prod (.int .i64) (.int .i64))) (s3 : List (Int × Int))))), (1, .s (.one (.clos 151 [0]))), (7, .s (.one (.val (.int .i64) (ilen s3 : Int)))), (8, .s (.one (.val (.int .i64) (t11 : Int)))), (9, .s (.one (.val (.bool) (t12 : Bool))))], objs := [(0, .box [.val (.int .i64) (b13.1 : Int), .val (.int .i64) (b13.2.1 : Int), .val (.int .i64) (b13.2.2.1 : Int), .val (.int .i64) (b13.2.2.2 : Int)])], nx := 1 }

noncomputable def T_slices_IndexFunc___impl_Row_impl_Row___impl_eager_run_1_lp0_m (N : Nat) {R : Type} (n : Nat) (st : St) (K : Ex → St → Option R) : Option R := loopN (roundG (T_slices_IndexFunc___impl_Row_impl_Row___impl_eager_run_1_ann 100002) fun st k => sx tab (T_slices_IndexFunc___impl_Row_impl_Row___impl_eager_run_1_ctx N) T_slices_IndexFunc___impl_Row_impl_Row___impl_eager_run_1_ann N (nthLoop Try.f175 0) st k) n st K

theorem T_slices_IndexFunc___impl_Row_impl_Row___impl_eager_run_1_lp0_step (N : Nat) {R : Type} (n : Nat) (K : Ex → St → Option R) (s3 : List (Int × Int)) (t5 : Int) (b6 : Int × Int × Int × Int) :
    T_slices_IndexFunc___impl_Row_impl_Row___impl_eager_run_1_lp0_m N (n + 1) (T_slices_IndexFunc___impl_Row_impl_Row___impl_eager_run_1_lp0_sh s3 t5 b6) K =
    (bif decide (t5 < (ilen s3)) then
 (bif inb t5 (List.length s3) then
 ((T_impl_eager_run_1 N (List.getD s3 (Int.toNat t5) ((0 : Int), (0 : Int))) b6).bind fun o14 =>
 (bif o14.2.1 then
 (K .ret (T_slices_IndexFunc___impl_Row_impl_Row___impl_eager_run_1_lp0_e0 s3 t5 o14.1.1))
 else
 (T_slices_IndexFunc___impl_Row_impl_Row___impl_eager_run_1_lp0_m N n (T_slices_IndexFunc___impl_Row_impl_Row___impl_eager_run_1_lp0_sh s3 (iadd .i64 t5 (1 : Int)) o14.1.1) K))) else none)
 else
 (K (.exit 0) (T_slices_IndexFunc___impl_Row_impl_Row___impl_eager_run_1_lp0_e1 s3 t5 (decide (t5 < (ilen s3))) b6))) := by kernel_rfl

theorem T_slices_IndexFunc___impl_Row_impl_Row___impl_eager_run_1_lp0_eq (N : Nat) {R : Type} (s3 : List (Int × Int)) (K : Ex → St → Option R) : ∀ (n : Nat) (t5 : Int) (b6 : Int × Int × Int × Int), T_slices_IndexFunc___impl_Row_impl_Row___impl_eager_run_1_lp0_m N n (T_slices_IndexFunc___impl_Row_impl_Row___impl_eager_run_1_lp0_sh s3 t5 b6) K = T_slices_IndexFunc___impl_Row_impl_Row___impl_eager_run_1_lp0 N s3 (fun t9 b10 => (K .ret (T_slices_IndexFunc___impl_Row_impl_Row___impl_eager_run_1_lp0_e0 s3 t9 b10))) (fun t11 t12 b13 => (K (.exit 0) (T_slices_IndexFunc___impl_Row_impl_Row___impl_eager_run_1_lp0_e1 s3 t11 t12 b13))) n t5 b6
  | 0, _, _ => rfl
  | n + 1, t5, b6 => by rw [T_slices_IndexFunc___impl_Row_impl_Row___impl_eager_run_1_lp0_step, T_slices_IndexFunc___impl_Row_impl_Row___impl_eager_run_1_lp0]; (try simp only [T_slices_IndexFunc___impl_Row_impl_Row___impl_eager_run_1_lp0_eq N s3 K n])

theorem T_slices_IndexFunc___impl_Row_impl_Row___impl_eager_run_1_c1 (N : Nat) (s1 : List (Int × Int)) (t15 : Int) (b16 : Int × Int × Int × Int) :
    ((ctxK (R := ODen (T_slices_IndexFunc___impl_Row_impl_Row___impl_eager_run_1_sg N).ps × RDen (T_slices_IndexFunc___impl_Row_impl_Row___impl_eager_run_1_sg N).rs) tab (T_slices_IndexFunc___impl_Row_impl_Row___impl_eager_run_1_ctx N) T_slices_IndexFunc___impl_Row_impl_Row___impl_eager_run_1_ann N (theCode Try.f175) [1, 0, 1, 0] (retK tab (T_slices_IndexFunc___impl_Row_impl_Row___impl_eager_run_1_sg N) Try.f175.results.toList some)) .ret (T_slices_IndexFunc___impl_Row_impl_Row___impl_eager_run_1_lp0_e0 s1 t15 b16)) =
    (some (α := ODen (T_slices_IndexFunc___impl_Row_impl_Row___impl_eager_run_1_sg N).ps × RDen (T_slices_IndexFunc___impl_Row_impl_Row___impl_eager_run_1_sg N).rs) ((b16, ()), (t15, ()))) := by kernel_rfl

theorem T_slices_IndexFunc___impl_Row_impl_Row___impl_eager_run_1_c2 (N : Nat) (s1 : List (Int × Int)) (t17 : Int) (t18 : Bool) (b19 : Int × Int × Int × Int) :
    ((ctxK (R := ODen (T_slices_IndexFunc___impl_Row_impl_Row___impl_eager_run_1_sg N).ps × RDen (T_slices_IndexFunc___impl_Row_impl_Row___impl_eager_run_1_sg N).rs) tab (T_slices_IndexFunc___impl_Row_impl_Row___impl_eager_run_1_ctx N) T_slices_IndexFunc___impl_Row_impl_Row___impl_eager_run_1_ann N (theCode Try.f175) [1, 0, 1, 0] (retK tab (T_slices_IndexFunc___impl_Row_impl_Row___impl_eager_run_1_sg N) Try.f175.results.toList some)) (.exit 0) (T_slices_IndexFunc___impl_Row_impl_Row___impl_eager_run_1_lp0_e1 s1 t17 t18 b19)) =
    (some (α := ODen (T_slices_IndexFunc___impl_Row_impl_Row___impl_eager_run_1_sg N).ps × RDen (T_slices_IndexFunc___impl_Row_impl_Row___impl_eager_run_1_sg N).rs) ((b19, ()), ((-1 : Int), ()))) := by kernel_rfl

theorem T_slices_IndexFunc___impl_Row_impl_Row___impl_eager_run_1_den (N : Nat) (s1 : List (Int × Int)) (cap2 : Int × Int × Int × Int) :
 den (R := ODen (T_slices_IndexFunc___impl_Row_impl_Row___impl_eager_run_1_sg N).ps × RDen (T_slices_IndexFunc___impl_Row_impl_Row___impl_eager_run_1_sg N).rs) tab (T_slices_IndexFunc___impl_Row_impl_Row___impl_eager_run_1_ctx N) T_slices_IndexFunc___impl_Row_impl_Row___impl_eager_run_1_ann N (T_slices_IndexFunc___impl_Row_impl_Row___impl_eager_run_1_sg N) Try.f175 (s1, cap2, ()) some =
 (T_slices_IndexFunc___impl_Row_impl_Row___impl_eager_run_1 N s1 cap2 : Option (ODen (T_slices_IndexFunc___impl_Row_impl_Row___impl_eager_run_1_sg N).ps × RDen (T_slices_IndexFunc___impl_Row_impl_Row___impl_eager_run_1_sg N).rs)) := by
  have h : den (R := ODen (T_slices_IndexFunc___impl_Row_impl_Row___impl_eager_run_1_sg N).ps × RDen (T_slices_IndexFunc___impl_Row_impl_Row___impl_eager_run_1_sg N).rs) tab (T_slices_IndexFunc___impl_Row_impl_Row___impl_eager_run_1_ctx N) T_slices_IndexFunc___impl_Row_impl_Row___impl_eager_run_1_ann N (T_slices_IndexFunc___impl_Row_impl_Row___impl_eager_run_1_sg N) Try.f175 (s1, cap2, ()) some =
 (T_slices_IndexFunc___impl_Row_impl_Row___impl_eager_run_1_lp0_m N N (T_slices_IndexFunc___impl_Row_impl_Row___impl_eager_run_1_lp0_sh s1 (0 : Int) cap2) (ctxK (R := ODen (T_slices_IndexFunc___impl_Row_impl_Row___impl_eager_run_1_sg N).ps × RDen (T_slices_IndexFunc___impl_Row_impl_Row___impl_eager_run_1_sg N).rs) tab (T_slices_IndexFunc___impl_Row_impl_Row___impl_eager_run_1_ctx N) T_slices_IndexFunc___impl_Row_impl_Row___impl_eager_run_1_ann N (theCode Try.f175) [1, 0, 1, 0] (retK tab (T_slices_IndexFunc___impl_Row_impl_Row___impl_eager_run_1_sg N) Try.f175.results.toList some))) := by kernel_rfl
  rw [h]
  (try simp only [T_slices_IndexFunc___impl_Row_impl_Row___impl_eager_run_1_lp0_eq, T_slices_IndexFunc___impl_Row_impl_Row___impl_eager_run_1_c1, T_slices_IndexFunc___impl_Row_impl_Row___impl_eager_run_1_c2]) <;> rfl

theorem T_slices_IndexFunc___impl_Row_impl_Row___impl_eager_run_1_ok (N : Nat) : chkBody Try.f175 (T_slices_IndexFunc___impl_Row_impl_Row___impl_eager_run_1_sg N).ps = true := by kernel_rfl

theorem T_slices_IndexFunc___impl_Row_impl_Row___impl_eager_run_1_callable : Callable Try.prog 175 := callable_of Try.func175 (show chkFn Try.f175 = true by kernel_rfl)

theorem T_slices_IndexFunc___impl_Row_impl_Row___impl_eager_run_1_good (N : Nat) : Good Try.prog 175 (T_slices_IndexFunc___impl_Row_impl_Row___impl_eager_run_1_sg N) :=
  good_body mixedOk tabOk (ctx_cons (T_impl_eager_run_1_good N) T_impl_eager_run_1_callable ctx_nil) Try.func175 (T_slices_IndexFunc___impl_Row_impl_Row___impl_eager_run_1_ok N) (fun d _ h => ⟨N, (T_slices_IndexFunc___impl_Row_impl_Row___impl_eager_run_1_den N d.1 d.2.1).trans h⟩)

noncomputable def T_slices_ContainsFunc___impl_Row_impl_Row___impl_eager_run_1_sg (N : Nat) : Sig := Sig.of [.v (.slice (.prod (.int .i64) (.int .i64))) false, .clos 151 1, .box (.prod (.int .i64) (.prod (.int .i64) (.prod (.int .i64) (.int .i64))))] [.v (.bool) false] (fun d => T_slices_ContainsFunc___impl_Row_impl_Row___impl_eager_run_1 N d.1 d.2.1)

def T_slices_ContainsFunc___impl_Row_impl_Row___impl_eager_run_1_ann : Nat → List Ghost
  | _ => []

noncomputable def T_slices_ContainsFunc___impl_Row_impl_Row___impl_eager_run_1_ctx (N : Nat) : Ctx := [(175, T_slices_IndexFunc___impl_Row_impl_Row___impl_eager_run_1_sg N)]

theorem T_slices_ContainsFunc___impl_Row_impl_Row___impl_eager_run_1_den (N : Nat) (s1 : List (Int × Int)) (cap2 : Int × Int × Int × Int) :
    den (R := ODen (T_slices_ContainsFunc___impl_Row_impl_Row___impl_eager_run_1_sg N).ps × RDen (T_slices_ContainsFunc___impl_Row_impl_Row___impl_eager_run_1_sg N).rs) tab (T_slices_ContainsFunc___impl_Row_impl_Row___impl_eager_run_1_ctx N) T_slices_ContainsFunc___impl_Row_impl_Row___impl_eager_run_1_ann N (T_slices_ContainsFunc___impl_Row_impl_Row___impl_eager_run_1_sg N) Try.f150 (s1, cap2, ()) some =
    (T_slices_ContainsFunc___impl_Row_impl_Row___impl_eager_run_1 N s1 cap2 : Option (ODen (T_slices_ContainsFunc___impl_Row_impl_Row___impl_eager_run_1_sg N).ps × RDen (T_slices_ContainsFunc___impl_Row_impl_Row___impl_eager_run_1_sg N).rs)) := by kernel_rfl

theorem T_slices_ContainsFunc___impl_Row_impl_Row___impl_eager_run_1_ok (N : Nat) : chkBody Try.f150 (T_slices_ContainsFunc___impl_Row_impl_Row___impl_eager_run_1_sg N).ps = true := by kernel_rfl

theorem T_slices_ContainsFunc___impl_Row_impl_Row___impl_eager_run_1_callable : Callable Try.prog 150 := callable_of Try.func150 (show chkFn Try.f150 = true by kernel_rfl)

theorem T_slices_ContainsFunc___impl_Row_impl_Row___impl_eager_run_1_good (N : Nat) : Good Try.prog 150 (T_slices_ContainsFunc___impl_Row_impl_Row___impl_eager_run_1_sg N) :=
  good_body mixedOk tabOk (ctx_cons (T_slices_IndexFunc___impl_Row_impl_Row___impl_eager_run_1_good N) T_slices_IndexFunc___impl_Row_impl_Row___impl_eager_run_1_callable ctx_nil) Try.func150 (T_slices_ContainsFunc___impl_Row_impl_Row___impl_eager_run_1_ok N) (fun d _ h => ⟨N, (T_slices_ContainsFunc___impl_Row_impl_Row___impl_eager_run_1_den N d.1 d.2.1).trans h⟩)

noncomputable def T_impl_RowsOk_sg (N : Nat) : Sig := Sig.of [.v (.slice (.prod (.int .i64) (.int .i64))) false] [.v (.bool) false] (fun d => T_impl_RowsOk N d.1)

def T_impl_RowsOk_ann : Nat → List Ghost
  | 2 => [.canon [0, 5, 6, 7, 8]]
  | 3 => [.canon [0, 4, 5, 6, 7]]
  | 4 => [.canon [0, 5, 6, 7, 20]]
  | 5 => [.canon [2]]
  | 6 => [.canon [0, 5, 6, 7]]
  | 100002 => [.canon [0, 5, 6, 7]]
  | _ => []

noncomputable def T_impl_RowsOk_ctx (N : Nat) : Ctx := [(161, T_impl_isCell_sg N), (143, T_impl_isValue_sg N)]

def T_impl_RowsOk_lp0_sh (l2 : List (Int × Int)) (t5 : Int) : St := { env := [(0, .s (.one (.val (.slice (.prod (.int .i64) (.int .i64))) (l2 : List (Int × Int))))), (5, .s (.one (.val (.slice (.prod (.int .i64) (.int .i64))) (l2 : List (Int × Int))))), (6, .s (.one (.val (.int .i64) (ilen l2 : Int)))), (7, .s (.one (.val (.int .i64) (t5 : Int))))], objs := [], nx := 0 }

def T_impl_RowsOk_lp0_e0 (l2 : List (Int × Int)) : St := { env := [(2, .s (.one (.val (.bool) (false : Bool))))], objs := [], nx := 0 }

def T_impl_RowsOk_lp0_e1 (l2 : List (Int × Int)) (t10 : Int) (t11 : Bool) : St := { env := [(0, .s (.one (.val (.slice (.prod (.int .i64) (.int .i64))) (l2 : List (Int × Int))))), (5, .s (.one (.val (.slice (.prod (.int .i64) (.int .i64))) (l2 : List (Int × Int))))), (6, .s (.one (.val (.int .i64) (ilen l2 : Int)))), (7, .s (.one (.val (.int .i64) (t10 : Int)))), (8, .s (.one (.val (.bool) (t11 : Bool))))], objs := [], nx := 0 }

noncomputable def T_impl_RowsOk_lp0_m (N : Nat) {R : Type} (n : Nat) (st : St) (K : Ex → St → Option R) : Option R := loopN (roundG (T_impl_RowsOk_ann 100002) fun st k => sx tab (T_impl_RowsOk_ctx N) T_impl_RowsOk_ann N (nthLoop Try.f113 0) st k) n st K

theorem T_impl_RowsOk_lp0_step (N : Nat) {R : Type} (n : Nat) (K : Ex → St → Option R) (l2 : List (Int × Int)) (t5 : Int) :
    T_impl_RowsOk_lp0_m N (n + 1) (T_impl_RowsOk_lp0_sh l2 t5) K =
    (bif decide (t5 < (ilen l2)) then
 (bif inb t5 (List.length l2) then
 ((T_impl_isCell N (List.getD l2 (Int.toNat t5) ((0 : Int), (0 : Int))).1).bind fun o12 =>
 (bif !o12.2.1 then
 (K .ret (T_impl_RowsOk_lp0_e0 l2))
 else
 ((T_impl_isValue N (List.getD l2 (Int.toNat t5) ((0 : Int), (0 : Int))).2).bind fun o13 =>
 (bif !o13.2.1 then
 (K .ret (T_impl_RowsOk_lp0_e0 l2))
 else
 (T_impl_RowsOk_lp0_m N n (T_impl_RowsOk_lp0_sh l2 (iadd .i64 t5 (1 : Int))) K))))) else none)
 else
 (K (.exit 0) (T_impl_RowsOk_lp0_e1 l2 t5 (decide (t5 < (ilen l2)))))) := by kernel_rfl

theorem T_impl_RowsOk_lp0_eq (N : Nat) {R : Type} (l2 : List (Int × Int)) (K : Ex → St → Option R) : ∀ (n : Nat) (t5 : Int), T_impl_RowsOk_lp0_m N n (T_impl_RowsOk_lp0_sh l2 t5) K = T_impl_RowsOk_lp0 N l2 (K .ret (T_impl_RowsOk_lp0_e0 l2)) (fun t10 t11 => (K (.exit 0) (T_impl_RowsOk_lp0_e1 l2 t10 t11))) n t5
  | 0, _ => rfl
  | n + 1, t5 => by rw [T_impl_RowsOk_lp0_step, T_impl_RowsOk_lp0]; (try simp only [T_impl_RowsOk_lp0_eq N l2 K n])

theorem T_impl_RowsOk_c1 (N : Nat) (l1 : List (Int × Int)) :
    ((ctxK (R := ODen (T_impl_RowsOk_sg N).ps × RDen (T_impl_RowsOk_sg N).rs) tab (T_impl_RowsOk_ctx N) T_impl_RowsOk_ann N (theCode Try.f113) [1, 0, 1, 0] (retK tab (T_impl_RowsOk_sg N) Try.f113.results.toList some)) .ret (T_impl_RowsOk_lp0_e0 l1)) =
    (some (α := ODen (T_impl_RowsOk_sg N).ps × RDen (T_impl_RowsOk_sg N).rs) ((), (false, ()))) := by kernel_rfl

theorem T_impl_RowsOk_c2 (N : Nat) (l1 : List (Int × Int)) (t14 : Int) (t15 : Bool) :
    ((ctxK (R := ODen (T_impl_RowsOk_sg N).ps × RDen (T_impl_RowsOk_sg N).rs) tab (T_impl_RowsOk_ctx N) T_impl_RowsOk_ann N (theCode Try.f113) [1, 0, 1, 0] (retK tab (T_impl_RowsOk_sg N) Try.f113.results.toList some)) (.exit 0) (T_impl_RowsOk_lp0_e1 l1 t14 t15)) =
    (some (α := ODen (T_impl_RowsOk_sg N).ps × RDen (T_impl_RowsOk_sg N).rs) ((), (decide ((ilen l1) ≤ (300 : Int)), ()))) := by kernel_rfl

theorem T_impl_RowsOk_den (N : Nat) (l1 : List (Int × Int)) :
 den (R := ODen (T_impl_RowsOk_sg N).ps × RDen (T_impl_RowsOk_sg N).rs) tab (T_impl_RowsOk_ctx N) T_impl_RowsOk_ann N (T_impl_RowsOk_sg N) Try.f113 (l1, ()) some =
 (T_impl_RowsOk N l1 : Option (ODen (T_impl_RowsOk_sg N).ps × RDen (T_impl_RowsOk_sg N).rs)) := by
  have h : den (R := ODen (T_impl_RowsOk_sg N).ps × RDen (T_impl_RowsOk_sg N).rs) tab (T_impl_RowsOk_ctx N) T_impl_RowsOk_ann N (T_impl_RowsOk_sg N) Try.f113 (l1, ()) some =
 (T_impl_RowsOk_lp0_m N N (T_impl_RowsOk_lp0_sh l1 (0 : Int)) (ctxK (R := ODen (T_impl_RowsOk_sg N).ps × RDen (T_impl_RowsOk_sg N).rs) tab (T_impl_RowsOk_ctx N) T_impl_RowsOk_ann N (theCode Try.f113) [1, 0, 1, 0] (retK tab (T_impl_RowsOk_sg N) Try.f113.results.toList some))) := by kernel_rfl
  rw [h]
  (try simp only [T_impl_RowsOk_lp0_eq, T_impl_RowsOk_c1, T_impl_RowsOk_c2]) <;> rfl

theorem T_impl_RowsOk_ok (N : Nat) : chkBody Try.f113 (T_impl_RowsOk_sg N).ps = true := by kernel_rfl

theorem T_impl_RowsOk_callable : Callable Try.prog 113 := callable_of Try.func113 (show chkFn Try.f113 = true by kernel_rfl)

theorem T_impl_RowsOk_good (N : Nat) : Good Try.prog 113 (T_impl_RowsOk_sg N) :=
  good_body mixedOk tabOk (ctx_cons (T_impl_isCell_good N) T_impl_isCell_callable (ctx_cons (T_impl_isValue_good N) T_impl_isValue_callable ctx_nil)) Try.func113 (T_impl_RowsOk_ok N) (fun d _ h => ⟨N, (T_impl_RowsOk_den N d.1).trans h⟩)

noncomputable def T_impl_copyRows_sg (N : Nat) : Sig := Sig.of [.v (.slice (.prod (.int .i64) (.int .i64))) false] [.v (.own (.prod (.int .i64) (.int .i64))) false] (fun d => T_impl_copyRows N d.1)

def T_impl_copyRows_ann : Nat → List Ghost
  | _ => []

noncomputable def T_impl_copyRows_ctx (N : Nat) : Ctx := []

theorem T_impl_copyRows_den (N : Nat) (l1 : List (Int × Int)) :
    den (R := ODen (T_impl_copyRows_sg N).ps × RDen (T_impl_copyRows_sg N).rs) tab (T_impl_copyRows_ctx N) T_impl_copyRows_ann N (T_impl_copyRows_sg N) Try.f114 (l1, ()) some =
    (T_impl_copyRows N l1 : Option (ODen (T_impl_copyRows_sg N).ps × RDen (T_impl_copyRows_sg N).rs)) := by kernel_rfl

theorem T_impl_copyRows_ok (N : Nat) : chkBody Try.f114 (T_impl_copyRows_sg N).ps = true := by kernel_rfl

theorem T_impl_copyRows_callable : Callable Try.prog 114 := callable_of Try.func114 (show chkFn Try.f114 = true by kernel_rfl)

theorem T_impl_copyRows_good (N : Nat) : Good Try.prog 114 (T_impl_copyRows_sg N) :=
  good_body mixedOk tabOk ctx_nil Try.func114 (T_impl_copyRows_ok N) (fun d _ h => ⟨N, (T_impl_copyRows_den N d.1).trans h⟩)

noncomputable def T_impl_EagerCut_sg (N : Nat) : Sig := Sig.of [.v (.slice (.int .i64)) false, .v (.slice (.prod (.int .i64) (.int .i64))) false, .v (.int .i64) false] [.v (.own (.int .i64)) false, .v (.own (.prod (.int .i64) (.int .i64))) false] (fun d => T_impl_EagerCut N d.1 d.2.1 d.2.2.1)

def T_impl_EagerCut_ann : Nat → List Ghost
  | 5 => [.canon [1, 2, 8, 9, 29]]
  | 6 => [.canon [1, 2, 8, 9]]
  | 7 => [.canon [1, 2, 8, 9]]
  | 100005 => [.canon [1, 2, 8, 9]]
  | _ => []

noncomputable def T_impl_EagerCut_ctx (N : Nat) : Ctx := [(91, T_impl_areValues_sg N), (113, T_impl_RowsOk_sg N), (62, T_impl_copyInts_sg N), (114, T_impl_copyRows_sg N)]

def T_impl_EagerCut_lp0_sh (log7 : List (Int × Int)) (n8 : Int) (i9 : Int) (l10 : List Int) : St := { env := [(1, .s (.one (.val (.slice (.prod (.int .i64) (.int .i64))) (log7 : List (Int × Int))))), (2, .s (.one (.val (.int .i64) (n8 : Int)))), (8, .s (.one (.own 0))), (9, .s (.one (.val (.int .i64) (i9 : Int))))], objs := [(0, .arr (.int .i64) (l10 : List Int))], nx := 1 }

def T_impl_EagerCut_lp0_e0 (log7 : List (Int × Int)) (n8 : Int) (i11 : Int) (t12 : Bool) (l13 : List Int) : St := { env := [(1, .s (.one (.val (.slice (.prod (.int .i64) (.int .i64))) (log7 : List (Int × Int))))), (2, .s (.one (.val (.int .i64) (n8 : Int)))), (8, .s (.one (.own 0))), (9, .s (.one (.val (.int .i64) (i11 : Int)))), (29, .s (.one (.val (.bool) (t12 : Bool))))], objs := [(0, .arr (.int .i64) (l13 : List Int))], nx := 1 }

noncomputable def T_impl_EagerCut_lp0_m (N : Nat) {R : Type} (n : Nat) (st : St) (K : Ex → St → Option R) : Option R := loopN (roundG (T_impl_EagerCut_ann 100005) fun st k => sx tab (T_impl_EagerCut_ctx N) T_impl_EagerCut_ann N (nthLoop Try.f51 0) st k) n st K

theorem T_impl_EagerCut_lp0_step (N : Nat) {R : Type} (n : Nat) (K : Ex → St → Option R) (log7 : List (Int × Int)) (n8 : Int) (i9 : Int) (l10 : List Int) :
    T_impl_EagerCut_lp0_m N (n + 1) (T_impl_EagerCut_lp0_sh log7 n8 i9 l10) K =
    (bif decide (i9 ≥ n8) then
 (bif inb i9 (List.length log7) then
 (bif inb i9 (List.length log7) then
 (bif inb (List.getD log7 (Int.toNat i9) ((0 : Int), (0 : Int))).1 (List.length l10) then
 (T_impl_EagerCut_lp0_m N n (T_impl_EagerCut_lp0_sh log7 n8 (isub .i64 i9 (1 : Int)) (List.set l10 (Int.toNat (List.getD log7 (Int.toNat i9) ((0 : Int), (0 : Int))).1) (List.getD log7 (Int.toNat i9) ((0 : Int), (0 : Int))).2)) K) else none) else none) else none)
 else
 (K (.exit 0) (T_impl_EagerCut_lp0_e0 log7 n8 i9 (decide (i9 ≥ n8)) l10))) := by kernel_rfl

theorem T_impl_EagerCut_lp0_eq (N : Nat) {R : Type} (log7 : List (Int × Int)) (n8 : Int) (K : Ex → St → Option R) : ∀ (n : Nat) (i9 : Int) (l10 : List Int), T_impl_EagerCut_lp0_m N n (T_impl_EagerCut_lp0_sh log7 n8 i9 l10) K = T_impl_EagerCut_lp0 N log7 n8 (fun i11 t12 l13 => (K (.exit 0) (T_impl_EagerCut_lp0_e0 log7 n8 i11 t12 l13))) n i9 l10
  | 0, _, _ => rfl
  | n + 1, i9, l10 => by rw [T_impl_EagerCut_lp0_step, T_impl_EagerCut_lp0]; (try simp only [T_impl_EagerCut_lp0_eq N log7 n8 K n])

theorem T_impl_EagerCut_c1 (N : Nat) (log2 : List (Int × Int)) (n3 : Int) (i14 : Int) (t15 : Bool) (l16 : List Int) :
    ((ctxK (R := ODen (T_impl_EagerCut_sg N).ps × RDen (T_impl_EagerCut_sg N).rs) tab (T_impl_EagerCut_ctx N) T_impl_EagerCut_ann N (theCode Try.f51) [1, 1, 1, 0, 1, 0] (retK tab (T_impl_EagerCut_sg N) Try.f51.results.toList some)) (.exit 0) (T_impl_EagerCut_lp0_e0 log2 n3 i14 t15 l16)) =
    (bif (decide ((0 : Int) ≤ (minI n3 (ilen log2)))) && (decide ((minI n3 (ilen log2)) ≤ ((List.length log2) : Int))) then
 ((T_impl_copyRows N (List.take (Int.toNat (minI n3 (ilen log2))) log2)).bind fun o17 =>
 (some (α := ODen (T_impl_EagerCut_sg N).ps × RDen (T_impl_EagerCut_sg N).rs) ((), (l16, (o17.2.1, ()))))) else none) := by kernel_rfl

theorem T_impl_EagerCut_den (N : Nat) (cells1 : List Int) (log2 : List (Int × Int)) (n3 : Int) :
 den (R := ODen (T_impl_EagerCut_sg N).ps × RDen (T_impl_EagerCut_sg N).rs) tab (T_impl_EagerCut_ctx N) T_impl_EagerCut_ann N (T_impl_EagerCut_sg N) Try.f51 (cells1, log2, n3, ()) some =
 (T_impl_EagerCut N cells1 log2 n3 : Option (ODen (T_impl_EagerCut_sg N).ps × RDen (T_impl_EagerCut_sg N).rs)) := by
  have h : den (R := ODen (T_impl_EagerCut_sg N).ps × RDen (T_impl_EagerCut_sg N).rs) tab (T_impl_EagerCut_ctx N) T_impl_EagerCut_ann N (T_impl_EagerCut_sg N) Try.f51 (cells1, log2, n3, ()) some =
 ((T_impl_areValues N cells1 (8 : Int)).bind fun o4 =>
 (bif !o4.2.1 then
 (some (α := ODen (T_impl_EagerCut_sg N).ps × RDen (T_impl_EagerCut_sg N).rs) ((), (([] : List Int), (([] : List (Int × Int)), ()))))
 else
 ((T_impl_RowsOk N log2).bind fun o5 =>
 (bif !o5.2.1 then
 (some (α := ODen (T_impl_EagerCut_sg N).ps × RDen (T_impl_EagerCut_sg N).rs) ((), (([] : List Int), (([] : List (Int × Int)), ()))))
 else
 (bif decide (n3 < (0 : Int)) then
 (some (α := ODen (T_impl_EagerCut_sg N).ps × RDen (T_impl_EagerCut_sg N).rs) ((), (([] : List Int), (([] : List (Int × Int)), ()))))
 else
 ((T_impl_copyInts N cells1).bind fun o6 =>
 (T_impl_EagerCut_lp0_m N N (T_impl_EagerCut_lp0_sh log2 n3 (isub .i64 (ilen log2) (1 : Int)) o6.2.1) (ctxK (R := ODen (T_impl_EagerCut_sg N).ps × RDen (T_impl_EagerCut_sg N).rs) tab (T_impl_EagerCut_ctx N) T_impl_EagerCut_ann N (theCode Try.f51) [1, 1, 1, 0, 1, 0] (retK tab (T_impl_EagerCut_sg N) Try.f51.results.toList some))))))))) := by kernel_rfl
  rw [h]
  (try simp only [T_impl_EagerCut_lp0_eq, T_impl_EagerCut_c1]) <;> rfl

theorem T_impl_EagerCut_ok (N : Nat) : chkBody Try.f51 (T_impl_EagerCut_sg N).ps = true := by kernel_rfl

theorem T_impl_EagerCut_callable : Callable Try.prog 51 := callable_of Try.func51 (show chkFn Try.f51 = true by kernel_rfl)

theorem T_impl_EagerCut_good (N : Nat) : Good Try.prog 51 (T_impl_EagerCut_sg N) :=
  good_body mixedOk tabOk (ctx_cons (T_impl_areValues_good N) T_impl_areValues_callable (ctx_cons (T_impl_RowsOk_good N) T_impl_RowsOk_callable (ctx_cons (T_impl_copyInts_good N) T_impl_copyInts_callable (ctx_cons (T_impl_copyRows_good N) T_impl_copyRows_callable ctx_nil)))) Try.func51 (T_impl_EagerCut_ok N) (fun d _ h => ⟨N, (T_impl_EagerCut_den N d.1 d.2.1 d.2.2.1).trans h⟩)

noncomputable def T_impl_eager_cut_sg (N : Nat) : Sig := Sig.of [.box (.prod (.own (.int .i64)) (.prod (.own (.int .i64)) (.prod (.own (.prod (.int .i64) (.int .i64))) (.prod (.int .i64) (.prod (.own (.prod (.int .i64) (.prod (.int .i64) (.own (.int .i64))))) (.own (.int .i64))))))), .v (.int .i64) false] [] (fun d => T_impl_eager_cut N d.1 d.2.1)

def T_impl_eager_cut_ann : Nat → List Ghost
  | _ => []

noncomputable def T_impl_eager_cut_ctx (N : Nat) : Ctx := [(51, T_impl_EagerCut_sg N)]

theorem T_impl_eager_cut_den (N : Nat) (e1 : List Int × List Int × List (Int × Int) × Int × List (Int × Int × List Int) × List Int) (n2 : Int) :
    den (R := ODen (T_impl_eager_cut_sg N).ps × RDen (T_impl_eager_cut_sg N).rs) tab (T_impl_eager_cut_ctx N) T_impl_eager_cut_ann N (T_impl_eager_cut_sg N) Try.f176 (e1, n2, ()) some =
    (T_impl_eager_cut N e1 n2 : Option (ODen (T_impl_eager_cut_sg N).ps × RDen (T_impl_eager_cut_sg N).rs)) := by kernel_rfl

theorem T_impl_eager_cut_ok (N : Nat) : chkBody Try.f176 (T_impl_eager_cut_sg N).ps = true := by kernel_rfl

theorem T_impl_eager_cut_callable : Callable Try.prog 176 := callable_of Try.func176 (show chkFn Try.f176 = true by kernel_rfl)

theorem T_impl_eager_cut_good (N : Nat) : Good Try.prog 176 (T_impl_eager_cut_sg N) :=
  good_body mixedOk tabOk (ctx_cons (T_impl_EagerCut_good N) T_impl_EagerCut_callable ctx_nil) Try.func176 (T_impl_eager_cut_ok N) (fun d _ h => ⟨N, (T_impl_eager_cut_den N d.1 d.2.1).trans h⟩)

noncomputable def T_impl_eager_abort_sg (N : Nat) : Sig := Sig.of [.box (.prod (.own (.int .i64)) (.prod (.own (.int .i64)) (.prod (.own (.prod (.int .i64) (.int .i64))) (.prod (.int .i64) (.prod (.own (.prod (.int .i64) (.prod (.int .i64) (.own (.int .i64))))) (.own (.int .i64))))))), .v (.slice (.prod (.int .i64) (.prod (.int .i64) (.prod (.int .i64) (.int .i64))))) false] [.v (.int .i64) false] (fun d => T_impl_eager_abort N d.1 d.2.1)

def T_impl_eager_abort_ann : Nat → List Ghost
  | 5 => [.opn 22]
  | _ => []

noncomputable def T_impl_eager_abort_ctx (N : Nat) : Ctx := [(176, T_impl_eager_cut_sg N)]

theorem T_impl_eager_abort_den (N : Nat) (e1 : List Int × List Int × List (Int × Int) × Int × List (Int × Int × List Int) × List Int) (code2 : List (Int × Int × Int × Int)) :
    den (R := ODen (T_impl_eager_abort_sg N).ps × RDen (T_impl_eager_abort_sg N).rs) tab (T_impl_eager_abort_ctx N) T_impl_eager_abort_ann N (T_impl_eager_abort_sg N) Try.f152 (e1, code2, ()) some =
    (T_impl_eager_abort N e1 code2 : Option (ODen (T_impl_eager_abort_sg N).ps × RDen (T_impl_eager_abort_sg N).rs)) := by kernel_rfl

theorem T_impl_eager_abort_ok (N : Nat) : chkBody Try.f152 (T_impl_eager_abort_sg N).ps = true := by kernel_rfl

theorem T_impl_eager_abort_callable : Callable Try.prog 152 := callable_of Try.func152 (show chkFn Try.f152 = true by kernel_rfl)

theorem T_impl_eager_abort_good (N : Nat) : Good Try.prog 152 (T_impl_eager_abort_sg N) :=
  good_body mixedOk tabOk (ctx_cons (T_impl_eager_cut_good N) T_impl_eager_cut_callable ctx_nil) Try.func152 (T_impl_eager_abort_ok N) (fun d _ h => ⟨N, (T_impl_eager_abort_den N d.1 d.2.1).trans h⟩)

noncomputable def T_impl_EndOf_sg (N : Nat) : Sig := Sig.of [.v (.slice (.prod (.int .i64) (.prod (.int .i64) (.prod (.int .i64) (.int .i64))))) false, .v (.int .i64) false] [.v (.int .i64) false] (fun d => T_impl_EndOf N d.1 d.2.1)

def T_impl_EndOf_ann : Nat → List Ghost
  | 5 => [.canon [0, 5, 6, 25]]
  | 6 => [.canon [0, 5, 6]]
  | 7 => [.canon [0, 5, 6]]
  | 8 => [.canon [0, 5, 6, 36]]
  | 9 => [.canon [4]]
  | 100005 => [.canon [0, 5, 6]]
  | _ => []

noncomputable def T_impl_EndOf_ctx (N : Nat) : Ctx := [(61, T_impl_within_sg N), (177, T_impl_opens_sg N)]

def T_impl_EndOf_lp0_sh (code4 : List (Int × Int × Int × Int)) (n5 : Int) (k6 : Int) : St := { env := [(0, .s (.one (.val (.slice (.prod (.int .i64) (.prod (.int .i64) (.prod (.int .i64) (.int .i64))))) (code4 : List (Int × Int × Int × Int))))), (5, .s (.one (.val (.int .i64) (n5 : Int)))), (6, .s (.one (.val (.int .i64) (k6 : Int))))], objs := [], nx := 0 }

def T_impl_EndOf_lp0_e0 (code4 : List (Int × Int × Int × Int)) (t8 : Int) : St := { env := [(4, .s (.one (.val (.int .i64) (t8 : Int))))], objs := [], nx := 0 }

def T_impl_EndOf_lp0_e1 (code4 : List (Int × Int × Int × Int)) (n9 : Int) (k10 : Int) (t11 : Bool) : St := { env := [(0, .s (.one (.val (.slice (.prod (.int .i64) (.prod (.int .i64) (.prod (.int .i64) (.int .i64))))) (code4 : List (Int × Int × Int × Int))))), (5, .s (.one (.val (.int .i64) (n9 : Int)))), (6, .s (.one (.val (.int .i64) (k10 : Int)))), (25, .s (.one (.val (.bool) (t11 : Bool))))], objs := [], nx := 0 }

noncomputable def T_impl_EndOf_lp0_m (N : Nat) {R : Type} (n : Nat) (st : St) (K : Ex → St → Option R) : Option R := loopN (roundG (T_impl_EndOf_ann 100005) fun st k => sx tab (T_impl_EndOf_ctx N) T_impl_EndOf_ann N (nthLoop Try.f153 0) st k) n st K

theorem T_impl_EndOf_lp0_step (N : Nat) {R : Type} (n : Nat) (K : Ex → St → Option R) (code4 : List (Int × Int × Int × Int)) (n5 : Int) (k6 : Int) :
    T_impl_EndOf_lp0_m N (n + 1) (T_impl_EndOf_lp0_sh code4 n5 k6) K =
    (bif decide (k6 < (ilen code4)) then
 (bif inb k6 (List.length code4) then
 ((T_impl_opens N (List.getD code4 (Int.toNat k6) ((0 : Int), ((0 : Int), ((0 : Int), (0 : Int)))))).bind fun o12 =>
 (bif (iadd .i64 n5 o12.2.1) == (0 : Int) then
 (K .ret (T_impl_EndOf_lp0_e0 code4 k6))
 else
 (T_impl_EndOf_lp0_m N n (T_impl_EndOf_lp0_sh code4 (iadd .i64 n5 o12.2.1) (iadd .i64 k6 (1 : Int))) K))) else none)
 else
 (K (.exit 0) (T_impl_EndOf_lp0_e1 code4 n5 k6 (decide (k6 < (ilen code4)))))) := by kernel_rfl

theorem T_impl_EndOf_lp0_eq (N : Nat) {R : Type} (code4 : List (Int × Int × Int × Int)) (K : Ex → St → Option R) : ∀ (n : Nat) (n5 : Int) (k6 : Int), T_impl_EndOf_lp0_m N n (T_impl_EndOf_lp0_sh code4 n5 k6) K = T_impl_EndOf_lp0 N code4 (fun t8 => (K .ret (T_impl_EndOf_lp0_e0 code4 t8))) (fun n9 k10 t11 => (K (.exit 0) (T_impl_EndOf_lp0_e1 code4 n9 k10 t11))) n n5 k6
  | 0, _, _ => rfl
  | n + 1, n5, k6 => by rw [T_impl_EndOf_lp0_step, T_impl_EndOf_lp0]; (try simp only [T_impl_EndOf_lp0_eq N code4 K n])

theorem T_impl_EndOf_c1 (N : Nat) (code1 : List (Int × Int × Int × Int)) (t13 : Int) :
    ((ctxK (R := ODen (T_impl_EndOf_sg N).ps × RDen (T_impl_EndOf_sg N).rs) tab (T_impl_EndOf_ctx N) T_impl_EndOf_ann N (theCode Try.f153) [1, 1, 1, 0, 1, 0] (retK tab (T_impl_EndOf_sg N) Try.f153.results.toList some)) .ret (T_impl_EndOf_lp0_e0 code1 t13)) =
    (some (α := ODen (T_impl_EndOf_sg N).ps × RDen (T_impl_EndOf_sg N).rs) ((), (t13, ()))) := by kernel_rfl

theorem T_impl_EndOf_c2 (N : Nat) (code1 : List (Int × Int × Int × Int)) (n14 : Int) (k15 : Int) (t16 : Bool) :
    ((ctxK (R := ODen (T_impl_EndOf_sg N).ps × RDen (T_impl_EndOf_sg N).rs) tab (T_impl_EndOf_ctx N) T_impl_EndOf_ann N (theCode Try.f153) [1, 1, 1, 0, 1, 0] (retK tab (T_impl_EndOf_sg N) Try.f153.results.toList some)) (.exit 0) (T_impl_EndOf_lp0_e1 code1 n14 k15 t16)) =
    (some (α := ODen (T_impl_EndOf_sg N).ps × RDen (T_impl_EndOf_sg N).rs) ((), ((-1 : Int), ()))) := by kernel_rfl

theorem T_impl_EndOf_den (N : Nat) (code1 : List (Int × Int × Int × Int)) (i2 : Int) :
 den (R := ODen (T_impl_EndOf_sg N).ps × RDen (T_impl_EndOf_sg N).rs) tab (T_impl_EndOf_ctx N) T_impl_EndOf_ann N (T_impl_EndOf_sg N) Try.f153 (code1, i2, ()) some =
 (T_impl_EndOf N code1 i2 : Option (ODen (T_impl_EndOf_sg N).ps × RDen (T_impl_EndOf_sg N).rs)) := by
  have h : den (R := ODen (T_impl_EndOf_sg N).ps × RDen (T_impl_EndOf_sg N).rs) tab (T_impl_EndOf_ctx N) T_impl_EndOf_ann N (T_impl_EndOf_sg N) Try.f153 (code1, i2, ()) some =
 ((T_impl_within N i2 (0 : Int) (isub .i64 (ilen code1) (1 : Int))).bind fun o3 =>
 (bif !o3.2.1 then
 (some (α := ODen (T_impl_EndOf_sg N).ps × RDen (T_impl_EndOf_sg N).rs) ((), ((-1 : Int), ())))
 else
 (bif inb i2 (List.length code1) then
 (bif (List.getD code1 (Int.toNat i2) ((0 : Int), ((0 : Int), ((0 : Int), (0 : Int))))).1 != (8 : Int) then
 (some (α := ODen (T_impl_EndOf_sg N).ps × RDen (T_impl_EndOf_sg N).rs) ((), ((-1 : Int), ())))
 else
 (T_impl_EndOf_lp0_m N N (T_impl_EndOf_lp0_sh code1 (0 : Int) i2) (ctxK (R := ODen (T_impl_EndOf_sg N).ps × RDen (T_impl_EndOf_sg N).rs) tab (T_impl_EndOf_ctx N) T_impl_EndOf_ann N (theCode Try.f153) [1, 1, 1, 0, 1, 0] (retK tab (T_impl_EndOf_sg N) Try.f153.results.toList some)))) else none))) := by kernel_rfl
  rw [h]
  (try simp only [T_impl_EndOf_lp0_eq, T_impl_EndOf_c1, T_impl_EndOf_c2]) <;> rfl

theorem T_impl_EndOf_ok (N : Nat) : chkBody Try.f153 (T_impl_EndOf_sg N).ps = true := by kernel_rfl

theorem T_impl_EndOf_callable : Callable Try.prog 153 := callable_of Try.func153 (show chkFn Try.f153 = true by kernel_rfl)

theorem T_impl_EndOf_good (N : Nat) : Good Try.prog 153 (T_impl_EndOf_sg N) :=
  good_body mixedOk tabOk (ctx_cons (T_impl_within_good N) T_impl_within_callable (ctx_cons (T_impl_opens_good N) T_impl_opens_callable ctx_nil)) Try.func153 (T_impl_EndOf_ok N) (fun d _ h => ⟨N, (T_impl_EndOf_den N d.1 d.2.1).trans h⟩)

noncomputable def T_impl_Calc_sg (N : Nat) : Sig := Sig.of [.v (.prod (.int .i64) (.prod (.int .i64) (.prod (.int .i64) (.int .i64)))) true, .v (.slice (.int .i64)) false] [.v (.own (.int .i64)) false, .v (.bool) false] (fun d => T_impl_Calc N d.1 d.2.1)

def T_impl_Calc_ann : Nat → List Ghost
  | _ => []

noncomputable def T_impl_Calc_ctx (N : Nat) : Ctx := [(62, T_impl_copyInts_sg N), (178, T_impl_OpOk_sg N), (91, T_impl_areValues_sg N)]

theorem T_impl_Calc_den (N : Nat) (o1 : Int × Int × Int × Int) (regs2 : List Int) :
    den (R := ODen (T_impl_Calc_sg N).ps × RDen (T_impl_Calc_sg N).rs) tab (T_impl_Calc_ctx N) T_impl_Calc_ann N (T_impl_Calc_sg N) Try.f154 (o1, regs2, ()) some =
    (T_impl_Calc N o1 regs2 : Option (ODen (T_impl_Calc_sg N).ps × RDen (T_impl_Calc_sg N).rs)) := by kernel_rfl

theorem T_impl_Calc_ok (N : Nat) : chkBody Try.f154 (T_impl_Calc_sg N).ps = true := by kernel_rfl

theorem T_impl_Calc_callable : Callable Try.prog 154 := callable_of Try.func154 (show chkFn Try.f154 = true by kernel_rfl)

theorem T_impl_Calc_good (N : Nat) : Good Try.prog 154 (T_impl_Calc_sg N) :=
  good_body mixedOk tabOk (ctx_cons (T_impl_copyInts_good N) T_impl_copyInts_callable (ctx_cons (T_impl_OpOk_good N) T_impl_OpOk_callable (ctx_cons (T_impl_areValues_good N) T_impl_areValues_callable ctx_nil))) Try.func154 (T_impl_Calc_ok N) (fun d _ h => ⟨N, (T_impl_Calc_den N d.1 d.2.1).trans h⟩)

noncomputable def T_impl_eager_run_sg (N : Nat) : Sig := Sig.of [.box (.prod (.own (.int .i64)) (.prod (.own (.int .i64)) (.prod (.own (.prod (.int .i64) (.int .i64))) (.prod (.int .i64) (.prod (.own (.prod (.int .i64) (.prod (.int .i64) (.own (.int .i64))))) (.own (.int .i64))))))), .v (.slice (.prod (.int .i64) (.prod (.int .i64) (.prod (.int .i64) (.int .i64))))) false] [.v (.int .i64) false] (fun d => T_impl_eager_run N d.1 d.2.1)

def T_impl_eager_run_ann : Nat → List Ghost
  | 2 => [.canon [0, 1, 5, 12]]
  | 3 => [.canon [0, 1, 5]]
  | 4 => [.canon [0, 1, 5, 6]]
  | 5 => [.canon [0, 1, 5, 6, 20]]
  | 6 => [.canon [0, 1, 5]]
  | 7 => [.canon [0, 1, 5, 6, 20, 33]]
  | 8 => [.canon [0, 1, 5, 6, 41]]
  | 9 => [.canon [0, 1, 5, 6]]
  | 10 => [.canon [0, 1, 5]]
  | 11 => [.canon [0, 1, 5, 6, 20, 68]]
  | 12 => [.canon [0, 1, 5, 6]]
  | 13 => [.canon [0, 1, 5]]
  | 14 => [.canon [0, 1, 5, 6, 20, 105]]
  | 15 => [.canon [0, 1, 5, 6, 115]]
  | 16 => [.canon [0, 1, 5]]
  | 17 => [.canon [0, 1, 5, 6, 20, 120]]
  | 18 => [.nest 139 (.prod (.int .i64) (.prod (.int .i64) (.own (.int .i64)))), .canon [0, 1, 5]]
  | 19 => [.canon [0, 1, 5, 6, 20, 143]]
  | 20 => [.canon [0, 1, 5, 7]]
  | 21 => [.canon [0, 1, 5, 7]]
  | 22 => [.canon [0, 1, 5]]
  | 23 => [.canon [0, 1, 5, 6, 182]]
  | 24 => [.canon [0, 1, 8]]
  | 25 => [.canon [0, 1, 8, 188]]
  | 26 => [.canon [0, 4]]
  | 27 => [.canon [0, 1, 5]]
  | 100002 => [.canon [0, 1, 5]]
  | _ => []

noncomputable def T_impl_eager_run_ctx (N : Nat) : Ctx := [(150, T_slices_ContainsFunc___impl_Row_impl_Row___impl_eager_run_1_sg N), (62, T_impl_copyInts_sg N), (152, T_impl_eager_abort_sg N), (153, T_impl_EndOf_sg N), (154, T_impl_Calc_sg N)]

def T_impl_eager_run_lp0_sh (code3 : List (Int × Int × Int × Int)) (i4 : Int) (b5 : Int) (l6 : List Int) (l7 : List Int) (l8 : List (Int × Int)) (l9 : List (Int × Int × List Int)) (l10 : List Int) : St := { env := [(0, .s (.one (.ptr 0 0))), (1, .s (.one (.val (.slice (.prod (.int .i64) (.prod (.int .i64) (.prod (.int .i64) (.int .i64))))) (code3 : List (Int × Int × Int × Int))))), (5, .s (.one (.val (.int .i64) (i4 : Int))))], objs := [(0, .box [.own 1, .own 2, .own 3, .val (.int .i64) (b5 : Int), .own 4, .own 5]), (1, .arr (.int .i64) (l6 : List Int)), (2, .arr (.int .i64) (l7 : List Int)), (3, .arr (.prod (.int .i64) (.int .i64)) (l8 : List (Int × Int))), (4, .arr (.prod (.int .i64) (.prod (.int .i64) (.own (.int .i64)))) (l9 : List (Int × Int × List Int))), (5, .arr (.int .i64) (l10 : List Int))], nx := 6 }

def T_impl_eager_run_lp0_e0 (code3 : List (Int × Int × Int × Int)) (b16 : Int) (l17 : List Int) (l18 : List Int) (l19 : List (Int × Int)) (l20 : List (Int × Int × List Int)) (l21 : List Int) : St := { env := [(0, .s (.one (.ptr 0 0))), (4, .s (.one (.val (.int .i64) ((2 : Int) : Int))))], objs := [(0, .box [.own 1, .own 2, .own 3, .val (.int .i64) (b16 : Int), .own 4, .own 5]), (1, .arr (.int .i64) (l17 : List Int)), (2, .arr (.int .i64) (l18 : List Int)), (3, .arr (.prod (.int .i64) (.int .i64)) (l19 : List (Int × Int))), (4, .arr (.prod (.int .i64) (.prod (.int .i64) (.own (.int .i64)))) (l20 : List (Int × Int × List Int))), (5, .arr (.int .i64) (l21 : List Int))], nx := 6 }

def T_impl_eager_run_lp0_e1 (code3 : List (Int × Int × Int × Int)) (i22 : Int) (t23 : Bool) (b24 : Int) (l25 : List Int) (l26 : List Int) (l27 : List (Int × Int)) (l28 : List (Int × Int × List Int)) (l29 : List Int) : St := { env := [(0, .s (.one (.ptr 0 0))), (1, .s (.one (.val (.slice (.prod (.int .i64) (.prod (.int .i64) (.prod (.int .i64) (.int .i64))))) (code3 : List (Int × Int × Int × Int))))), (5, .s (.one (.val (.int .i64) (i22 : Int)))), (12, .s (.one (.val (.bool) (t23 : Bool))))], objs := [(0, .box [.own 1, .own 2, .own 3, .val (.int .i64) (b24 : Int), .own 4, .own 5]), (1, .arr (.int .i64) (l25 : List Int)), (2, .arr (.int .i64) (l26 : List Int)), (3, .arr (.prod (.int .i64) (.int .i64)) (l27 : List (Int × Int))), (4, .arr (.prod (.int .i64) (.prod (.int .i64) (.own (.int .i64)))) (l28 : List (Int × Int × List Int))), (5, .arr (.int .i64) (l29 : List Int))], nx := 6 }

noncomputable def T_impl_eager_run_lp0_m (N : Nat) {R : Type} (n : Nat) (st : St) (K : Ex → St → Option R) : Option R := loopN (roundG (T_impl_eager_run_ann 100002) fun st k => sx tab (T_impl_eager_run_ctx N) T_impl_eager_run_ann N (nthLoop Try.f104 0) st k) n st K

theorem T_impl_eager_run_lp0_step (N : Nat) {R : Type} (n : Nat) (K : Ex → St → Option R) (code3 : List (Int × Int × Int × Int)) (i4 : Int) (b5 : Int) (l6 : List Int) (l7 : List Int) (l8 : List (Int × Int)) (l9 : List (Int × Int × List Int)) (l10 : List Int) :
    T_impl_eager_run_lp0_m N (n + 1) (T_impl_eager_run_lp0_sh code3 i4 b5 l6 l7 l8 l9 l10) K =
    (bif decide (i4 < (ilen code3)) then
 (bif inb i4 (List.length code3) then
 (bif (List.getD code3 (Int.toNat i4) ((0 : Int), ((0 : Int), ((0 : Int), (0 : Int))))).1 == (5 : Int) then
 ((T_slices_ContainsFunc___impl_Row_impl_Row___impl_eager_run_1 N l8 (List.getD code3 (Int.toNat i4) ((0 : Int), ((0 : Int), ((0 : Int), (0 : Int)))))).bind fun o30 =>
 (bif !o30.2.1 then
 (bif room ((List.length l10) + (List.length ([o30.1.1.2.2.1]))) then
 (bif inb o30.1.1.2.2.1 (List.length l7) then
 (bif inb o30.1.1.2.1 (List.length l6) then
 (T_impl_eager_run_lp0_m N n (T_impl_eager_run_lp0_sh code3 (iadd .i64 i4 (1 : Int)) b5 (List.set l6 (Int.toNat o30.1.1.2.1) (List.getD l7 (Int.toNat o30.1.1.2.2.1) (0 : Int))) l7 l8 l9 (List.append l10 ([o30.1.1.2.2.1]))) K) else none) else none) else none)
 else
 (bif inb o30.1.1.2.2.1 (List.length l7) then
 (bif inb o30.1.1.2.1 (List.length l6) then
 (T_impl_eager_run_lp0_m N n (T_impl_eager_run_lp0_sh code3 (iadd .i64 i4 (1 : Int)) b5 (List.set l6 (Int.toNat o30.1.1.2.1) (List.getD l7 (Int.toNat o30.1.1.2.2.1) (0 : Int))) l7 l8 l9 l10) K) else none) else none)))
 else
 (bif (List.getD code3 (Int.toNat i4) ((0 : Int), ((0 : Int), ((0 : Int), (0 : Int))))).1 == (6 : Int) then
 (bif inb (List.getD code3 (Int.toNat i4) ((0 : Int), ((0 : Int), ((0 : Int), (0 : Int))))).2.1 (List.length l7) then
 (bif room ((List.length l8) + (List.length ([((List.getD code3 (Int.toNat i4) ((0 : Int), ((0 : Int), ((0 : Int), (0 : Int))))).2.1, List.getD l7 (Int.toNat (List.getD code3 (Int.toNat i4) ((0 : Int), ((0 : Int), ((0 : Int), (0 : Int))))).2.1) (0 : Int))]))) then
 (bif inb (List.getD code3 (Int.toNat i4) ((0 : Int), ((0 : Int), ((0 : Int), (0 : Int))))).2.2.1 (List.length l6) then
 (bif inb (List.getD code3 (Int.toNat i4) ((0 : Int), ((0 : Int), ((0 : Int), (0 : Int))))).2.1 (List.length l7) then
 (T_impl_eager_run_lp0_m N n (T_impl_eager_run_lp0_sh code3 (iadd .i64 i4 (1 : Int)) b5 l6 (List.set l7 (Int.toNat (List.getD code3 (Int.toNat i4) ((0 : Int), ((0 : Int), ((0 : Int), (0 : Int))))).2.1) (List.getD l6 (Int.toNat (List.getD code3 (Int.toNat i4) ((0 : Int), ((0 : Int), ((0 : Int), (0 : Int))))).2.2.1) (0 : Int))) (List.append l8 ([((List.getD code3 (Int.toNat i4) ((0 : Int), ((0 : Int), ((0 : Int), (0 : Int))))).2.1, List.getD l7 (Int.toNat (List.getD code3 (Int.toNat i4) ((0 : Int), ((0 : Int), ((0 : Int), (0 : Int))))).2.1) (0 : Int))])) l9 l10) K) else none) else none) else none) else none)
 else
 (bif (List.getD code3 (Int.toNat i4) ((0 : Int), ((0 : Int), ((0 : Int), (0 : Int))))).1 == (7 : Int) then
 (bif inb (List.getD code3 (Int.toNat i4) ((0 : Int), ((0 : Int), ((0 : Int), (0 : Int))))).2.1 (List.length l6) then
 (bif (List.getD l6 (Int.toNat (List.getD code3 (Int.toNat i4) ((0 : Int), ((0 : Int), ((0 : Int), (0 : Int))))).2.1) (0 : Int)) == (0 : Int) then
 (T_impl_eager_run_lp0_m N n (T_impl_eager_run_lp0_sh code3 (iadd .i64 (iadd .i64 i4 (List.getD code3 (Int.toNat i4) ((0 : Int), ((0 : Int), ((0 : Int), (0 : Int))))).2.2.1) (1 : Int)) b5 l6 l7 l8 l9 l10) K)
 else
 (T_impl_eager_run_lp0_m N n (T_impl_eager_run_lp0_sh code3 (iadd .i64 i4 (1 : Int)) b5 l6 l7 l8 l9 l10) K)) else none)
 else
 (bif (List.getD code3 (Int.toNat i4) ((0 : Int), ((0 : Int), ((0 : Int), (0 : Int))))).1 == (8 : Int) then
 ((T_impl_copyInts N l6).bind fun o31 =>
 (bif room ((List.length l9) + (List.length ([(i4, (ilen l8, o31.2.1))]))) then
 (T_impl_eager_run_lp0_m N n (T_impl_eager_run_lp0_sh code3 (iadd .i64 i4 (1 : Int)) b5 l6 l7 l8 (List.append l9 ([(i4, (ilen l8, o31.2.1))])) l10) K) else none))
 else
 (bif (List.getD code3 (Int.toNat i4) ((0 : Int), ((0 : Int), ((0 : Int), (0 : Int))))).1 == (9 : Int) then
 (bif inb (isub .i64 (ilen l9) (1 : Int)) (List.length l9) then
 (bif (decide ((0 : Int) ≤ (isub .i64 (ilen l9) (1 : Int)))) && (decide ((isub .i64 (ilen l9) (1 : Int)) ≤ ((List.length l9) : Int))) then
 (bif inb (List.getD l9 (Int.toNat (isub .i64 (ilen l9) (1 : Int))) ((0 : Int), ((0 : Int), ([] : List Int)))).1 (List.length code3) then
 (bif inb (List.getD code3 (Int.toNat (List.getD l9 (Int.toNat (isub .i64 (ilen l9) (1 : Int))) ((0 : Int), ((0 : Int), ([] : List Int)))).1) ((0 : Int), ((0 : Int), ((0 : Int), (0 : Int))))).2.1 (List.length l6) then
 (T_impl_eager_run_lp0_m N n (T_impl_eager_run_lp0_sh code3 (iadd .i64 i4 (1 : Int)) b5 (List.set l6 (Int.toNat (List.getD code3 (Int.toNat (List.getD l9 (Int.toNat (isub .i64 (ilen l9) (1 : Int))) ((0 : Int), ((0 : Int), ([] : List Int)))).1) ((0 : Int), ((0 : Int), ((0 : Int), (0 : Int))))).2.1) (1 : Int)) l7 l8 (List.take (Int.toNat (isub .i64 (ilen l9) (1 : Int))) l9) l10) K) else none) else none) else none) else none)
 else
 (bif (List.getD code3 (Int.toNat i4) ((0 : Int), ((0 : Int), ((0 : Int), (0 : Int))))).1 == (10 : Int) then
 ((T_impl_eager_abort N (l6, (l7, (l8, (b5, (l9, l10))))) code3).bind fun o32 =>
 (bif decide (o32.2.1 < (0 : Int)) then
 (K .ret (T_impl_eager_run_lp0_e0 code3 o32.1.1.2.2.2.1 o32.1.1.1 o32.1.1.2.1 o32.1.1.2.2.1 o32.1.1.2.2.2.2.1 o32.1.1.2.2.2.2.2))
 else
 ((T_impl_EndOf N code3 o32.2.1).bind fun o33 =>
 (T_impl_eager_run_lp0_m N n (T_impl_eager_run_lp0_sh code3 (iadd .i64 o33.2.1 (1 : Int)) o32.1.1.2.2.2.1 o32.1.1.1 o32.1.1.2.1 o32.1.1.2.2.1 o32.1.1.2.2.2.2.1 o32.1.1.2.2.2.2.2) K))))
 else
 ((T_impl_Calc N (List.getD code3 (Int.toNat i4) ((0 : Int), ((0 : Int), ((0 : Int), (0 : Int))))) l6).bind fun o34 =>
 (T_impl_eager_run_lp0_m N n (T_impl_eager_run_lp0_sh code3 (iadd .i64 i4 (1 : Int)) b5 o34.2.1 l7 l8 l9 l10) K)))))))) else none)
 else
 (K (.exit 0) (T_impl_eager_run_lp0_e1 code3 i4 (decide (i4 < (ilen code3))) b5 l6 l7 l8 l9 l10))) := by kernel_rfl

theorem T_impl_eager_run_lp0_eq (N : Nat) {R : Type} (code3 : List (Int × Int × Int × Int)) (K : Ex → St → Option R) : ∀ (n : Nat) (i4 : Int) (b5 : Int) (l6 : List Int) (l7 : List Int) (l8 : List (Int × Int)) (l9 : List (Int × Int × List Int)) (l10 : List Int), T_impl_eager_run_lp0_m N n (T_impl_eager_run_lp0_sh code3 i4 b5 l6 l7 l8 l9 l10) K = T_impl_eager_run_lp0 N code3 (fun b16 l17 l18 l19 l20 l21 => (K .ret (T_impl_eager_run_lp0_e0 code3 b16 l17 l18 l19 l20 l21))) (fun i22 t23 b24 l25 l26 l27 l28 l29 => (K (.exit 0) (T_impl_eager_run_lp0_e1 code3 i22 t23 b24 l25 l26 l27 l28 l29))) n i4 b5 l6 l7 l8 l9 l10
  | 0, _, _, _, _, _, _, _ => rfl
  | n + 1, i4, b5, l6, l7, l8, l9, l10 => by rw [T_impl_eager_run_lp0_step, T_impl_eager_run_lp0]; (try simp only [T_impl_eager_run_lp0_eq N code3 K n])

theorem T_impl_eager_run_c1 (N : Nat) (code2 : List (Int × Int × Int × Int)) (b35 : Int) (l36 : List Int) (l37 : List Int) (l38 : List (Int × Int)) (l39 : List (Int × Int × List Int)) (l40 : List Int) :
    ((ctxK (R := ODen (T_impl_eager_run_sg N).ps × RDen (T_impl_eager_run_sg N).rs) tab (T_impl_eager_run_ctx N) T_impl_eager_run_ann N (theCode Try.f104) [1, 0, 1, 0] (retK tab (T_impl_eager_run_sg N) Try.f104.results.toList some)) .ret (T_impl_eager_run_lp0_e0 code2 b35 l36 l37 l38 l39 l40)) =
    (some (α := ODen (T_impl_eager_run_sg N).ps × RDen (T_impl_eager_run_sg N).rs) (((l36, (l37, (l38, (b35, (l39, l40))))), ()), ((2 : Int), ()))) := by kernel_rfl

theorem T_impl_eager_run_c2 (N : Nat) (code2 : List (Int × Int × Int × Int)) (i41 : Int) (t42 : Bool) (b43 : Int) (l44 : List Int) (l45 : List Int) (l46 : List (Int × Int)) (l47 : List (Int × Int × List Int)) (l48 : List Int) :
    ((ctxK (R := ODen (T_impl_eager_run_sg N).ps × RDen (T_impl_eager_run_sg N).rs) tab (T_impl_eager_run_ctx N) T_impl_eager_run_ann N (theCode Try.f104) [1, 0, 1, 0] (retK tab (T_impl_eager_run_sg N) Try.f104.results.toList some)) (.exit 0) (T_impl_eager_run_lp0_e1 code2 i41 t42 b43 l44 l45 l46 l47 l48)) =
    (some (α := ODen (T_impl_eager_run_sg N).ps × RDen (T_impl_eager_run_sg N).rs) (((l44, (l45, (l46, (b43, (l47, l48))))), ()), ((1 : Int), ()))) := by kernel_rfl

theorem T_impl_eager_run_den (N : Nat) (e1 : List Int × List Int × List (Int × Int) × Int × List (Int × Int × List Int) × List Int) (code2 : List (Int × Int × Int × Int)) :
 den (R := ODen (T_impl_eager_run_sg N).ps × RDen (T_impl_eager_run_sg N).rs) tab (T_impl_eager_run_ctx N) T_impl_eager_run_ann N (T_impl_eager_run_sg N) Try.f104 (e1, code2, ()) some =
 (T_impl_eager_run N e1 code2 : Option (ODen (T_impl_eager_run_sg N).ps × RDen (T_impl_eager_run_sg N).rs)) := by
  have h : den (R := ODen (T_impl_eager_run_sg N).ps × RDen (T_impl_eager_run_sg N).rs) tab (T_impl_eager_run_ctx N) T_impl_eager_run_ann N (T_impl_eager_run_sg N) Try.f104 (e1, code2, ()) some =
 (T_impl_eager_run_lp0_m N N (T_impl_eager_run_lp0_sh code2 (0 : Int) e1.2.2.2.1 e1.1 e1.2.1 e1.2.2.1 e1.2.2.2.2.1 e1.2.2.2.2.2) (ctxK (R := ODen (T_impl_eager_run_sg N).ps × RDen (T_impl_eager_run_sg N).rs) tab (T_impl_eager_run_ctx N) T_impl_eager_run_ann N (theCode Try.f104) [1, 0, 1, 0] (retK tab (T_impl_eager_run_sg N) Try.f104.results.toList some))) := by kernel_rfl
  rw [h]
  (try simp only [T_impl_eager_run_lp0_eq, T_impl_eager_run_c1, T_impl_eager_run_c2]) <;> rfl

theorem T_impl_eager_run_ok (N : Nat) : chkBody Try.f104 (T_impl_eager_run_sg N).ps = true := by kernel_rfl

theorem T_impl_eager_run_callable : Callable Try.prog 104 := callable_of Try.func104 (show chkFn Try.f104 = true by kernel_rfl)

theorem T_impl_eager_run_good (N : Nat) : Good Try.prog 104 (T_impl_eager_run_sg N) :=
  good_body mixedOk tabOk (ctx_cons (T_slices_ContainsFunc___impl_Row_impl_Row___impl_eager_run_1_good N) T_slices_ContainsFunc___impl_Row_impl_Row___impl_eager_run_1_callable (ctx_cons (T_impl_copyInts_good N) T_impl_copyInts_callable (ctx_cons (T_impl_eager_abort_good N) T_impl_eager_abort_callable (ctx_cons (T_impl_EndOf_good N) T_impl_EndOf_callable (ctx_cons (T_impl_Calc_good N) T_impl_Calc_callable ctx_nil))))) Try.func104 (T_impl_eager_run_ok N) (fun d _ h => ⟨N, (T_impl_eager_run_den N d.1 d.2.1).trans h⟩)

noncomputable def T_impl_EagerRun_sg (N : Nat) : Sig := Sig.of [.v (.slice (.prod (.int .i64) (.prod (.int .i64) (.prod (.int .i64) (.int .i64))))) false, .v (.slice (.int .i64)) false, .v (.slice (.int .i64)) false] [.v (.prod (.int .i64) (.prod (.own (.int .i64)) (.prod (.own (.int .i64)) (.prod (.own (.prod (.int .i64) (.int .i64))) (.int .i64))))) true] (fun d => T_impl_EagerRun N d.1 d.2.1 d.2.2.1)

def T_impl_EagerRun_ann : Nat → List Ghost
  | _ => []

noncomputable def T_impl_EagerRun_ctx (N : Nat) : Ctx := [(103, T_impl_kidOf_sg N), (104, T_impl_eager_run_sg N)]

theorem T_impl_EagerRun_den (N : Nat) (code1 : List (Int × Int × Int × Int)) (regs2 : List Int) (cells3 : List Int) :
    den (R := ODen (T_impl_EagerRun_sg N).ps × RDen (T_impl_EagerRun_sg N).rs) tab (T_impl_EagerRun_ctx N) T_impl_EagerRun_ann N (T_impl_EagerRun_sg N) Try.f41 (code1, regs2, cells3, ()) some =
    (T_impl_EagerRun N code1 regs2 cells3 : Option (ODen (T_impl_EagerRun_sg N).ps × RDen (T_impl_EagerRun_sg N).rs)) := by kernel_rfl

theorem T_impl_EagerRun_ok (N : Nat) : chkBody Try.f41 (T_impl_EagerRun_sg N).ps = true := by kernel_rfl

theorem T_impl_EagerRun_callable : Callable Try.prog 41 := callable_of Try.func41 (show chkFn Try.f41 = true by kernel_rfl)

theorem T_impl_EagerRun_good (N : Nat) : Good Try.prog 41 (T_impl_EagerRun_sg N) :=
  good_body mixedOk tabOk (ctx_cons (T_impl_kidOf_good N) T_impl_kidOf_callable (ctx_cons (T_impl_eager_run_good N) T_impl_eager_run_callable ctx_nil)) Try.func41 (T_impl_EagerRun_ok N) (fun d _ h => ⟨N, (T_impl_EagerRun_den N d.1 d.2.1 d.2.2.1).trans h⟩)

noncomputable def T_spec_l1In_sg (N : Nat) : Sig := Sig.of [.v (.int .i64) false, .v (.int .i64) false, .v (.int .i64) false] [.v (.bool) false] (fun d => T_spec_l1In N d.1 d.2.1 d.2.2.1)

def T_spec_l1In_ann : Nat → List Ghost
  | _ => []

noncomputable def T_spec_l1In_ctx (N : Nat) : Ctx := []

theorem T_spec_l1In_den (N : Nat) (x1 : Int) (low2 : Int) (high3 : Int) :
    den (R := ODen (T_spec_l1In_sg N).ps × RDen (T_spec_l1In_sg N).rs) tab (T_spec_l1In_ctx N) T_spec_l1In_ann N (T_spec_l1In_sg N) Try.f57 (x1, low2, high3, ()) some =
    (T_spec_l1In N x1 low2 high3 : Option (ODen (T_spec_l1In_sg N).ps × RDen (T_spec_l1In_sg N).rs)) := by kernel_rfl

theorem T_spec_l1In_ok (N : Nat) : chkBody Try.f57 (T_spec_l1In_sg N).ps = true := by kernel_rfl

theorem T_spec_l1In_callable : Callable Try.prog 57 := callable_of Try.func57 (show chkFn Try.f57 = true by kernel_rfl)

theorem T_spec_l1In_good (N : Nat) : Good Try.prog 57 (T_spec_l1In_sg N) :=
  good_body mixedOk tabOk ctx_nil Try.func57 (T_spec_l1In_ok N) (fun d _ h => ⟨N, (T_spec_l1In_den N d.1 d.2.1 d.2.2.1).trans h⟩)

noncomputable def T_spec_l4Reg_sg (N : Nat) : Sig := Sig.of [.v (.int .i64) false] [.v (.bool) false] (fun d => T_spec_l4Reg N d.1)

def T_spec_l4Reg_ann : Nat → List Ghost
  | _ => []

noncomputable def T_spec_l4Reg_ctx (N : Nat) : Ctx := [(57, T_spec_l1In_sg N)]

theorem T_spec_l4Reg_den (N : Nat) (i1 : Int) :
    den (R := ODen (T_spec_l4Reg_sg N).ps × RDen (T_spec_l4Reg_sg N).rs) tab (T_spec_l4Reg_ctx N) T_spec_l4Reg_ann N (T_spec_l4Reg_sg N) Try.f172 (i1, ()) some =
    (T_spec_l4Reg N i1 : Option (ODen (T_spec_l4Reg_sg N).ps × RDen (T_spec_l4Reg_sg N).rs)) := by kernel_rfl

theorem T_spec_l4Reg_ok (N : Nat) : chkBody Try.f172 (T_spec_l4Reg_sg N).ps = true := by kernel_rfl

theorem T_spec_l4Reg_callable : Callable Try.prog 172 := callable_of Try.func172 (show chkFn Try.f172 = true by kernel_rfl)

theorem T_spec_l4Reg_good (N : Nat) : Good Try.prog 172 (T_spec_l4Reg_sg N) :=
  good_body mixedOk tabOk (ctx_cons (T_spec_l1In_good N) T_spec_l1In_callable ctx_nil) Try.func172 (T_spec_l4Reg_ok N) (fun d _ h => ⟨N, (T_spec_l4Reg_den N d.1).trans h⟩)

noncomputable def T_spec_l3Val_sg (N : Nat) : Sig := Sig.of [.v (.int .i64) false] [.v (.bool) false] (fun d => T_spec_l3Val N d.1)

def T_spec_l3Val_ann : Nat → List Ghost
  | _ => []

noncomputable def T_spec_l3Val_ctx (N : Nat) : Ctx := [(57, T_spec_l1In_sg N)]

theorem T_spec_l3Val_den (N : Nat) (v1 : Int) :
    den (R := ODen (T_spec_l3Val_sg N).ps × RDen (T_spec_l3Val_sg N).rs) tab (T_spec_l3Val_ctx N) T_spec_l3Val_ann N (T_spec_l3Val_sg N) Try.f134 (v1, ()) some =
    (T_spec_l3Val N v1 : Option (ODen (T_spec_l3Val_sg N).ps × RDen (T_spec_l3Val_sg N).rs)) := by kernel_rfl

theorem T_spec_l3Val_ok (N : Nat) : chkBody Try.f134 (T_spec_l3Val_sg N).ps = true := by kernel_rfl

theorem T_spec_l3Val_callable : Callable Try.prog 134 := callable_of Try.func134 (show chkFn Try.f134 = true by kernel_rfl)

theorem T_spec_l3Val_good (N : Nat) : Good Try.prog 134 (T_spec_l3Val_sg N) :=
  good_body mixedOk tabOk (ctx_cons (T_spec_l1In_good N) T_spec_l1In_callable ctx_nil) Try.func134 (T_spec_l3Val_ok N) (fun d _ h => ⟨N, (T_spec_l3Val_den N d.1).trans h⟩)

noncomputable def T_spec_l3Cell_sg (N : Nat) : Sig := Sig.of [.v (.int .i64) false] [.v (.bool) false] (fun d => T_spec_l3Cell N d.1)

def T_spec_l3Cell_ann : Nat → List Ghost
  | _ => []

noncomputable def T_spec_l3Cell_ctx (N : Nat) : Ctx := [(57, T_spec_l1In_sg N)]

theorem T_spec_l3Cell_den (N : Nat) (i1 : Int) :
    den (R := ODen (T_spec_l3Cell_sg N).ps × RDen (T_spec_l3Cell_sg N).rs) tab (T_spec_l3Cell_ctx N) T_spec_l3Cell_ann N (T_spec_l3Cell_sg N) Try.f133 (i1, ()) some =
    (T_spec_l3Cell N i1 : Option (ODen (T_spec_l3Cell_sg N).ps × RDen (T_spec_l3Cell_sg N).rs)) := by kernel_rfl

theorem T_spec_l3Cell_ok (N : Nat) : chkBody Try.f133 (T_spec_l3Cell_sg N).ps = true := by kernel_rfl

theorem T_spec_l3Cell_callable : Callable Try.prog 133 := callable_of Try.func133 (show chkFn Try.f133 = true by kernel_rfl)

theorem T_spec_l3Cell_good (N : Nat) : Good Try.prog 133 (T_spec_l3Cell_sg N) :=
  good_body mixedOk tabOk (ctx_cons (T_spec_l1In_good N) T_spec_l1In_callable ctx_nil) Try.func133 (T_spec_l3Cell_ok N) (fun d _ h => ⟨N, (T_spec_l3Cell_den N d.1).trans h⟩)

noncomputable def T_spec_OpOk_sg (N : Nat) : Sig := Sig.of [.v (.prod (.int .i64) (.prod (.int .i64) (.prod (.int .i64) (.int .i64)))) true] [.v (.bool) false] (fun d => T_spec_OpOk N d.1)

def T_spec_OpOk_ann : Nat → List Ghost
  | _ => []

noncomputable def T_spec_OpOk_ctx (N : Nat) : Ctx := [(172, T_spec_l4Reg_sg N), (134, T_spec_l3Val_sg N), (133, T_spec_l3Cell_sg N), (57, T_spec_l1In_sg N)]

theorem T_spec_OpOk_den (N : Nat) (o1 : Int × Int × Int × Int) :
    den (R := ODen (T_spec_OpOk_sg N).ps × RDen (T_spec_OpOk_sg N).rs) tab (T_spec_OpOk_ctx N) T_spec_OpOk_ann N (T_spec_OpOk_sg N) Try.f148 (o1, ()) some =
    (T_spec_OpOk N o1 : Option (ODen (T_spec_OpOk_sg N).ps × RDen (T_spec_OpOk_sg N).rs)) := by kernel_rfl

theorem T_spec_OpOk_ok (N : Nat) : chkBody Try.f148 (T_spec_OpOk_sg N).ps = true := by kernel_rfl

theorem T_spec_OpOk_callable : Callable Try.prog 148 := callable_of Try.func148 (show chkFn Try.f148 = true by kernel_rfl)

theorem T_spec_OpOk_good (N : Nat) : Good Try.prog 148 (T_spec_OpOk_sg N) :=
  good_body mixedOk tabOk (ctx_cons (T_spec_l4Reg_good N) T_spec_l4Reg_callable (ctx_cons (T_spec_l3Val_good N) T_spec_l3Val_callable (ctx_cons (T_spec_l3Cell_good N) T_spec_l3Cell_callable (ctx_cons (T_spec_l1In_good N) T_spec_l1In_callable ctx_nil)))) Try.func148 (T_spec_OpOk_ok N) (fun d _ h => ⟨N, (T_spec_OpOk_den N d.1).trans h⟩)

noncomputable def T_spec_l5Skip_sg (N : Nat) : Sig := Sig.of [.v (.slice (.prod (.int .i64) (.prod (.int .i64) (.prod (.int .i64) (.int .i64))))) false, .v (.int .i64) false] [.v (.bool) false] (fun d => T_spec_l5Skip N d.1 d.2.1)

def T_spec_l5Skip_ann : Nat → List Ghost
  | 6 => [.canon [0, 5, 6, 7, 24]]
  | 7 => [.canon [0, 5, 6, 7]]
  | 8 => [.canon [0, 5, 6, 7, 32]]
  | 9 => [.canon [0, 5, 6, 7]]
  | 10 => [.canon [0, 5, 6, 7, 40]]
  | 11 => [.canon [0, 5, 6, 7]]
  | 12 => [.canon [0, 5, 6, 7, 44]]
  | 13 => [.canon [4]]
  | 100006 => [.canon [0, 5, 6, 7]]
  | _ => []

noncomputable def T_spec_l5Skip_ctx (N : Nat) : Ctx := []

def T_spec_l5Skip_lp0_sh (code3 : List (Int × Int × Int × Int)) (to4 : Int) (d5 : Int) (k6 : Int) : St := { env := [(0, .s (.one (.val (.slice (.prod (.int .i64) (.prod (.int .i64) (.prod (.int .i64) (.int .i64))))) (code3 : List (Int × Int × Int × Int))))), (5, .s (.one (.val (.int .i64) (to4 : Int)))), (6, .s (.one (.val (.int .i64) (d5 : Int)))), (7, .s (.one (.val (.int .i64) (k6 : Int))))], objs := [], nx := 0 }

def T_spec_l5Skip_lp0_e0 (code3 : List (Int × Int × Int × Int)) (to4 : Int) : St := { env := [(4, .s (.one (.val (.bool) (false : Bool))))], objs := [], nx := 0 }

def T_spec_l5Skip_lp0_e1 (code3 : List (Int × Int × Int × Int)) (to4 : Int) (d7 : Int) (k8 : Int) (t9 : Bool) : St := { env := [(0, .s (.one (.val (.slice (.prod (.int .i64) (.prod (.int .i64) (.prod (.int .i64) (.int .i64))))) (code3 : List (Int × Int × Int × Int))))), (5, .s (.one (.val (.int .i64) (to4 : Int)))), (6, .s (.one (.val (.int .i64) (d7 : Int)))), (7, .s (.one (.val (.int .i64) (k8 : Int)))), (24, .s (.one (.val (.bool) (t9 : Bool))))], objs := [], nx := 0 }

noncomputable def T_spec_l5Skip_lp0_m (N : Nat) {R : Type} (n : Nat) (st : St) (K : Ex → St → Option R) : Option R := loopN (roundG (T_spec_l5Skip_ann 100006) fun st k => sx tab (T_spec_l5Skip_ctx N) T_spec_l5Skip_ann N (nthLoop Try.f171 0) st k) n st K

theorem T_spec_l5Skip_lp0_step (N : Nat) {R : Type} (n : Nat) (K : Ex → St → Option R) (code3 : List (Int × Int × Int × Int)) (to4 : Int) (d5 : Int) (k6 : Int) :
    T_spec_l5Skip_lp0_m N (n + 1) (T_spec_l5Skip_lp0_sh code3 to4 d5 k6) K =
    (bif decide (k6 < to4) then
 (bif inb k6 (List.length code3) then
 (bif (List.getD code3 (Int.toNat k6) ((0 : Int), ((0 : Int), ((0 : Int), (0 : Int))))).1 == (8 : Int) then
 (bif inb k6 (List.length code3) then
 (bif (List.getD code3 (Int.toNat k6) ((0 : Int), ((0 : Int), ((0 : Int), (0 : Int))))).1 == (9 : Int) then
 (bif decide ((isub .i64 (iadd .i64 d5 (1 : Int)) (1 : Int)) < (0 : Int)) then
 (K .ret (T_spec_l5Skip_lp0_e0 code3 to4))
 else
 (T_spec_l5Skip_lp0_m N n (T_spec_l5Skip_lp0_sh code3 to4 (isub .i64 (iadd .i64 d5 (1 : Int)) (1 : Int)) (iadd .i64 k6 (1 : Int))) K))
 else
 (bif decide ((iadd .i64 d5 (1 : Int)) < (0 : Int)) then
 (K .ret (T_spec_l5Skip_lp0_e0 code3 to4))
 else
 (T_spec_l5Skip_lp0_m N n (T_spec_l5Skip_lp0_sh code3 to4 (iadd .i64 d5 (1 : Int)) (iadd .i64 k6 (1 : Int))) K))) else none)
 else
 (bif inb k6 (List.length code3) then
 (bif (List.getD code3 (Int.toNat k6) ((0 : Int), ((0 : Int), ((0 : Int), (0 : Int))))).1 == (9 : Int) then
 (bif decide ((isub .i64 d5 (1 : Int)) < (0 : Int)) then
 (K .ret (T_spec_l5Skip_lp0_e0 code3 to4))
 else
 (T_spec_l5Skip_lp0_m N n (T_spec_l5Skip_lp0_sh code3 to4 (isub .i64 d5 (1 : Int)) (iadd .i64 k6 (1 : Int))) K))
 else
 (bif decide (d5 < (0 : Int)) then
 (K .ret (T_spec_l5Skip_lp0_e0 code3 to4))
 else
 (T_spec_l5Skip_lp0_m N n (T_spec_l5Skip_lp0_sh code3 to4 d5 (iadd .i64 k6 (1 : Int))) K))) else none)) else none)
 else
 (K (.exit 0) (T_spec_l5Skip_lp0_e1 code3 to4 d5 k6 (decide (k6 < to4))))) := by kernel_rfl

theorem T_spec_l5Skip_lp0_eq (N : Nat) {R : Type} (code3 : List (Int × Int × Int × Int)) (to4 : Int) (K : Ex → St → Option R) : ∀ (n : Nat) (d5 : Int) (k6 : Int), T_spec_l5Skip_lp0_m N n (T_spec_l5Skip_lp0_sh code3 to4 d5 k6) K = T_spec_l5Skip_lp0 N code3 to4 (K .ret (T_spec_l5Skip_lp0_e0 code3 to4)) (fun d7 k8 t9 => (K (.exit 0) (T_spec_l5Skip_lp0_e1 code3 to4 d7 k8 t9))) n d5 k6
  | 0, _, _ => rfl
  | n + 1, d5, k6 => by rw [T_spec_l5Skip_lp0_step, T_spec_l5Skip_lp0]; (try simp only [T_spec_l5Skip_lp0_eq N code3 to4 K n])

theorem T_spec_l5Skip_c1 (N : Nat) (code1 : List (Int × Int × Int × Int)) (i2 : Int) :
    ((ctxK (R := ODen (T_spec_l5Skip_sg N).ps × RDen (T_spec_l5Skip_sg N).rs) tab (T_spec_l5Skip_ctx N) T_spec_l5Skip_ann N (theCode Try.f171) [1, 1, 1, 1, 0, 1, 0] (retK tab (T_spec_l5Skip_sg N) Try.f171.results.toList some)) .ret (T_spec_l5Skip_lp0_e0 code1 (iadd .i64 (iadd .i64 i2 (1 : Int)) (List.getD code1 (Int.toNat i2) ((0 : Int), ((0 : Int), ((0 : Int), (0 : Int))))).2.2.1))) =
    (some (α := ODen (T_spec_l5Skip_sg N).ps × RDen (T_spec_l5Skip_sg N).rs) ((), (false, ()))) := by kernel_rfl

theorem T_spec_l5Skip_c2 (N : Nat) (code1 : List (Int × Int × Int × Int)) (i2 : Int) (d10 : Int) (k11 : Int) (t12 : Bool) :
    ((ctxK (R := ODen (T_spec_l5Skip_sg N).ps × RDen (T_spec_l5Skip_sg N).rs) tab (T_spec_l5Skip_ctx N) T_spec_l5Skip_ann N (theCode Try.f171) [1, 1, 1, 1, 0, 1, 0] (retK tab (T_spec_l5Skip_sg N) Try.f171.results.toList some)) (.exit 0) (T_spec_l5Skip_lp0_e1 code1 (iadd .i64 (iadd .i64 i2 (1 : Int)) (List.getD code1 (Int.toNat i2) ((0 : Int), ((0 : Int), ((0 : Int), (0 : Int))))).2.2.1) d10 k11 t12)) =
    (some (α := ODen (T_spec_l5Skip_sg N).ps × RDen (T_spec_l5Skip_sg N).rs) ((), (d10 == (0 : Int), ()))) := by kernel_rfl

theorem T_spec_l5Skip_den (N : Nat) (code1 : List (Int × Int × Int × Int)) (i2 : Int) :
 den (R := ODen (T_spec_l5Skip_sg N).ps × RDen (T_spec_l5Skip_sg N).rs) tab (T_spec_l5Skip_ctx N) T_spec_l5Skip_ann N (T_spec_l5Skip_sg N) Try.f171 (code1, i2, ()) some =
 (T_spec_l5Skip N code1 i2 : Option (ODen (T_spec_l5Skip_sg N).ps × RDen (T_spec_l5Skip_sg N).rs)) := by
  have h : den (R := ODen (T_spec_l5Skip_sg N).ps × RDen (T_spec_l5Skip_sg N).rs) tab (T_spec_l5Skip_ctx N) T_spec_l5Skip_ann N (T_spec_l5Skip_sg N) Try.f171 (code1, i2, ()) some =
 (bif inb i2 (List.length code1) then
 (bif decide ((iadd .i64 (iadd .i64 i2 (1 : Int)) (List.getD code1 (Int.toNat i2) ((0 : Int), ((0 : Int), ((0 : Int), (0 : Int))))).2.2.1) > (ilen code1)) then
 (some (α := ODen (T_spec_l5Skip_sg N).ps × RDen (T_spec_l5Skip_sg N).rs) ((), (false, ())))
 else
 (T_spec_l5Skip_lp0_m N N (T_spec_l5Skip_lp0_sh code1 (iadd .i64 (iadd .i64 i2 (1 : Int)) (List.getD code1 (Int.toNat i2) ((0 : Int), ((0 : Int), ((0 : Int), (0 : Int))))).2.2.1) (0 : Int) (iadd .i64 i2 (1 : Int))) (ctxK (R := ODen (T_spec_l5Skip_sg N).ps × RDen (T_spec_l5Skip_sg N).rs) tab (T_spec_l5Skip_ctx N) T_spec_l5Skip_ann N (theCode Try.f171) [1, 1, 1, 1, 0, 1, 0] (retK tab (T_spec_l5Skip_sg N) Try.f171.results.toList some)))) else none) := by kernel_rfl
  rw [h]
  (try simp only [T_spec_l5Skip_lp0_eq, T_spec_l5Skip_c1, T_spec_l5Skip_c2]) <;> rfl

theorem T_spec_l5Skip_ok (N : Nat) : chkBody Try.f171 (T_spec_l5Skip_sg N).ps = true := by kernel_rfl

theorem T_spec_l5Skip_callable : Callable Try.prog 171 := callable_of Try.func171 (show chkFn Try.f171 = true by kernel_rfl)

theorem T_spec_l5Skip_good (N : Nat) : Good Try.prog 171 (T_spec_l5Skip_sg N) :=
  good_body mixedOk tabOk ctx_nil Try.func171 (T_spec_l5Skip_ok N) (fun d _ h => ⟨N, (T_spec_l5Skip_den N d.1 d.2.1).trans h⟩)

noncomputable def T_spec_CodeOk_sg (N : Nat) : Sig := Sig.of [.v (.slice (.prod (.int .i64) (.prod (.int .i64) (.prod (.int .i64) (.int .i64))))) false] [.v (.bool) false] (fun d => T_spec_CodeOk N d.1)

def T_spec_CodeOk_ann : Nat → List Ghost
  | 6 => [.canon [0, 3, 4, 5, 12]]
  | 7 => [.canon [0, 3, 4, 5]]
  | 8 => [.canon [0, 3, 4, 5, 20]]
  | 9 => [.canon [2]]
  | 10 => [.canon [0, 3, 4, 5, 25]]
  | 11 => [.canon [0, 3, 4, 5, 25, 26]]
  | 12 => [.canon [0, 3, 4, 5]]
  | 13 => [.canon [0, 3, 4, 5, 25, 30]]
  | 14 => [.canon [0, 3, 4, 5]]
  | 15 => [.canon [0, 3, 4, 5, 25, 34]]
  | 16 => [.canon [0, 3, 4, 5, 39]]
  | 17 => [.canon [2]]
  | 18 => [.canon [0, 3, 4, 5, 40]]
  | 19 => [.canon [0, 3, 4, 5]]
  | 20 => [.canon [0, 3, 4, 5, 49]]
  | 21 => [.canon [2]]
  | 22 => [.canon [0, 3, 4, 5, 51]]
  | 23 => [.canon [2]]
  | 100006 => [.canon [0, 3, 4, 5]]
  | _ => []

noncomputable def T_spec_CodeOk_ctx (N : Nat) : Ctx := [(148, T_spec_OpOk_sg N), (171, T_spec_l5Skip_sg N)]

def T_spec_CodeOk_lp0_sh (code2 : List (Int × Int × Int × Int)) (d3 : Int) (forks4 : Int) (i5 : Int) : St := { env := [(0, .s (.one (.val (.slice (.prod (.int .i64) (.prod (.int .i64) (.prod (.int .i64) (.int .i64))))) (code2 : List (Int × Int × Int × Int))))), (3, .s (.one (.val (.int .i64) (d3 : Int)))), (4, .s (.one (.val (.int .i64) (forks4 : Int)))), (5, .s (.one (.val (.int .i64) (i5 : Int))))], objs := [], nx := 0 }

def T_spec_CodeOk_lp0_e0 (code2 : List (Int × Int × Int × Int)) : St := { env := [(2, .s (.one (.val (.bool) (false : Bool))))], objs := [], nx := 0 }

def T_spec_CodeOk_lp0_e1 (code2 : List (Int × Int × Int × Int)) (d8 : Int) (forks9 : Int) (i10 : Int) (t11 : Bool) : St := { env := [(0, .s (.one (.val (.slice (.prod (.int .i64) (.prod (.int .i64) (.prod (.int .i64) (.int .i64))))) (code2 : List (Int × Int × Int × Int))))), (3, .s (.one (.val (.int .i64) (d8 : Int)))), (4, .s (.one (.val (.int .i64) (forks9 : Int)))), (5, .s (.one (.val (.int .i64) (i10 : Int)))), (12, .s (.one (.val (.bool) (t11 : Bool))))], objs := [], nx := 0 }

noncomputable def T_spec_CodeOk_lp0_m (N : Nat) {R : Type} (n : Nat) (st : St) (K : Ex → St → Option R) : Option R := loopN (roundG (T_spec_CodeOk_ann 100006) fun st k => sx tab (T_spec_CodeOk_ctx N) T_spec_CodeOk_ann N (nthLoop Try.f144 0) st k) n st K

theorem T_spec_CodeOk_lp0_step (N : Nat) {R : Type} (n : Nat) (K : Ex → St → Option R) (code2 : List (Int × Int × Int × Int)) (d3 : Int) (forks4 : Int) (i5 : Int) :
    T_spec_CodeOk_lp0_m N (n + 1) (T_spec_CodeOk_lp0_sh code2 d3 forks4 i5) K =
    (bif decide (i5 < (ilen code2)) then
 (bif inb i5 (List.length code2) then
 ((T_spec_OpOk N (List.getD code2 (Int.toNat i5) ((0 : Int), ((0 : Int), ((0 : Int), (0 : Int)))))).bind fun o12 =>
 (bif !o12.2.1 then
 (K .ret (T_spec_CodeOk_lp0_e0 code2))
 else
 (bif inb i5 (List.length code2) then
 (bif (List.getD code2 (Int.toNat i5) ((0 : Int), ((0 : Int), ((0 : Int), (0 : Int))))).1 == (8 : Int) then
 (bif decide ((iadd .i64 d3 (1 : Int)) < (0 : Int)) then
 (K .ret (T_spec_CodeOk_lp0_e0 code2))
 else
 (T_spec_CodeOk_lp0_m N n (T_spec_CodeOk_lp0_sh code2 (iadd .i64 d3 (1 : Int)) forks4 (iadd .i64 i5 (1 : Int))) K))
 else
 (bif (List.getD code2 (Int.toNat i5) ((0 : Int), ((0 : Int), ((0 : Int), (0 : Int))))).1 == (9 : Int) then
 (bif decide ((isub .i64 d3 (1 : Int)) < (0 : Int)) then
 (K .ret (T_spec_CodeOk_lp0_e0 code2))
 else
 (T_spec_CodeOk_lp0_m N n (T_spec_CodeOk_lp0_sh code2 (isub .i64 d3 (1 : Int)) forks4 (iadd .i64 i5 (1 : Int))) K))
 else
 (bif (List.getD code2 (Int.toNat i5) ((0 : Int), ((0 : Int), ((0 : Int), (0 : Int))))).1 == (7 : Int) then
 ((T_spec_l5Skip N code2 i5).bind fun o13 =>
 (bif !o13.2.1 then
 (K .ret (T_spec_CodeOk_lp0_e0 code2))
 else
 (bif decide (d3 < (0 : Int)) then
 (K .ret (T_spec_CodeOk_lp0_e0 code2))
 else
 (T_spec_CodeOk_lp0_m N n (T_spec_CodeOk_lp0_sh code2 d3 forks4 (iadd .i64 i5 (1 : Int))) K))))
 else
 (bif (List.getD code2 (Int.toNat i5) ((0 : Int), ((0 : Int), ((0 : Int), (0 : Int))))).1 == (11 : Int) then
 (bif decide (d3 > (0 : Int)) then
 (K .ret (T_spec_CodeOk_lp0_e0 code2))
 else
 (bif decide ((iadd .i64 forks4 (1 : Int)) > (1 : Int)) then
 (K .ret (T_spec_CodeOk_lp0_e0 code2))
 else
 (bif decide (d3 < (0 : Int)) then
 (K .ret (T_spec_CodeOk_lp0_e0 code2))
 else
 (T_spec_CodeOk_lp0_m N n (T_spec_CodeOk_lp0_sh code2 d3 (iadd .i64 forks4 (1 : Int)) (iadd .i64 i5 (1 : Int))) K))))
 else
 (bif decide (d3 < (0 : Int)) then
 (K .ret (T_spec_CodeOk_lp0_e0 code2))
 else
 (T_spec_CodeOk_lp0_m N n (T_spec_CodeOk_lp0_sh code2 d3 forks4 (iadd .i64 i5 (1 : Int))) K)))))) else none))) else none)
 else
 (K (.exit 0) (T_spec_CodeOk_lp0_e1 code2 d3 forks4 i5 (decide (i5 < (ilen code2)))))) := by kernel_rfl

theorem T_spec_CodeOk_lp0_eq (N : Nat) {R : Type} (code2 : List (Int × Int × Int × Int)) (K : Ex → St → Option R) : ∀ (n : Nat) (d3 : Int) (forks4 : Int) (i5 : Int), T_spec_CodeOk_lp0_m N n (T_spec_CodeOk_lp0_sh code2 d3 forks4 i5) K = T_spec_CodeOk_lp0 N code2 (K .ret (T_spec_CodeOk_lp0_e0 code2)) (fun d8 forks9 i10 t11 => (K (.exit 0) (T_spec_CodeOk_lp0_e1 code2 d8 forks9 i10 t11))) n d3 forks4 i5
  | 0, _, _, _ => rfl
  | n + 1, d3, forks4, i5 => by rw [T_spec_CodeOk_lp0_step, T_spec_CodeOk_lp0]; (try simp only [T_spec_CodeOk_lp0_eq N code2 K n])

theorem T_spec_CodeOk_c1 (N : Nat) (code1 : List (Int × Int × Int × Int)) :
    ((ctxK (R := ODen (T_spec_CodeOk_sg N).ps × RDen (T_spec_CodeOk_sg N).rs) tab (T_spec_CodeOk_ctx N) T_spec_CodeOk_ann N (theCode Try.f144) [1, 1, 1, 1, 0, 1, 0] (retK tab (T_spec_CodeOk_sg N) Try.f144.results.toList some)) .ret (T_spec_CodeOk_lp0_e0 code1)) =
    (some (α := ODen (T_spec_CodeOk_sg N).ps × RDen (T_spec_CodeOk_sg N).rs) ((), (false, ()))) := by kernel_rfl

theorem T_spec_CodeOk_c2 (N : Nat) (code1 : List (Int × Int × Int × Int)) (d14 : Int) (forks15 : Int) (i16 : Int) (t17 : Bool) :
    ((ctxK (R := ODen (T_spec_CodeOk_sg N).ps × RDen (T_spec_CodeOk_sg N).rs) tab (T_spec_CodeOk_ctx N) T_spec_CodeOk_ann N (theCode Try.f144) [1, 1, 1, 1, 0, 1, 0] (retK tab (T_spec_CodeOk_sg N) Try.f144.results.toList some)) (.exit 0) (T_spec_CodeOk_lp0_e1 code1 d14 forks15 i16 t17)) =
    (some (α := ODen (T_spec_CodeOk_sg N).ps × RDen (T_spec_CodeOk_sg N).rs) ((), (d14 == (0 : Int), ()))) := by kernel_rfl

theorem T_spec_CodeOk_den (N : Nat) (code1 : List (Int × Int × Int × Int)) :
 den (R := ODen (T_spec_CodeOk_sg N).ps × RDen (T_spec_CodeOk_sg N).rs) tab (T_spec_CodeOk_ctx N) T_spec_CodeOk_ann N (T_spec_CodeOk_sg N) Try.f144 (code1, ()) some =
 (T_spec_CodeOk N code1 : Option (ODen (T_spec_CodeOk_sg N).ps × RDen (T_spec_CodeOk_sg N).rs)) := by
  have h : den (R := ODen (T_spec_CodeOk_sg N).ps × RDen (T_spec_CodeOk_sg N).rs) tab (T_spec_CodeOk_ctx N) T_spec_CodeOk_ann N (T_spec_CodeOk_sg N) Try.f144 (code1, ()) some =
 (bif decide ((ilen code1) > (24 : Int)) then
 (some (α := ODen (T_spec_CodeOk_sg N).ps × RDen (T_spec_CodeOk_sg N).rs) ((), (false, ())))
 else
 (T_spec_CodeOk_lp0_m N N (T_spec_CodeOk_lp0_sh code1 (0 : Int) (0 : Int) (0 : Int)) (ctxK (R := ODen (T_spec_CodeOk_sg N).ps × RDen (T_spec_CodeOk_sg N).rs) tab (T_spec_CodeOk_ctx N) T_spec_CodeOk_ann N (theCode Try.f144) [1, 1, 1, 1, 0, 1, 0] (retK tab (T_spec_CodeOk_sg N) Try.f144.results.toList some)))) := by kernel_rfl
  rw [h]
  (try simp only [T_spec_CodeOk_lp0_eq, T_spec_CodeOk_c1, T_spec_CodeOk_c2]) <;> rfl

theorem T_spec_CodeOk_ok (N : Nat) : chkBody Try.f144 (T_spec_CodeOk_sg N).ps = true := by kernel_rfl

theorem T_spec_CodeOk_callable : Callable Try.prog 144 := callable_of Try.func144 (show chkFn Try.f144 = true by kernel_rfl)

theorem T_spec_CodeOk_good (N : Nat) : Good Try.prog 144 (T_spec_CodeOk_sg N) :=
  good_body mixedOk tabOk (ctx_cons (T_spec_OpOk_good N) T_spec_OpOk_callable (ctx_cons (T_spec_l5Skip_good N) T_spec_l5Skip_callable ctx_nil)) Try.func144 (T_spec_CodeOk_ok N) (fun d _ h => ⟨N, (T_spec_CodeOk_den N d.1).trans h⟩)

noncomputable def T_spec_HasFork_sg (N : Nat) : Sig := Sig.of [.v (.slice (.prod (.int .i64) (.prod (.int .i64) (.prod (.int .i64) (.int .i64))))) false] [.v (.bool) false] (fun d => T_spec_HasFork N d.1)

def T_spec_HasFork_ann : Nat → List Ghost
  | 2 => [.canon [0, 3, 7]]
  | 3 => [.canon [0, 3]]
  | 4 => [.canon [0, 3, 15]]
  | 5 => [.canon [2]]
  | 100002 => [.canon [0, 3]]
  | _ => []

noncomputable def T_spec_HasFork_ctx (N : Nat) : Ctx := []

def T_spec_HasFork_lp0_sh (code2 : List (Int × Int × Int × Int)) (i3 : Int) : St := { env := [(0, .s (.one (.val (.slice (.prod (.int .i64) (.prod (.int .i64) (.prod (.int .i64) (.int .i64))))) (code2 : List (Int × Int × Int × Int))))), (3, .s (.one (.val (.int .i64) (i3 : Int))))], objs := [], nx := 0 }

def T_spec_HasFork_lp0_e0 (code2 : List (Int × Int × Int × Int)) : St := { env := [(2, .s (.one (.val (.bool) (true : Bool))))], objs := [], nx := 0 }

def T_spec_HasFork_lp0_e1 (code2 : List (Int × Int × Int × Int)) (i4 : Int) (t5 : Bool) : St := { env := [(0, .s (.one (.val (.slice (.prod (.int .i64) (.prod (.int .i64) (.prod (.int .i64) (.int .i64))))) (code2 : List (Int × Int × Int × Int))))), (3, .s (.one (.val (.int .i64) (i4 : Int)))), (7, .s (.one (.val (.bool) (t5 : Bool))))], objs := [], nx := 0 }

noncomputable def T_spec_HasFork_lp0_m (N : Nat) {R : Type} (n : Nat) (st : St) (K : Ex → St → Option R) : Option R := loopN (roundG (T_spec_HasFork_ann 100002) fun st k => sx tab (T_spec_HasFork_ctx N) T_spec_HasFork_ann N (nthLoop Try.f145 0) st k) n st K

theorem T_spec_HasFork_lp0_step (N : Nat) {R : Type} (n : Nat) (K : Ex → St → Option R) (code2 : List (Int × Int × Int × Int)) (i3 : Int) :
    T_spec_HasFork_lp0_m N (n + 1) (T_spec_HasFork_lp0_sh code2 i3) K =
    (bif decide (i3 < (ilen code2)) then
 (bif inb i3 (List.length code2) then
 (bif (List.getD code2 (Int.toNat i3) ((0 : Int), ((0 : Int), ((0 : Int), (0 : Int))))).1 == (11 : Int) then
 (K .ret (T_spec_HasFork_lp0_e0 code2))
 else
 (T_spec_HasFork_lp0_m N n (T_spec_HasFork_lp0_sh code2 (iadd .i64 i3 (1 : Int))) K)) else none)
 else
 (K (.exit 0) (T_spec_HasFork_lp0_e1 code2 i3 (decide (i3 < (ilen code2)))))) := by kernel_rfl

theorem T_spec_HasFork_lp0_eq (N : Nat) {R : Type} (code2 : List (Int × Int × Int × Int)) (K : Ex → St → Option R) : ∀ (n : Nat) (i3 : Int), T_spec_HasFork_lp0_m N n (T_spec_HasFork_lp0_sh code2 i3) K = T_spec_HasFork_lp0 N code2 (K .ret (T_spec_HasFork_lp0_e0 code2)) (fun i4 t5 => (K (.exit 0) (T_spec_HasFork_lp0_e1 code2 i4 t5))) n i3
  | 0, _ => rfl
  | n + 1, i3 => by rw [T_spec_HasFork_lp0_step, T_spec_HasFork_lp0]; (try simp only [T_spec_HasFork_lp0_eq N code2 K n])

theorem T_spec_HasFork_c1 (N : Nat) (code1 : List (Int × Int × Int × Int)) :
    ((ctxK (R := ODen (T_spec_HasFork_sg N).ps × RDen (T_spec_HasFork_sg N).rs) tab (T_spec_HasFork_ctx N) T_spec_HasFork_ann N (theCode Try.f145) [1, 0, 1, 0] (retK tab (T_spec_HasFork_sg N) Try.f145.results.toList some)) .ret (T_spec_HasFork_lp0_e0 code1)) =
    (some (α := ODen (T_spec_HasFork_sg N).ps × RDen (T_spec_HasFork_sg N).rs) ((), (true, ()))) := by kernel_rfl

theorem T_spec_HasFork_c2 (N : Nat) (code1 : List (Int × Int × Int × Int)) (i6 : Int) (t7 : Bool) :
    ((ctxK (R := ODen (T_spec_HasFork_sg N).ps × RDen (T_spec_HasFork_sg N).rs) tab (T_spec_HasFork_ctx N) T_spec_HasFork_ann N (theCode Try.f145) [1, 0, 1, 0] (retK tab (T_spec_HasFork_sg N) Try.f145.results.toList some)) (.exit 0) (T_spec_HasFork_lp0_e1 code1 i6 t7)) =
    (some (α := ODen (T_spec_HasFork_sg N).ps × RDen (T_spec_HasFork_sg N).rs) ((), (false, ()))) := by kernel_rfl

theorem T_spec_HasFork_den (N : Nat) (code1 : List (Int × Int × Int × Int)) :
 den (R := ODen (T_spec_HasFork_sg N).ps × RDen (T_spec_HasFork_sg N).rs) tab (T_spec_HasFork_ctx N) T_spec_HasFork_ann N (T_spec_HasFork_sg N) Try.f145 (code1, ()) some =
 (T_spec_HasFork N code1 : Option (ODen (T_spec_HasFork_sg N).ps × RDen (T_spec_HasFork_sg N).rs)) := by
  have h : den (R := ODen (T_spec_HasFork_sg N).ps × RDen (T_spec_HasFork_sg N).rs) tab (T_spec_HasFork_ctx N) T_spec_HasFork_ann N (T_spec_HasFork_sg N) Try.f145 (code1, ()) some =
 (T_spec_HasFork_lp0_m N N (T_spec_HasFork_lp0_sh code1 (0 : Int)) (ctxK (R := ODen (T_spec_HasFork_sg N).ps × RDen (T_spec_HasFork_sg N).rs) tab (T_spec_HasFork_ctx N) T_spec_HasFork_ann N (theCode Try.f145) [1, 0, 1, 0] (retK tab (T_spec_HasFork_sg N) Try.f145.results.toList some))) := by kernel_rfl
  rw [h]
  (try simp only [T_spec_HasFork_lp0_eq, T_spec_HasFork_c1, T_spec_HasFork_c2]) <;> rfl

theorem T_spec_HasFork_ok (N : Nat) : chkBody Try.f145 (T_spec_HasFork_sg N).ps = true := by kernel_rfl

theorem T_spec_HasFork_callable : Callable Try.prog 145 := callable_of Try.func145 (show chkFn Try.f145 = true by kernel_rfl)

theorem T_spec_HasFork_good (N : Nat) : Good Try.prog 145 (T_spec_HasFork_sg N) :=
  good_body mixedOk tabOk ctx_nil Try.func145 (T_spec_HasFork_ok N) (fun d _ h => ⟨N, (T_spec_HasFork_den N d.1).trans h⟩)

noncomputable def T_spec_Touches_sg (N : Nat) : Sig := Sig.of [.v (.prod (.int .i64) (.prod (.int .i64) (.prod (.int .i64) (.int .i64)))) true] [.v (.int .i64) false] (fun d => T_spec_Touches N d.1)

def T_spec_Touches_ann : Nat → List Ghost
  | _ => []

noncomputable def T_spec_Touches_ctx (N : Nat) : Ctx := [(148, T_spec_OpOk_sg N)]

theorem T_spec_Touches_den (N : Nat) (o1 : Int × Int × Int × Int) :
    den (R := ODen (T_spec_Touches_sg N).ps × RDen (T_spec_Touches_sg N).rs) tab (T_spec_Touches_ctx N) T_spec_Touches_ann N (T_spec_Touches_sg N) Try.f146 (o1, ()) some =
    (T_spec_Touches N o1 : Option (ODen (T_spec_Touches_sg N).ps × RDen (T_spec_Touches_sg N).rs)) := by kernel_rfl

theorem T_spec_Touches_ok (N : Nat) : chkBody Try.f146 (T_spec_Touches_sg N).ps = true := by kernel_rfl

theorem T_spec_Touches_callable : Callable Try.prog 146 := callable_of Try.func146 (show chkFn Try.f146 = true by kernel_rfl)

theorem T_spec_Touches_good (N : Nat) : Good Try.prog 146 (T_spec_Touches_sg N) :=
  good_body mixedOk tabOk (ctx_cons (T_spec_OpOk_good N) T_spec_OpOk_callable ctx_nil) Try.func146 (T_spec_Touches_ok N) (fun d _ h => ⟨N, (T_spec_Touches_den N d.1).trans h⟩)

noncomputable def T_spec_KidOk_sg (N : Nat) : Sig := Sig.of [.v (.slice (.prod (.int .i64) (.prod (.int .i64) (.prod (.int .i64) (.int .i64))))) false] [.v (.bool) false] (fun d => T_spec_KidOk N d.1)

def T_spec_KidOk_ann : Nat → List Ghost
  | 4 => [.canon [0, 3, 14]]
  | 5 => [.canon [0, 3]]
  | 6 => [.canon [0, 3, 22]]
  | 7 => [.canon [2]]
  | 100004 => [.canon [0, 3]]
  | _ => []

noncomputable def T_spec_KidOk_ctx (N : Nat) : Ctx := [(144, T_spec_CodeOk_sg N), (145, T_spec_HasFork_sg N), (146, T_spec_Touches_sg N)]

def T_spec_KidOk_lp0_sh (code4 : List (Int × Int × Int × Int)) (i5 : Int) : St := { env := [(0, .s (.one (.val (.slice (.prod (.int .i64) (.prod (.int .i64) (.prod (.int .i64) (.int .i64))))) (code4 : List (Int × Int × Int × Int))))), (3, .s (.one (.val (.int .i64) (i5 : Int))))], objs := [], nx := 0 }

def T_spec_KidOk_lp0_e0 (code4 : List (Int × Int × Int × Int)) : St := { env := [(2, .s (.one (.val (.bool) (false : Bool))))], objs := [], nx := 0 }

def T_spec_KidOk_lp0_e1 (code4 : List (Int × Int × Int × Int)) (i7 : Int) (t8 : Bool) : St := { env := [(0, .s (.one (.val (.slice (.prod (.int .i64) (.prod (.int .i64) (.prod (.int .i64) (.int .i64))))) (code4 : List (Int × Int × Int × Int))))), (3, .s (.one (.val (.int .i64) (i7 : Int)))), (14, .s (.one (.val (.bool) (t8 : Bool))))], objs := [], nx := 0 }

noncomputable def T_spec_KidOk_lp0_m (N : Nat) {R : Type} (n : Nat) (st : St) (K : Ex → St → Option R) : Option R := loopN (roundG (T_spec_KidOk_ann 100004) fun st k => sx tab (T_spec_KidOk_ctx N) T_spec_KidOk_ann N (nthLoop Try.f96 0) st k) n st K

theorem T_spec_KidOk_lp0_step (N : Nat) {R : Type} (n : Nat) (K : Ex → St → Option R) (code4 : List (Int × Int × Int × Int)) (i5 : Int) :
    T_spec_KidOk_lp0_m N (n + 1) (T_spec_KidOk_lp0_sh code4 i5) K =
    (bif decide (i5 < (ilen code4)) then
 (bif inb i5 (List.length code4) then
 ((T_spec_Touches N (List.getD code4 (Int.toNat i5) ((0 : Int), ((0 : Int), ((0 : Int), (0 : Int)))))).bind fun o9 =>
 (bif o9.2.1 == (2 : Int) then
 (K .ret (T_spec_KidOk_lp0_e0 code4))
 else
 (T_spec_KidOk_lp0_m N n (T_spec_KidOk_lp0_sh code4 (iadd .i64 i5 (1 : Int))) K))) else none)
 else
 (K (.exit 0) (T_spec_KidOk_lp0_e1 code4 i5 (decide (i5 < (ilen code4)))))) := by kernel_rfl

theorem T_spec_KidOk_lp0_eq (N : Nat) {R : Type} (code4 : List (Int × Int × Int × Int)) (K : Ex → St → Option R) : ∀ (n : Nat) (i5 : Int), T_spec_KidOk_lp0_m N n (T_spec_KidOk_lp0_sh code4 i5) K = T_spec_KidOk_lp0 N code4 (K .ret (T_spec_KidOk_lp0_e0 code4)) (fun i7 t8 => (K (.exit 0) (T_spec_KidOk_lp0_e1 code4 i7 t8))) n i5
  | 0, _ => rfl
  | n + 1, i5 => by rw [T_spec_KidOk_lp0_step, T_spec_KidOk_lp0]; (try simp only [T_spec_KidOk_lp0_eq N code4 K n])

theorem T_spec_KidOk_c1 (N : Nat) (code1 : List (Int × Int × Int × Int)) :
    ((ctxK (R := ODen (T_spec_KidOk_sg N).ps × RDen (T_spec_KidOk_sg N).rs) tab (T_spec_KidOk_ctx N) T_spec_KidOk_ann N (theCode Try.f96) [1, 1, 0, 1, 0] (retK tab (T_spec_KidOk_sg N) Try.f96.results.toList some)) .ret (T_spec_KidOk_lp0_e0 code1)) =
    (some (α := ODen (T_spec_KidOk_sg N).ps × RDen (T_spec_KidOk_sg N).rs) ((), (false, ()))) := by kernel_rfl

theorem T_spec_KidOk_c2 (N : Nat) (code1 : List (Int × Int × Int × Int)) (i10 : Int) (t11 : Bool) :
    ((ctxK (R := ODen (T_spec_KidOk_sg N).ps × RDen (T_spec_KidOk_sg N).rs) tab (T_spec_KidOk_ctx N) T_spec_KidOk_ann N (theCode Try.f96) [1, 1, 0, 1, 0] (retK tab (T_spec_KidOk_sg N) Try.f96.results.toList some)) (.exit 0) (T_spec_KidOk_lp0_e1 code1 i10 t11)) =
    (some (α := ODen (T_spec_KidOk_sg N).ps × RDen (T_spec_KidOk_sg N).rs) ((), (true, ()))) := by kernel_rfl

theorem T_spec_KidOk_den (N : Nat) (code1 : List (Int × Int × Int × Int)) :
 den (R := ODen (T_spec_KidOk_sg N).ps × RDen (T_spec_KidOk_sg N).rs) tab (T_spec_KidOk_ctx N) T_spec_KidOk_ann N (T_spec_KidOk_sg N) Try.f96 (code1, ()) some =
 (T_spec_KidOk N code1 : Option (ODen (T_spec_KidOk_sg N).ps × RDen (T_spec_KidOk_sg N).rs)) := by
  have h : den (R := ODen (T_spec_KidOk_sg N).ps × RDen (T_spec_KidOk_sg N).rs) tab (T_spec_KidOk_ctx N) T_spec_KidOk_ann N (T_spec_KidOk_sg N) Try.f96 (code1, ()) some =
 ((T_spec_CodeOk N code1).bind fun o2 =>
 (bif !o2.2.1 then
 (some (α := ODen (T_spec_KidOk_sg N).ps × RDen (T_spec_KidOk_sg N).rs) ((), (false, ())))
 else
 ((T_spec_HasFork N code1).bind fun o3 =>
 (bif o3.2.1 then
 (some (α := ODen (T_spec_KidOk_sg N).ps × RDen (T_spec_KidOk_sg N).rs) ((), (false, ())))
 else
 (T_spec_KidOk_lp0_m N N (T_spec_KidOk_lp0_sh code1 (0 : Int)) (ctxK (R := ODen (T_spec_KidOk_sg N).ps × RDen (T_spec_KidOk_sg N).rs) tab (T_spec_KidOk_ctx N) T_spec_KidOk_ann N (theCode Try.f96) [1, 1, 0, 1, 0] (retK tab (T_spec_KidOk_sg N) Try.f96.results.toList some))))))) := by kernel_rfl
  rw [h]
  (try simp only [T_spec_KidOk_lp0_eq, T_spec_KidOk_c1, T_spec_KidOk_c2]) <;> rfl

theorem T_spec_KidOk_ok (N : Nat) : chkBody Try.f96 (T_spec_KidOk_sg N).ps = true := by kernel_rfl

theorem T_spec_KidOk_callable : Callable Try.prog 96 := callable_of Try.func96 (show chkFn Try.f96 = true by kernel_rfl)

theorem T_spec_KidOk_good (N : Nat) : Good Try.prog 96 (T_spec_KidOk_sg N) :=
  good_body mixedOk tabOk (ctx_cons (T_spec_CodeOk_good N) T_spec_CodeOk_callable (ctx_cons (T_spec_HasFork_good N) T_spec_HasFork_callable (ctx_cons (T_spec_Touches_good N) T_spec_Touches_callable ctx_nil))) Try.func96 (T_spec_KidOk_ok N) (fun d _ h => ⟨N, (T_spec_KidOk_den N d.1).trans h⟩)

noncomputable def T_spec_l4Regs_sg (N : Nat) : Sig := Sig.of [.v (.slice (.int .i64)) false] [.v (.bool) false] (fun d => T_spec_l4Regs N d.1)

def T_spec_l4Regs_ann : Nat → List Ghost
  | 4 => [.canon [0, 3, 10]]
  | 5 => [.canon [0, 3]]
  | 6 => [.canon [0, 3, 18]]
  | 7 => [.canon [2]]
  | 100004 => [.canon [0, 3]]
  | _ => []

noncomputable def T_spec_l4Regs_ctx (N : Nat) : Ctx := [(134, T_spec_l3Val_sg N)]

def T_spec_l4Regs_lp0_sh (l2 : List Int) (i3 : Int) : St := { env := [(0, .s (.one (.val (.slice (.int .i64)) (l2 : List Int)))), (3, .s (.one (.val (.int .i64) (i3 : Int))))], objs := [], nx := 0 }

def T_spec_l4Regs_lp0_e0 (l2 : List Int) : St := { env := [(2, .s (.one (.val (.bool) (false : Bool))))], objs := [], nx := 0 }

def T_spec_l4Regs_lp0_e1 (l2 : List Int) (i5 : Int) (t6 : Bool) : St := { env := [(0, .s (.one (.val (.slice (.int .i64)) (l2 : List Int)))), (3, .s (.one (.val (.int .i64) (i5 : Int)))), (10, .s (.one (.val (.bool) (t6 : Bool))))], objs := [], nx := 0 }

noncomputable def T_spec_l4Regs_lp0_m (N : Nat) {R : Type} (n : Nat) (st : St) (K : Ex → St → Option R) : Option R := loopN (roundG (T_spec_l4Regs_ann 100004) fun st k => sx tab (T_spec_l4Regs_ctx N) T_spec_l4Regs_ann N (nthLoop Try.f97 0) st k) n st K

theorem T_spec_l4Regs_lp0_step (N : Nat) {R : Type} (n : Nat) (K : Ex → St → Option R) (l2 : List Int) (i3 : Int) :
    T_spec_l4Regs_lp0_m N (n + 1) (T_spec_l4Regs_lp0_sh l2 i3) K =
    (bif decide (i3 < (ilen l2)) then
 (bif inb i3 (List.length l2) then
 ((T_spec_l3Val N (List.getD l2 (Int.toNat i3) (0 : Int))).bind fun o7 =>
 (bif !o7.2.1 then
 (K .ret (T_spec_l4Regs_lp0_e0 l2))
 else
 (T_spec_l4Regs_lp0_m N n (T_spec_l4Regs_lp0_sh l2 (iadd .i64 i3 (1 : Int))) K))) else none)
 else
 (K (.exit 0) (T_spec_l4Regs_lp0_e1 l2 i3 (decide (i3 < (ilen l2)))))) := by kernel_rfl

theorem T_spec_l4Regs_lp0_eq (N : Nat) {R : Type} (l2 : List Int) (K : Ex → St → Option R) : ∀ (n : Nat) (i3 : Int), T_spec_l4Regs_lp0_m N n (T_spec_l4Regs_lp0_sh l2 i3) K = T_spec_l4Regs_lp0 N l2 (K .ret (T_spec_l4Regs_lp0_e0 l2)) (fun i5 t6 => (K (.exit 0) (T_spec_l4Regs_lp0_e1 l2 i5 t6))) n i3
  | 0, _ => rfl
  | n + 1, i3 => by rw [T_spec_l4Regs_lp0_step, T_spec_l4Regs_lp0]; (try simp only [T_spec_l4Regs_lp0_eq N l2 K n])

theorem T_spec_l4Regs_c1 (N : Nat) (l1 : List Int) :
    ((ctxK (R := ODen (T_spec_l4Regs_sg N).ps × RDen (T_spec_l4Regs_sg N).rs) tab (T_spec_l4Regs_ctx N) T_spec_l4Regs_ann N (theCode Try.f97) [1, 1, 0, 1, 0] (retK tab (T_spec_l4Regs_sg N) Try.f97.results.toList some)) .ret (T_spec_l4Regs_lp0_e0 l1)) =
    (some (α := ODen (T_spec_l4Regs_sg N).ps × RDen (T_spec_l4Regs_sg N).rs) ((), (false, ()))) := by kernel_rfl

theorem T_spec_l4Regs_c2 (N : Nat) (l1 : List Int) (i8 : Int) (t9 : Bool) :
    ((ctxK (R := ODen (T_spec_l4Regs_sg N).ps × RDen (T_spec_l4Regs_sg N).rs) tab (T_spec_l4Regs_ctx N) T_spec_l4Regs_ann N (theCode Try.f97) [1, 1, 0, 1, 0] (retK tab (T_spec_l4Regs_sg N) Try.f97.results.toList some)) (.exit 0) (T_spec_l4Regs_lp0_e1 l1 i8 t9)) =
    (some (α := ODen (T_spec_l4Regs_sg N).ps × RDen (T_spec_l4Regs_sg N).rs) ((), (true, ()))) := by kernel_rfl

theorem T_spec_l4Regs_den (N : Nat) (l1 : List Int) :
 den (R := ODen (T_spec_l4Regs_sg N).ps × RDen (T_spec_l4Regs_sg N).rs) tab (T_spec_l4Regs_ctx N) T_spec_l4Regs_ann N (T_spec_l4Regs_sg N) Try.f97 (l1, ()) some =
 (T_spec_l4Regs N l1 : Option (ODen (T_spec_l4Regs_sg N).ps × RDen (T_spec_l4Regs_sg N).rs)) := by
  have h : den (R := ODen (T_spec_l4Regs_sg N).ps × RDen (T_spec_l4Regs_sg N).rs) tab (T_spec_l4Regs_ctx N) T_spec_l4Regs_ann N (T_spec_l4Regs_sg N) Try.f97 (l1, ()) some =
 (bif (ilen l1) != (4 : Int) then
 (some (α := ODen (T_spec_l4Regs_sg N).ps × RDen (T_spec_l4Regs_sg N).rs) ((), (false, ())))
 else
 (T_spec_l4Regs_lp0_m N N (T_spec_l4Regs_lp0_sh l1 (0 : Int)) (ctxK (R := ODen (T_spec_l4Regs_sg N).ps × RDen (T_spec_l4Regs_sg N).rs) tab (T_spec_l4Regs_ctx N) T_spec_l4Regs_ann N (theCode Try.f97) [1, 1, 0, 1, 0] (retK tab (T_spec_l4Regs_sg N) Try.f97.results.toList some)))) := by kernel_rfl
  rw [h]
  (try simp only [T_spec_l4Regs_lp0_eq, T_spec_l4Regs_c1, T_spec_l4Regs_c2]) <;> rfl

theorem T_spec_l4Regs_ok (N : Nat) : chkBody Try.f97 (T_spec_l4Regs_sg N).ps = true := by kernel_rfl

theorem T_spec_l4Regs_callable : Callable Try.prog 97 := callable_of Try.func97 (show chkFn Try.f97 = true by kernel_rfl)

theorem T_spec_l4Regs_good (N : Nat) : Good Try.prog 97 (T_spec_l4Regs_sg N) :=
  good_body mixedOk tabOk (ctx_cons (T_spec_l3Val_good N) T_spec_l3Val_callable ctx_nil) Try.func97 (T_spec_l4Regs_ok N) (fun d _ h => ⟨N, (T_spec_l4Regs_den N d.1).trans h⟩)

noncomputable def T_spec_l3Vals_sg (N : Nat) : Sig := Sig.of [.v (.slice (.int .i64)) false] [.v (.bool) false] (fun d => T_spec_l3Vals N d.1)

def T_spec_l3Vals_ann : Nat → List Ghost
  | 4 => [.canon [0, 3, 10]]
  | 5 => [.canon [0, 3]]
  | 6 => [.canon [0, 3, 18]]
  | 7 => [.canon [2]]
  | 100004 => [.canon [0, 3]]
  | _ => []

noncomputable def T_spec_l3Vals_ctx (N : Nat) : Ctx := [(134, T_spec_l3Val_sg N)]

def T_spec_l3Vals_lp0_sh (l2 : List Int) (i3 : Int) : St := { env := [(0, .s (.one (.val (.slice (.int .i64)) (l2 : List Int)))), (3, .s (.one (.val (.int .i64) (i3 : Int))))], objs := [], nx := 0 }

def T_spec_l3Vals_lp0_e0 (l2 : List Int) : St := { env := [(2, .s (.one (.val (.bool) (false : Bool))))], objs := [], nx := 0 }

def T_spec_l3Vals_lp0_e1 (l2 : List Int) (i5 : Int) (t6 : Bool) : St := { env := [(0, .s (.one (.val (.slice (.int .i64)) (l2 : List Int)))), (3, .s (.one (.val (.int .i64) (i5 : Int)))), (10, .s (.one (.val (.bool) (t6 : Bool))))], objs := [], nx := 0 }

noncomputable def T_spec_l3Vals_lp0_m (N : Nat) {R : Type} (n : Nat) (st : St) (K : Ex → St → Option R) : Option R := loopN (roundG (T_spec_l3Vals_ann 100004) fun st k => sx tab (T_spec_l3Vals_ctx N) T_spec_l3Vals_ann N (nthLoop Try.f93 0) st k) n st K

theorem T_spec_l3Vals_lp0_step (N : Nat) {R : Type} (n : Nat) (K : Ex → St → Option R) (l2 : List Int) (i3 : Int) :
    T_spec_l3Vals_lp0_m N (n + 1) (T_spec_l3Vals_lp0_sh l2 i3) K =
    (bif decide (i3 < (ilen l2)) then
 (bif inb i3 (List.length l2) then
 ((T_spec_l3Val N (List.getD l2 (Int.toNat i3) (0 : Int))).bind fun o7 =>
 (bif !o7.2.1 then
 (K .ret (T_spec_l3Vals_lp0_e0 l2))
 else
 (T_spec_l3Vals_lp0_m N n (T_spec_l3Vals_lp0_sh l2 (iadd .i64 i3 (1 : Int))) K))) else none)
 else
 (K (.exit 0) (T_spec_l3Vals_lp0_e1 l2 i3 (decide (i3 < (ilen l2)))))) := by kernel_rfl

theorem T_spec_l3Vals_lp0_eq (N : Nat) {R : Type} (l2 : List Int) (K : Ex → St → Option R) : ∀ (n : Nat) (i3 : Int), T_spec_l3Vals_lp0_m N n (T_spec_l3Vals_lp0_sh l2 i3) K = T_spec_l3Vals_lp0 N l2 (K .ret (T_spec_l3Vals_lp0_e0 l2)) (fun i5 t6 => (K (.exit 0) (T_spec_l3Vals_lp0_e1 l2 i5 t6))) n i3
  | 0, _ => rfl
  | n + 1, i3 => by rw [T_spec_l3Vals_lp0_step, T_spec_l3Vals_lp0]; (try simp only [T_spec_l3Vals_lp0_eq N l2 K n])

theorem T_spec_l3Vals_c1 (N : Nat) (l1 : List Int) :
    ((ctxK (R := ODen (T_spec_l3Vals_sg N).ps × RDen (T_spec_l3Vals_sg N).rs) tab (T_spec_l3Vals_ctx N) T_spec_l3Vals_ann N (theCode Try.f93) [1, 1, 0, 1, 0] (retK tab (T_spec_l3Vals_sg N) Try.f93.results.toList some)) .ret (T_spec_l3Vals_lp0_e0 l1)) =
    (some (α := ODen (T_spec_l3Vals_sg N).ps × RDen (T_spec_l3Vals_sg N).rs) ((), (false, ()))) := by kernel_rfl

theorem T_spec_l3Vals_c2 (N : Nat) (l1 : List Int) (i8 : Int) (t9 : Bool) :
    ((ctxK (R := ODen (T_spec_l3Vals_sg N).ps × RDen (T_spec_l3Vals_sg N).rs) tab (T_spec_l3Vals_ctx N) T_spec_l3Vals_ann N (theCode Try.f93) [1, 1, 0, 1, 0] (retK tab (T_spec_l3Vals_sg N) Try.f93.results.toList some)) (.exit 0) (T_spec_l3Vals_lp0_e1 l1 i8 t9)) =
    (some (α := ODen (T_spec_l3Vals_sg N).ps × RDen (T_spec_l3Vals_sg N).rs) ((), (true, ()))) := by kernel_rfl

theorem T_spec_l3Vals_den (N : Nat) (l1 : List Int) :
 den (R := ODen (T_spec_l3Vals_sg N).ps × RDen (T_spec_l3Vals_sg N).rs) tab (T_spec_l3Vals_ctx N) T_spec_l3Vals_ann N (T_spec_l3Vals_sg N) Try.f93 (l1, ()) some =
 (T_spec_l3Vals N l1 : Option (ODen (T_spec_l3Vals_sg N).ps × RDen (T_spec_l3Vals_sg N).rs)) := by
  have h : den (R := ODen (T_spec_l3Vals_sg N).ps × RDen (T_spec_l3Vals_sg N).rs) tab (T_spec_l3Vals_ctx N) T_spec_l3Vals_ann N (T_spec_l3Vals_sg N) Try.f93 (l1, ()) some =
 (bif (ilen l1) != (8 : Int) then
 (some (α := ODen (T_spec_l3Vals_sg N).ps × RDen (T_spec_l3Vals_sg N).rs) ((), (false, ())))
 else
 (T_spec_l3Vals_lp0_m N N (T_spec_l3Vals_lp0_sh l1 (0 : Int)) (ctxK (R := ODen (T_spec_l3Vals_sg N).ps × RDen (T_spec_l3Vals_sg N).rs) tab (T_spec_l3Vals_ctx N) T_spec_l3Vals_ann N (theCode Try.f93) [1, 1, 0, 1, 0] (retK tab (T_spec_l3Vals_sg N) Try.f93.results.toList some)))) := by kernel_rfl
  rw [h]
  (try simp only [T_spec_l3Vals_lp0_eq, T_spec_l3Vals_c1, T_spec_l3Vals_c2]) <;> rfl

theorem T_spec_l3Vals_ok (N : Nat) : chkBody Try.f93 (T_spec_l3Vals_sg N).ps = true := by kernel_rfl

theorem T_spec_l3Vals_callable : Callable Try.prog 93 := callable_of Try.func93 (show chkFn Try.f93 = true by kernel_rfl)

theorem T_spec_l3Vals_good (N : Nat) : Good Try.prog 93 (T_spec_l3Vals_sg N) :=
  good_body mixedOk tabOk (ctx_cons (T_spec_l3Val_good N) T_spec_l3Val_callable ctx_nil) Try.func93 (T_spec_l3Vals_ok N) (fun d _ h => ⟨N, (T_spec_l3Vals_den N d.1).trans h⟩)

noncomputable def T_spec_l7Copy_sg (N : Nat) : Sig := Sig.of [.v (.prod (.slice (.int .i64)) (.prod (.slice (.int .i64)) (.int .i64))) true] [.v (.prod (.own (.int .i64)) (.prod (.own (.int .i64)) (.int .i64))) true] (fun d => T_spec_l7Copy N d.1)

def T_spec_l7Copy_ann : Nat → List Ghost
  | _ => []

noncomputable def T_spec_l7Copy_ctx (N : Nat) : Ctx := []

theorem T_spec_l7Copy_den (N : Nat) (s1 : List Int × List Int × Int) :
    den (R := ODen (T_spec_l7Copy_sg N).ps × RDen (T_spec_l7Copy_sg N).rs) tab (T_spec_l7Copy_ctx N) T_spec_l7Copy_ann N (T_spec_l7Copy_sg N) Try.f160 (s1, ()) some =
    (T_spec_l7Copy N s1 : Option (ODen (T_spec_l7Copy_sg N).ps × RDen (T_spec_l7Copy_sg N).rs)) := by kernel_rfl

theorem T_spec_l7Copy_ok (N : Nat) : chkBody Try.f160 (T_spec_l7Copy_sg N).ps = true := by kernel_rfl

theorem T_spec_l7Copy_callable : Callable Try.prog 160 := callable_of Try.func160 (show chkFn Try.f160 = true by kernel_rfl)

theorem T_spec_l7Copy_good (N : Nat) : Good Try.prog 160 (T_spec_l7Copy_sg N) :=
  good_body mixedOk tabOk ctx_nil Try.func160 (T_spec_l7Copy_ok N) (fun d _ h => ⟨N, (T_spec_l7Copy_den N d.1).trans h⟩)

noncomputable def T_spec_EndOf_sg (N : Nat) : Sig := Sig.of [.v (.slice (.prod (.int .i64) (.prod (.int .i64) (.prod (.int .i64) (.int .i64))))) false, .v (.int .i64) false] [.v (.int .i64) false] (fun d => T_spec_EndOf N d.1 d.2.1)

def T_spec_EndOf_ann : Nat → List Ghost
  | 5 => [.canon [0, 5, 6, 27]]
  | 6 => [.canon [0, 5, 6]]
  | 7 => [.canon [0, 5, 6, 35]]
  | 8 => [.canon [0, 5, 6]]
  | 9 => [.canon [0, 5, 6, 43]]
  | 10 => [.canon [0, 5, 6]]
  | 11 => [.canon [0, 5, 6, 47]]
  | 12 => [.canon [4]]
  | 100005 => [.canon [0, 5, 6]]
  | _ => []

noncomputable def T_spec_EndOf_ctx (N : Nat) : Ctx := []

def T_spec_EndOf_lp0_sh (code3 : List (Int × Int × Int × Int)) (d4 : Int) (k5 : Int) : St := { env := [(0, .s (.one (.val (.slice (.prod (.int .i64) (.prod (.int .i64) (.prod (.int .i64) (.int .i64))))) (code3 : List (Int × Int × Int × Int))))), (5, .s (.one (.val (.int .i64) (d4 : Int)))), (6, .s (.one (.val (.int .i64) (k5 : Int))))], objs := [], nx := 0 }

def T_spec_EndOf_lp0_e0 (code3 : List (Int × Int × Int × Int)) (t6 : Int) : St := { env := [(4, .s (.one (.val (.int .i64) (t6 : Int))))], objs := [], nx := 0 }

def T_spec_EndOf_lp0_e1 (code3 : List (Int × Int × Int × Int)) (d7 : Int) (k8 : Int) (t9 : Bool) : St := { env := [(0, .s (.one (.val (.slice (.prod (.int .i64) (.prod (.int .i64) (.prod (.int .i64) (.int .i64))))) (code3 : List (Int × Int × Int × Int))))), (5, .s (.one (.val (.int .i64) (d7 : Int)))), (6, .s (.one (.val (.int .i64) (k8 : Int)))), (27, .s (.one (.val (.bool) (t9 : Bool))))], objs := [], nx := 0 }

noncomputable def T_spec_EndOf_lp0_m (N : Nat) {R : Type} (n : Nat) (st : St) (K : Ex → St → Option R) : Option R := loopN (roundG (T_spec_EndOf_ann 100005) fun st k => sx tab (T_spec_EndOf_ctx N) T_spec_EndOf_ann N (nthLoop Try.f100 0) st k) n st K

theorem T_spec_EndOf_lp0_step (N : Nat) {R : Type} (n : Nat) (K : Ex → St → Option R) (code3 : List (Int × Int × Int × Int)) (d4 : Int) (k5 : Int) :
    T_spec_EndOf_lp0_m N (n + 1) (T_spec_EndOf_lp0_sh code3 d4 k5) K =
    (bif decide (k5 < (ilen code3)) then
 (bif inb k5 (List.length code3) then
 (bif (List.getD code3 (Int.toNat k5) ((0 : Int), ((0 : Int), ((0 : Int), (0 : Int))))).1 == (8 : Int) then
 (bif inb k5 (List.length code3) then
 (bif (List.getD code3 (Int.toNat k5) ((0 : Int), ((0 : Int), ((0 : Int), (0 : Int))))).1 == (9 : Int) then
 (bif (isub .i64 (iadd .i64 d4 (1 : Int)) (1 : Int)) == (0 : Int) then
 (K .ret (T_spec_EndOf_lp0_e0 code3 k5))
 else
 (T_spec_EndOf_lp0_m N n (T_spec_EndOf_lp0_sh code3 (isub .i64 (iadd .i64 d4 (1 : Int)) (1 : Int)) (iadd .i64 k5 (1 : Int))) K))
 else
 (bif (iadd .i64 d4 (1 : Int)) == (0 : Int) then
 (K .ret (T_spec_EndOf_lp0_e0 code3 k5))
 else
 (T_spec_EndOf_lp0_m N n (T_spec_EndOf_lp0_sh code3 (iadd .i64 d4 (1 : Int)) (iadd .i64 k5 (1 : Int))) K))) else none)
 else
 (bif inb k5 (List.length code3) then
 (bif (List.getD code3 (Int.toNat k5) ((0 : Int), ((0 : Int), ((0 : Int), (0 : Int))))).1 == (9 : Int) then
 (bif (isub .i64 d4 (1 : Int)) == (0 : Int) then
 (K .ret (T_spec_EndOf_lp0_e0 code3 k5))
 else
 (T_spec_EndOf_lp0_m N n (T_spec_EndOf_lp0_sh code3 (isub .i64 d4 (1 : Int)) (iadd .i64 k5 (1 : Int))) K))
 else
 (bif d4 == (0 : Int) then
 (K .ret (T_spec_EndOf_lp0_e0 code3 k5))
 else
 (T_spec_EndOf_lp0_m N n (T_spec_EndOf_lp0_sh code3 d4 (iadd .i64 k5 (1 : Int))) K))) else none)) else none)
 else
 (K (.exit 0) (T_spec_EndOf_lp0_e1 code3 d4 k5 (decide (k5 < (ilen code3)))))) := by kernel_rfl

theorem T_spec_EndOf_lp0_eq (N : Nat) {R : Type} (code3 : List (Int × Int × Int × Int)) (K : Ex → St → Option R) : ∀ (n : Nat) (d4 : Int) (k5 : Int), T_spec_EndOf_lp0_m N n (T_spec_EndOf_lp0_sh code3 d4 k5) K = T_spec_EndOf_lp0 N code3 (fun t6 => (K .ret (T_spec_EndOf_lp0_e0 code3 t6))) (fun d7 k8 t9 => (K (.exit 0) (T_spec_EndOf_lp0_e1 code3 d7 k8 t9))) n d4 k5
  | 0, _, _ => rfl
  | n + 1, d4, k5 => by rw [T_spec_EndOf_lp0_step, T_spec_EndOf_lp0]; (try simp only [T_spec_EndOf_lp0_eq N code3 K n])

theorem T_spec_EndOf_c1 (N : Nat) (code1 : List (Int × Int × Int × Int)) (t10 : Int) :
    ((ctxK (R := ODen (T_spec_EndOf_sg N).ps × RDen (T_spec_EndOf_sg N).rs) tab (T_spec_EndOf_ctx N) T_spec_EndOf_ann N (theCode Try.f100) [1, 1, 1, 0, 1, 0] (retK tab (T_spec_EndOf_sg N) Try.f100.results.toList some)) .ret (T_spec_EndOf_lp0_e0 code1 t10)) =
    (some (α := ODen (T_spec_EndOf_sg N).ps × RDen (T_spec_EndOf_sg N).rs) ((), (t10, ()))) := by kernel_rfl

theorem T_spec_EndOf_c2 (N : Nat) (code1 : List (Int × Int × Int × Int)) (d11 : Int) (k12 : Int) (t13 : Bool) :
    ((ctxK (R := ODen (T_spec_EndOf_sg N).ps × RDen (T_spec_EndOf_sg N).rs) tab (T_spec_EndOf_ctx N) T_spec_EndOf_ann N (theCode Try.f100) [1, 1, 1, 0, 1, 0] (retK tab (T_spec_EndOf_sg N) Try.f100.results.toList some)) (.exit 0) (T_spec_EndOf_lp0_e1 code1 d11 k12 t13)) =
    (some (α := ODen (T_spec_EndOf_sg N).ps × RDen (T_spec_EndOf_sg N).rs) ((), ((-1 : Int), ()))) := by kernel_rfl

theorem T_spec_EndOf_den (N : Nat) (code1 : List (Int × Int × Int × Int)) (i2 : Int) :
 den (R := ODen (T_spec_EndOf_sg N).ps × RDen (T_spec_EndOf_sg N).rs) tab (T_spec_EndOf_ctx N) T_spec_EndOf_ann N (T_spec_EndOf_sg N) Try.f100 (code1, i2, ()) some =
 (T_spec_EndOf N code1 i2 : Option (ODen (T_spec_EndOf_sg N).ps × RDen (T_spec_EndOf_sg N).rs)) := by
  have h : den (R := ODen (T_spec_EndOf_sg N).ps × RDen (T_spec_EndOf_sg N).rs) tab (T_spec_EndOf_ctx N) T_spec_EndOf_ann N (T_spec_EndOf_sg N) Try.f100 (code1, i2, ()) some =
 (bif decide (i2 < (0 : Int)) then
 (some (α := ODen (T_spec_EndOf_sg N).ps × RDen (T_spec_EndOf_sg N).rs) ((), ((-1 : Int), ())))
 else
 (bif decide (i2 ≥ (ilen code1)) then
 (some (α := ODen (T_spec_EndOf_sg N).ps × RDen (T_spec_EndOf_sg N).rs) ((), ((-1 : Int), ())))
 else
 (bif inb i2 (List.length code1) then
 (bif (List.getD code1 (Int.toNat i2) ((0 : Int), ((0 : Int), ((0 : Int), (0 : Int))))).1 != (8 : Int) then
 (some (α := ODen (T_spec_EndOf_sg N).ps × RDen (T_spec_EndOf_sg N).rs) ((), ((-1 : Int), ())))
 else
 (T_spec_EndOf_lp0_m N N (T_spec_EndOf_lp0_sh code1 (0 : Int) i2) (ctxK (R := ODen (T_spec_EndOf_sg N).ps × RDen (T_spec_EndOf_sg N).rs) tab (T_spec_EndOf_ctx N) T_spec_EndOf_ann N (theCode Try.f100) [1, 1, 1, 0, 1, 0] (retK tab (T_spec_EndOf_sg N) Try.f100.results.toList some)))) else none))) := by kernel_rfl
  rw [h]
  (try simp only [T_spec_EndOf_lp0_eq, T_spec_EndOf_c1, T_spec_EndOf_c2]) <;> rfl

theorem T_spec_EndOf_ok (N : Nat) : chkBody Try.f100 (T_spec_EndOf_sg N).ps = true := by kernel_rfl

theorem T_spec_EndOf_callable : Callable Try.prog 100 := callable_of Try.func100 (show chkFn Try.f100 = true by kernel_rfl)

theorem T_spec_EndOf_good (N : Nat) : Good Try.prog 100 (T_spec_EndOf_sg N) :=
  good_body mixedOk tabOk ctx_nil Try.func100 (T_spec_EndOf_ok N) (fun d _ h => ⟨N, (T_spec_EndOf_den N d.1 d.2.1).trans h⟩)

noncomputable def T_spec_Calc_sg (N : Nat) : Sig := Sig.of [.v (.prod (.int .i64) (.prod (.int .i64) (.prod (.int .i64) (.int .i64)))) true, .v (.slice (.int .i64)) false] [.v (.own (.int .i64)) false, .v (.bool) false] (fun d => T_spec_Calc N d.1 d.2.1)

def T_spec_Calc_ann : Nat → List Ghost
  | _ => []

noncomputable def T_spec_Calc_ctx (N : Nat) : Ctx := [(148, T_spec_OpOk_sg N), (97, T_spec_l4Regs_sg N)]

theorem T_spec_Calc_den (N : Nat) (o1 : Int × Int × Int × Int) (regs2 : List Int) :
    den (R := ODen (T_spec_Calc_sg N).ps × RDen (T_spec_Calc_sg N).rs) tab (T_spec_Calc_ctx N) T_spec_Calc_ann N (T_spec_Calc_sg N) Try.f101 (o1, regs2, ()) some =
    (T_spec_Calc N o1 regs2 : Option (ODen (T_spec_Calc_sg N).ps × RDen (T_spec_Calc_sg N).rs)) := by kernel_rfl

theorem T_spec_Calc_ok (N : Nat) : chkBody Try.f101 (T_spec_Calc_sg N).ps = true := by kernel_rfl

theorem T_spec_Calc_callable : Callable Try.prog 101 := callable_of Try.func101 (show chkFn Try.f101 = true by kernel_rfl)

theorem T_spec_Calc_good (N : Nat) : Good Try.prog 101 (T_spec_Calc_sg N) :=
  good_body mixedOk tabOk (ctx_cons (T_spec_OpOk_good N) T_spec_OpOk_callable (ctx_cons (T_spec_l4Regs_good N) T_spec_l4Regs_callable ctx_nil)) Try.func101 (T_spec_Calc_ok N) (fun d _ h => ⟨N, (T_spec_Calc_den N d.1 d.2.1).trans h⟩)

noncomputable def T_spec_l7Walk_sgr (N m : Nat) : Sig := Sig.of [.v (.slice (.prod (.int .i64) (.prod (.int .i64) (.prod (.int .i64) (.int .i64))))) false, .v (.slice (.slice (.prod (.int .i64) (.prod (.int .i64) (.prod (.int .i64) (.int .i64)))))) false, .v (.slice (.int .i64)) false, .v (.slice (.int .i64)) false, .v (.prod (.slice (.int .i64)) (.prod (.slice (.int .i64)) (.int .i64))) true] [.v (.prod (.int .i64) (.prod (.own (.int .i64)) (.prod (.own (.int .i64)) (.prod (.own (.int .i64)) (.int .i64))))) true] (fun d => T_spec_l7Walk_r N m d.1 d.2.1 d.2.2.1 d.2.2.2.1 d.2.2.2.2.1)

noncomputable def T_spec_l7Walk_sg (N : Nat) : Sig := T_spec_l7Walk_sgr N N

def T_spec_l7Walk_ann : Nat → List Ghost
  | 6 => [.canon [0, 1, 2, 3, 9, 10, 11, 12, 13, 37]]
  | 7 => [.canon [0, 1, 2, 3, 9, 10, 11, 12, 13, 14]]
  | 8 => [.canon [0, 1, 2, 3, 9, 10, 11, 12, 13, 14, 15]]
  | 9 => [.canon [0, 1, 2, 3, 9, 10, 11, 12, 13, 14, 15, 45]]
  | 10 => [.canon [0, 1, 2, 9, 10, 11, 12, 15, 24]]
  | 11 => [.canon [0, 1, 2, 3, 9, 10, 11, 12, 15]]
  | 12 => [.canon [0, 1, 2, 3, 9, 10, 11, 12, 13, 14, 15, 45, 53]]
  | 13 => [.canon [0, 1, 2, 3, 9, 10, 11, 12, 15]]
  | 14 => [.canon [0, 1, 2, 3, 9, 10, 11, 12, 13, 14, 15, 45, 65]]
  | 15 => [.canon [0, 1, 2, 3, 9, 10, 11, 12, 15]]
  | 16 => [.canon [0, 1, 2, 3, 9, 10, 11, 12, 13, 14, 15, 45, 77]]
  | 17 => [.canon [0, 1, 2, 3, 9, 10, 11, 12, 14, 15, 84]]
  | 18 => [.canon [0, 1, 2, 3, 9, 10, 11, 12, 15]]
  | 19 => [.canon [0, 1, 2, 3, 9, 10, 11, 12, 13, 14, 15, 45, 89]]
  | 20 => [.canon [0, 1, 2, 3, 9, 10, 11, 12, 15]]
  | 21 => [.canon [0, 1, 2, 3, 9, 10, 11, 12, 14, 15, 45, 101]]
  | 22 => [.canon [0, 1, 2, 3, 9, 10, 11, 12, 15, 16]]
  | 23 => [.canon [0, 1, 2, 3, 9, 10, 11, 12, 15, 16]]
  | 24 => [.canon [0, 1, 2, 3, 9, 10, 11, 12, 15]]
  | 25 => [.canon [0, 1, 2, 3, 9, 10, 11, 12, 14, 15, 45, 122]]
  | 26 => [.canon [0, 1, 2, 3, 9, 10, 11, 12, 126]]
  | 27 => [.canon [10]]
  | 28 => [.canon [0, 1, 2, 9, 10, 11, 12, 17]]
  | 29 => [.canon [0, 1, 2, 9, 10, 11, 12, 17]]
  | 30 => [.canon [0, 1, 2, 3, 9, 10, 11, 12, 17]]
  | 31 => [.canon [0, 1, 2, 3, 9, 10, 11, 12, 17]]
  | 32 => [.canon [0, 1, 2, 3, 9, 10, 11, 12, 17]]
  | 33 => [.canon [0, 1, 2, 3, 9, 10, 11, 12, 15]]
  | 34 => [.canon [0, 1, 2, 3, 9, 10, 11, 12, 14, 15, 45, 161]]
  | 35 => [.canon [0, 1, 2, 3, 9, 10, 11, 12, 15, 18]]
  | 36 => [.canon [0, 1, 2, 3, 9, 10, 11, 12, 15, 18, 19]]
  | 37 => [.canon [0, 1, 2, 3, 9, 10, 11, 12, 15, 18, 19, 169]]
  | 38 => [.canon [0, 1, 2, 3, 9, 10, 11, 12, 15, 18, 19]]
  | 39 => [.canon [0, 1, 2, 3, 9, 10, 11, 12, 15, 18, 19, 20]]
  | 40 => [.canon [0, 1, 2, 3, 9, 10, 11, 12, 15, 18, 19, 20]]
  | 41 => [.canon [0, 1, 2, 3, 9, 10, 11, 12, 15, 18, 19, 20, 187]]
  | 42 => [.canon [0, 1, 2, 3, 9, 10, 11, 12, 15, 18, 19]]
  | 43 => [.canon [0, 1, 2, 3, 9, 10, 11, 12, 15, 18, 21]]
  | 44 => [.canon [0, 1, 2, 3, 9, 10, 11, 12, 15, 18, 21, 201]]
  | 45 => [.canon [0, 1, 2, 3, 9, 10, 11, 12, 15, 18, 21]]
  | 46 => [.canon [0, 1, 2, 3, 9, 10, 11, 12, 15, 18, 21]]
  | 47 => [.canon [0, 1, 2, 3, 9, 10, 11, 12, 14, 15, 45, 211]]
  | 48 => [.canon [0, 1, 2, 3, 9, 10, 11, 12, 14, 15, 22]]
  | 49 => [.canon [0, 1, 2, 3, 9, 10, 11, 12, 14, 15, 22]]
  | 50 => [.canon [0, 1, 2, 3, 9, 10, 11, 12, 15]]
  | 51 => [.canon [0, 1, 2, 3, 9, 10, 11, 12, 14, 15, 45, 236]]
  | 52 => [.canon [0, 1, 2, 3, 9, 10, 11, 12, 15]]
  | 53 => [.canon [0, 1, 2, 3, 9, 10, 11, 12, 14, 15, 45, 249]]
  | 54 => [.canon [0, 1, 2, 3, 9, 10, 11, 12, 14, 15, 23]]
  | 55 => [.canon [0, 1, 2, 3, 9, 10, 11, 12, 14, 15, 23]]
  | 56 => [.canon [0, 1, 2, 3, 9, 10, 11, 12, 15]]
  | 57 => [.canon [0, 1, 2, 3, 9, 10, 11, 12, 14, 15, 45, 268]]
  | 58 => [.canon [0, 1, 2, 3, 9, 10, 11, 12, 15]]
  | 59 => [.canon [0, 1, 2, 3, 9, 10, 11, 12, 14, 15, 280]]
  | 60 => [.canon [0, 1, 2, 3, 9, 10, 11, 12, 15]]
  | 61 => [.canon [0, 1, 2, 3, 9, 10, 11, 12, 13]]
  | 100006 => [.canon [0, 1, 2, 3, 9, 10, 11, 12, 13]]
  | 100037 => [.canon [0, 1, 2, 3, 9, 10, 11, 12, 15, 18, 19]]
  | 100044 => [.canon [0, 1, 2, 3, 9, 10, 11, 12, 15, 18, 21]]
  | _ => []

noncomputable def T_spec_l7Walk_ctx (N m : Nat) : Ctx := [(160, T_spec_l7Copy_sg N), (100, T_spec_EndOf_sg N), (112, T_spec_l7Walk_sgr N m), (101, T_spec_Calc_sg N)]

def T_spec_l7Walk_lp1_sh (code25 : List (Int × Int × Int × Int)) (kids26 : List (List (Int × Int × Int × Int))) (order27 : List Int) (next28 : Int) (i29 : Int) (l30 : List Int) (b31 : Int) (b32 : Int) (b33 : Int) (b34 : Int) (l35 : List (Int × List Int × List Int × List Int × Int)) (l36 : List Int) (l37 : List Int) (l38 : List Int) (l39 : List Int) (l40 : List Int) : St := { env := [(0, .s (.one (.val (.slice (.prod (.int .i64) (.prod (.int .i64) (.prod (.int .i64) (.int .i64))))) (code25 : List (Int × Int × Int × Int))))), (1, .s (.one (.val (.slice (.slice (.prod (.int .i64) (.prod (.int .i64) (.prod (.int .i64) (.int .i64)))))) (kids26 : List (List (Int × Int × Int × Int)))))), (2, .s (.one (.val (.slice (.int .i64)) (order27 : List Int)))), (3, .s (.one (.own 0))), (9, .s (.one (.ptr 1 0))), (10, .s (.one (.ptr 2 0))), (11, .s (.one (.ptr 3 0))), (12, .s (.one (.own 4))), (15, .s (.one (.val (.int .i64) (next28 : Int)))), (18, .s (.one (.own 5))), (19, .s (.one (.val (.int .i64) (i29 : Int))))], objs := [(0, .arr (.int .i64) (l30 : List Int)), (1, .box [.own 6, .own 7, .val (.int .i64) (b31 : Int)]), (2, .box [.val (.int .i64) (b32 : Int), .nils, .nils, .nils, .val (.int .i64) (b33 : Int)]), (3, .box [.own 8, .own 9, .val (.int .i64) (b34 : Int)]), (4, .arr (.prod (.int .i64) (.prod (.slice (.int .i64)) (.prod (.slice (.int .i64)) (.prod (.slice (.int .i64)) (.int .i64))))) (l35 : List (Int × List Int × List Int × List Int × Int))), (5, .arr (.int .i64) (l36 : List Int)), (6, .arr (.int .i64) (l37 : List Int)), (7, .arr (.int .i64) (l38 : List Int)), (8, .arr (.int .i64) (l39 : List Int)), (9, .arr (.int .i64) (l40 : List Int))], nx := 10 }

def T_spec_l7Walk_lp1_e0 (code25 : List (Int × Int × Int × Int)) (kids26 : List (List (Int × Int × Int × Int))) (order27 : List Int) (next28 : Int) (l30 : List Int) (b32 : Int) (b33 : Int) (b34 : Int) (l35 : List (Int × List Int × List Int × List Int × Int)) (l39 : List Int) (l40 : List Int) (i43 : Int) (t44 : Bool) (b45 : Int) (l46 : List Int) (l47 : List Int) (l48 : List Int) : St := { env := [(0, .s (.one (.val (.slice (.prod (.int .i64) (.prod (.int .i64) (.prod (.int .i64) (.int .i64))))) (code25 : List (Int × Int × Int × Int))))), (1, .s (.one (.val (.slice (.slice (.prod (.int .i64) (.prod (.int .i64) (.prod (.int .i64) (.int .i64)))))) (kids26 : List (List (Int × Int × Int × Int)))))), (2, .s (.one (.val (.slice (.int .i64)) (order27 : List Int)))), (3, .s (.one (.own 0))), (9, .s (.one (.ptr 1 0))), (10, .s (.one (.ptr 2 0))), (11, .s (.one (.ptr 3 0))), (12, .s (.one (.own 4))), (15, .s (.one (.val (.int .i64) (next28 : Int)))), (18, .s (.one (.own 5))), (19, .s (.one (.val (.int .i64) (i43 : Int)))), (169, .s (.one (.val (.bool) (t44 : Bool))))], objs := [(0, .arr (.int .i64) (l30 : List Int)), (1, .box [.own 6, .own 7, .val (.int .i64) (b45 : Int)]), (2, .box [.val (.int .i64) (b32 : Int), .nils, .nils, .nils, .val (.int .i64) (b33 : Int)]), (3, .box [.own 8, .own 9, .val (.int .i64) (b34 : Int)]), (4, .arr (.prod (.int .i64) (.prod (.slice (.int .i64)) (.prod (.slice (.int .i64)) (.prod (.slice (.int .i64)) (.int .i64))))) (l35 : List (Int × List Int × List Int × List Int × Int))), (5, .arr (.int .i64) (l46 : List Int)), (6, .arr (.int .i64) (l47 : List Int)), (7, .arr (.int .i64) (l48 : List Int)), (8, .arr (.int .i64) (l39 : List Int)), (9, .arr (.int .i64) (l40 : List Int))], nx := 10 }

noncomputable def T_spec_l7Walk_lp1_m (N m : Nat) {R : Type} (n : Nat) (st : St) (K : Ex → St → Option R) : Option R := loopN (roundG (T_spec_l7Walk_ann 100037) fun st k => sx tab (T_spec_l7Walk_ctx N m) T_spec_l7Walk_ann N (nthLoop Try.f112 1) st k) n st K

theorem T_spec_l7Walk_lp1_step (N m : Nat) {R : Type} (n : Nat) (K : Ex → St → Option R) (code25 : List (Int × Int × Int × Int)) (kids26 : List (List (Int × Int × Int × Int))) (order27 : List Int) (next28 : Int) (i29 : Int) (l30 : List Int) (b31 : Int) (b32 : Int) (b33 : Int) (b34 : Int) (l35 : List (Int × List Int × List Int × List Int × Int)) (l36 : List Int) (l37 : List Int) (l38 : List Int) (l39 : List Int) (l40 : List Int) :
    T_spec_l7Walk_lp1_m N m (n + 1) (T_spec_l7Walk_lp1_sh code25 kids26 order27 next28 i29 l30 b31 b32 b33 b34 l35 l36 l37 l38 l39 l40) K =
    (bif decide (i29 < (ilen order27)) then
 (both
 (bif inb i29 (List.length order27) then
 (bif inb (List.getD order27 (Int.toNat i29) (0 : Int)) (List.length kids26) then
 ((T_spec_l7Walk_r N m (List.getD kids26 (Int.toNat (List.getD order27 (Int.toNat i29) (0 : Int))) ([] : List (Int × Int × Int × Int))) ([] : List (List (Int × Int × Int × Int))) ([] : List Int) l30 (l37, (l38, b31))).bind fun o49 =>
 (bif o49.2.1.1 == (1 : Int) then
 (bif inb i29 (List.length order27) then
 (bif inb (0 : Int) (List.length o49.2.1.2.1) then
 (bif inb (List.getD order27 (Int.toNat i29) (0 : Int)) (List.length l36) then
 (T_spec_l7Walk_lp1_m N m n (T_spec_l7Walk_lp1_sh code25 kids26 order27 next28 (iadd .i64 i29 (1 : Int)) l30 o49.2.1.2.2.2.2 b32 b33 b34 l35 (List.set l36 (Int.toNat (List.getD order27 (Int.toNat i29) (0 : Int))) (List.getD o49.2.1.2.1 (Int.toNat (0 : Int)) (0 : Int))) o49.2.1.2.2.1 o49.2.1.2.2.2.1 l39 l40) K) else none) else none) else none)
 else
 (T_spec_l7Walk_lp1_m N m n (T_spec_l7Walk_lp1_sh code25 kids26 order27 next28 (iadd .i64 i29 (1 : Int)) l30 o49.2.1.2.2.2.2 b32 b33 b34 l35 l36 o49.2.1.2.2.1 o49.2.1.2.2.2.1 l39 l40) K))) else none) else none)
 (bif inb i29 (List.length order27) then
 (bif inb (List.getD order27 (Int.toNat i29) (0 : Int)) (List.length kids26) then
 ((T_spec_l7Walk_r N m (List.getD kids26 (Int.toNat (List.getD order27 (Int.toNat i29) (0 : Int))) ([] : List (Int × Int × Int × Int))) ([] : List (List (Int × Int × Int × Int))) ([] : List Int) l30 (l37, (l38, b31))).bind fun o50 =>
 (bif o50.2.1.1 == (1 : Int) then
 (bif inb i29 (List.length order27) then
 (bif inb (0 : Int) (List.length o50.2.1.2.1) then
 (bif inb (List.getD order27 (Int.toNat i29) (0 : Int)) (List.length l36) then
 (T_spec_l7Walk_lp1_m N m n (T_spec_l7Walk_lp1_sh code25 kids26 order27 next28 (iadd .i64 i29 (1 : Int)) l30 o50.2.1.2.2.2.2 b32 b33 b34 l35 (List.set l36 (Int.toNat (List.getD order27 (Int.toNat i29) (0 : Int))) (List.getD o50.2.1.2.1 (Int.toNat (0 : Int)) (0 : Int))) o50.2.1.2.2.1 o50.2.1.2.2.2.1 l39 l40) K) else none) else none) else none)
 else
 (T_spec_l7Walk_lp1_m N m n (T_spec_l7Walk_lp1_sh code25 kids26 order27 next28 (iadd .i64 i29 (1 : Int)) l30 o50.2.1.2.2.2.2 b32 b33 b34 l35 l36 o50.2.1.2.2.1 o50.2.1.2.2.2.1 l39 l40) K))) else none) else none))
 else
 (K (.exit 3) (T_spec_l7Walk_lp1_e0 code25 kids26 order27 next28 l30 b32 b33 b34 l35 l39 l40 i29 (decide (i29 < (ilen order27))) b31 l36 l37 l38))) := by kernel_rfl

theorem T_spec_l7Walk_lp1_eq (N m : Nat) {R : Type} (code25 : List (Int × Int × Int × Int)) (kids26 : List (List (Int × Int × Int × Int))) (order27 : List Int) (next28 : Int) (l30 : List Int) (b32 : Int) (b33 : Int) (b34 : Int) (l35 : List (Int × List Int × List Int × List Int × Int)) (l39 : List Int) (l40 : List Int) (K : Ex → St → Option R) : ∀ (n : Nat) (i29 : Int) (b31 : Int) (l36 : List Int) (l37 : List Int) (l38 : List Int), T_spec_l7Walk_lp1_m N m n (T_spec_l7Walk_lp1_sh code25 kids26 order27 next28 i29 l30 b31 b32 b33 b34 l35 l36 l37 l38 l39 l40) K = T_spec_l7Walk_lp1 N (T_spec_l7Walk_r N m) code25 kids26 order27 next28 l30 b32 b33 b34 l35 l39 l40 (fun i43 t44 b45 l46 l47 l48 => (K (.exit 3) (T_spec_l7Walk_lp1_e0 code25 kids26 order27 next28 l30 b32 b33 b34 l35 l39 l40 i43 t44 b45 l46 l47 l48))) n i29 b31 l36 l37 l38
  | 0, _, _, _, _, _ => rfl
  | n + 1, i29, b31, l36, l37, l38 => by rw [T_spec_l7Walk_lp1_step, T_spec_l7Walk_lp1]; (try simp only [T_spec_l7Walk_lp1_eq N m code25 kids26 order27 next28 l30 b32 b33 b34 l35 l39 l40 K n])

end Go.Sx
