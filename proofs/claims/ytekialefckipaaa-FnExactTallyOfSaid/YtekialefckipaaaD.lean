/- Each Go function does what its Lean function says. -/
import Derived.Test.YtekialefckipaaaT
import Derived.Test.YtekialefckipaaaProg
namespace Go.Sx
open Go.Proofs
set_option linter.unusedVariables false
set_option linter.unusedSimpArgs false

def tab : Tab := [(3, ⟨.int .i64, false, .basic⟩), (4, ⟨.bool, false, .basic⟩), (23, ⟨.slice (.int .i64), false, .slice 3⟩), (25, ⟨.slice (.prod (.int .i64) (.int .i64)), false, .slice 93⟩), (50, ⟨.slice (.prod (.int .i64) (.prod (.int .i64) (.int .i64))), false, .slice 243⟩), (52, ⟨.prod (.int .i64) (.slice (.prod (.int .i64) (.prod (.int .i64) (.int .i64)))), true, .struct [(0, 3), (1, 50)]⟩), (54, ⟨.prod (.slice (.int .i64)) (.int .i64), true, .struct [(0, 23), (1, 3)]⟩), (55, ⟨.slice (.prod (.int .i64) (.prod (.int .i64) (.int .i64))), false, .slice 208⟩), (56, ⟨.slice (TY_Root), false, .slice 200⟩), (57, ⟨.slice (.prod (.int .i64) (.prod (.int .i64) (.slice (.prod (.int .i64) (.int .i64))))), false, .slice 203⟩), (59, ⟨TY_World, true, .struct [(0, 3), (1, 3), (2, 52), (4, 54), (6, 55), (7, 56), (8, 57)]⟩), (62, ⟨.prod (.int .i64) (.prod (.int .i64) (.prod (.int .i64) (.prod (.int .i64) (.prod (.int .i64) (.prod (.int .i64) (.int .i64)))))), true, .struct [(0, 3), (1, 3), (2, 3), (3, 3), (4, 3), (5, 3), (6, 3)]⟩), (64, ⟨.slice (.prod (.int .i64) (.prod (.int .i64) (.int .i64))), false, .slice 148⟩), (66, ⟨.prod (.int .i64) (.slice (.prod (.int .i64) (.prod (.int .i64) (.int .i64)))), true, .struct [(0, 3), (1, 64)]⟩), (67, ⟨.prod (.slice (.int .i64)) (.int .i64), true, .struct [(0, 23), (1, 3)]⟩), (68, ⟨.slice (.prod (.int .i64) (.prod (.int .i64) (.int .i64))), false, .slice 206⟩), (69, ⟨.slice (TY_Root), false, .slice 145⟩), (70, ⟨.slice (.prod (.int .i64) (.prod (.int .i64) (.slice (.prod (.int .i64) (.int .i64))))), false, .slice 211⟩), (72, ⟨TY_World, true, .struct [(0, 3), (1, 3), (2, 66), (4, 67), (6, 68), (7, 69), (8, 70)]⟩), (93, ⟨.prod (.int .i64) (.int .i64), true, .struct [(0, 3), (1, 3)]⟩), (134, ⟨.slice (.prod (.int .i64) (.prod (.int .i64) (.prod (.int .i64) (.prod (.int .i64) (.slice (.int .i64)))))), false, .slice 276⟩), (135, ⟨.slice (.prod (.int .i64) (.prod (.int .i64) (.int .i64))), false, .slice 279⟩), (137, ⟨.prod (.int .i64) (.prod (.int .i64) (.prod (.int .i64) (.int .i64))), true, .struct [(0, 3), (1, 3), (2, 3), (3, 3)]⟩), (139, ⟨.prod (.int .i64) (.prod (.int .i64) (.prod (.int .i64) (.prod (.int .i64) (.prod (.int .i64) (.prod (.slice (.prod (.int .i64) (.int .i64))) (.slice (.int .i64))))))), true, .struct [(0, 3), (1, 3), (2, 3), (3, 3), (4, 3), (5, 25), (6, 23)]⟩), (140, ⟨.slice (.prod (.int .i64) (.prod (.int .i64) (.int .i64))), false, .slice 296⟩), (141, ⟨.slice (TY_KidRun), false, .slice 301⟩), (143, ⟨TY_Family, true, .struct [(0, 3), (1, 3), (2, 3), (3, 4), (4, 23), (5, 25), (6, 140), (7, 23), (8, 25), (9, 141)]⟩), (145, ⟨TY_Root, true, .struct [(0, 3), (1, 3), (2, 3), (3, 3), (4, 3), (5, 3), (6, 3), (7, 3), (8, 3), (9, 3), (10, 3), (11, 4), (12, 23), (13, 25), (14, 25), (15, 134), (16, 135), (17, 23), (18, 4), (19, 137), (23, 139), (30, 143)]⟩), (148, ⟨.prod (.int .i64) (.prod (.int .i64) (.int .i64)), true, .struct [(0, 3), (1, 3), (2, 3)]⟩), (189, ⟨.slice (.prod (.int .i64) (.int .i64)), false, .slice 275⟩), (190, ⟨.slice (.prod (.int .i64) (.prod (.int .i64) (.prod (.int .i64) (.prod (.int .i64) (.slice (.int .i64)))))), false, .slice 271⟩), (191, ⟨.slice (.prod (.int .i64) (.prod (.int .i64) (.int .i64))), false, .slice 281⟩), (192, ⟨.prod (.int .i64) (.prod (.int .i64) (.prod (.int .i64) (.int .i64))), true, .struct [(0, 3), (1, 3), (2, 3), (3, 3)]⟩), (194, ⟨.prod (.int .i64) (.prod (.int .i64) (.prod (.int .i64) (.prod (.int .i64) (.prod (.int .i64) (.prod (.slice (.prod (.int .i64) (.int .i64))) (.slice (.int .i64))))))), true, .struct [(0, 3), (1, 3), (2, 3), (3, 3), (4, 3), (5, 189), (6, 23)]⟩), (195, ⟨.slice (.prod (.int .i64) (.prod (.int .i64) (.int .i64))), false, .slice 298⟩), (196, ⟨.slice (TY_KidRun), false, .slice 294⟩), (198, ⟨TY_Family, true, .struct [(0, 3), (1, 3), (2, 3), (3, 4), (4, 23), (5, 189), (6, 195), (7, 23), (8, 189), (9, 196)]⟩), (200, ⟨TY_Root, true, .struct [(0, 3), (1, 3), (2, 3), (3, 3), (4, 3), (5, 3), (6, 3), (7, 3), (8, 3), (9, 3), (10, 3), (11, 4), (12, 23), (13, 189), (14, 189), (15, 190), (16, 191), (17, 23), (18, 4), (19, 192), (23, 194), (30, 198)]⟩), (203, ⟨.prod (.int .i64) (.prod (.int .i64) (.slice (.prod (.int .i64) (.int .i64)))), true, .struct [(0, 3), (1, 3), (2, 189)]⟩), (206, ⟨.prod (.int .i64) (.prod (.int .i64) (.int .i64)), true, .struct [(0, 3), (1, 3), (2, 3)]⟩), (208, ⟨.prod (.int .i64) (.prod (.int .i64) (.int .i64)), true, .struct [(0, 3), (1, 3), (2, 3)]⟩), (211, ⟨.prod (.int .i64) (.prod (.int .i64) (.slice (.prod (.int .i64) (.int .i64)))), true, .struct [(0, 3), (1, 3), (2, 25)]⟩), (243, ⟨.prod (.int .i64) (.prod (.int .i64) (.int .i64)), true, .struct [(0, 3), (1, 3), (2, 3)]⟩), (271, ⟨.prod (.int .i64) (.prod (.int .i64) (.prod (.int .i64) (.prod (.int .i64) (.slice (.int .i64))))), true, .struct [(0, 3), (1, 3), (2, 3), (3, 3), (4, 23)]⟩), (275, ⟨.prod (.int .i64) (.int .i64), true, .struct [(0, 3), (1, 3)]⟩), (276, ⟨.prod (.int .i64) (.prod (.int .i64) (.prod (.int .i64) (.prod (.int .i64) (.slice (.int .i64))))), true, .struct [(0, 3), (1, 3), (2, 3), (3, 3), (4, 23)]⟩), (279, ⟨.prod (.int .i64) (.prod (.int .i64) (.int .i64)), true, .struct [(0, 3), (1, 3), (2, 3)]⟩), (281, ⟨.prod (.int .i64) (.prod (.int .i64) (.int .i64)), true, .struct [(0, 3), (1, 3), (2, 3)]⟩), (292, ⟨.slice (.prod (.int .i64) (.prod (.int .i64) (.slice (.int .i64)))), false, .slice 310⟩), (294, ⟨TY_KidRun, true, .struct [(0, 3), (1, 3), (2, 3), (3, 3), (4, 3), (5, 3), (6, 23), (7, 195), (8, 189), (9, 292), (10, 4), (11, 192)]⟩), (296, ⟨.prod (.int .i64) (.prod (.int .i64) (.int .i64)), true, .struct [(0, 3), (1, 3), (2, 3)]⟩), (298, ⟨.prod (.int .i64) (.prod (.int .i64) (.int .i64)), true, .struct [(0, 3), (1, 3), (2, 3)]⟩), (299, ⟨.slice (.prod (.int .i64) (.prod (.int .i64) (.slice (.int .i64)))), false, .slice 311⟩), (301, ⟨TY_KidRun, true, .struct [(0, 3), (1, 3), (2, 3), (3, 3), (4, 3), (5, 3), (6, 23), (7, 140), (8, 25), (9, 299), (10, 4), (11, 137)]⟩), (310, ⟨.prod (.int .i64) (.prod (.int .i64) (.slice (.int .i64))), true, .struct [(0, 3), (1, 3), (2, 23)]⟩), (311, ⟨.prod (.int .i64) (.prod (.int .i64) (.slice (.int .i64))), true, .struct [(0, 3), (1, 3), (2, 23)]⟩)]

theorem mixedOk : Try.prog.follows .mixedOrders = true := by kernel_rfl

theorem tabOk : TabOk Try.prog tab := tab_ok (show chkTab Try.prog tab tab = true by kernel_rfl)

noncomputable def T_laws_szWordS_sg (N : Nat) : Sig := Sig.of [.v (.slice (.prod (.int .i64) (.prod (.int .i64) (.int .i64)))) false, .v (.int .i64) false] [.v (.int .i64) false] (fun d => T_laws_szWordS N d.1 d.2.1)

def T_laws_szWordS_ann : Nat → List Ghost
  | _ => []

noncomputable def T_laws_szWordS_ctx (N : Nat) : Ctx := []

theorem T_laws_szWordS_den (N : Nat) (a1 : List (Int × Int × Int)) (left2 : Int) :
    den (R := ODen (T_laws_szWordS_sg N).ps × RDen (T_laws_szWordS_sg N).rs) tab (T_laws_szWordS_ctx N) T_laws_szWordS_ann N (T_laws_szWordS_sg N) Try.f113 (a1, left2, ()) some =
    (bif decide ((isub .i64 left2 (ilen a1)) < (0 : Int)) then
    (some (α := ODen (T_laws_szWordS_sg N).ps × RDen (T_laws_szWordS_sg N).rs) ((), ((-1 : Int), ())))
    else
    (some (α := ODen (T_laws_szWordS_sg N).ps × RDen (T_laws_szWordS_sg N).rs) ((), (isub .i64 left2 (ilen a1), ())))) := by kernel_rfl

theorem T_laws_szWordS_ok (N : Nat) : chkBody Try.f113 (T_laws_szWordS_sg N).ps = true := by kernel_rfl

theorem T_laws_szWordS_callable : Callable Try.prog 113 := callable_of Try.func113 (show chkFn Try.f113 = true by kernel_rfl)

theorem T_laws_szWordS_good (N : Nat) : Good Try.prog 113 (T_laws_szWordS_sg N) :=
  good_body mixedOk tabOk ctx_nil Try.func113 (T_laws_szWordS_ok N) (fun d _ h => ⟨N, (T_laws_szWordS_den N d.1 d.2.1).trans h⟩)

noncomputable def T_laws_szMem_sg (N : Nat) : Sig := Sig.of [.v (.prod (.int .i64) (.slice (.prod (.int .i64) (.prod (.int .i64) (.int .i64))))) true, .v (.int .i64) false] [.v (.int .i64) false] (fun d => T_laws_szMem N d.1 d.2.1)

def T_laws_szMem_ann : Nat → List Ghost
  | _ => []

noncomputable def T_laws_szMem_ctx (N : Nat) : Ctx := [(113, T_laws_szWordS_sg N)]

theorem T_laws_szMem_den (N : Nat) (a1 : Int × List (Int × Int × Int)) (left2 : Int) :
    den (R := ODen (T_laws_szMem_sg N).ps × RDen (T_laws_szMem_sg N).rs) tab (T_laws_szMem_ctx N) T_laws_szMem_ann N (T_laws_szMem_sg N) Try.f67 (a1, left2, ()) some =
    ((T_laws_szWordS N a1.2 left2).bind fun o3 =>
    (bif decide (o3.2.1 < (0 : Int)) then
      (some (α := ODen (T_laws_szMem_sg N).ps × RDen (T_laws_szMem_sg N).rs) ((), ((-1 : Int), ())))
      else
      (some (α := ODen (T_laws_szMem_sg N).ps × RDen (T_laws_szMem_sg N).rs) ((), (o3.2.1, ()))))) := by kernel_rfl

theorem T_laws_szMem_ok (N : Nat) : chkBody Try.f67 (T_laws_szMem_sg N).ps = true := by kernel_rfl

theorem T_laws_szMem_callable : Callable Try.prog 67 := callable_of Try.func67 (show chkFn Try.f67 = true by kernel_rfl)

theorem T_laws_szMem_good (N : Nat) : Good Try.prog 67 (T_laws_szMem_sg N) :=
  good_body mixedOk tabOk (ctx_cons (T_laws_szWordS_good N) T_laws_szWordS_callable ctx_nil) Try.func67 (T_laws_szMem_ok N) (fun d _ h => ⟨N, (T_laws_szMem_den N d.1 d.2.1).trans h⟩)

noncomputable def T_laws_szIntS_sg (N : Nat) : Sig := Sig.of [.v (.slice (.int .i64)) false, .v (.int .i64) false] [.v (.int .i64) false] (fun d => T_laws_szIntS N d.1 d.2.1)

def T_laws_szIntS_ann : Nat → List Ghost
  | _ => []

noncomputable def T_laws_szIntS_ctx (N : Nat) : Ctx := []

theorem T_laws_szIntS_den (N : Nat) (a1 : List Int) (left2 : Int) :
    den (R := ODen (T_laws_szIntS_sg N).ps × RDen (T_laws_szIntS_sg N).rs) tab (T_laws_szIntS_ctx N) T_laws_szIntS_ann N (T_laws_szIntS_sg N) Try.f114 (a1, left2, ()) some =
    (bif decide ((isub .i64 left2 (ilen a1)) < (0 : Int)) then
    (some (α := ODen (T_laws_szIntS_sg N).ps × RDen (T_laws_szIntS_sg N).rs) ((), ((-1 : Int), ())))
    else
    (some (α := ODen (T_laws_szIntS_sg N).ps × RDen (T_laws_szIntS_sg N).rs) ((), (isub .i64 left2 (ilen a1), ())))) := by kernel_rfl

theorem T_laws_szIntS_ok (N : Nat) : chkBody Try.f114 (T_laws_szIntS_sg N).ps = true := by kernel_rfl

theorem T_laws_szIntS_callable : Callable Try.prog 114 := callable_of Try.func114 (show chkFn Try.f114 = true by kernel_rfl)

theorem T_laws_szIntS_good (N : Nat) : Good Try.prog 114 (T_laws_szIntS_sg N) :=
  good_body mixedOk tabOk ctx_nil Try.func114 (T_laws_szIntS_ok N) (fun d _ h => ⟨N, (T_laws_szIntS_den N d.1 d.2.1).trans h⟩)

noncomputable def T_laws_szShelf_sg (N : Nat) : Sig := Sig.of [.v (.prod (.slice (.int .i64)) (.int .i64)) true, .v (.int .i64) false] [.v (.int .i64) false] (fun d => T_laws_szShelf N d.1 d.2.1)

def T_laws_szShelf_ann : Nat → List Ghost
  | _ => []

noncomputable def T_laws_szShelf_ctx (N : Nat) : Ctx := [(114, T_laws_szIntS_sg N)]

theorem T_laws_szShelf_den (N : Nat) (a1 : List Int × Int) (left2 : Int) :
    den (R := ODen (T_laws_szShelf_sg N).ps × RDen (T_laws_szShelf_sg N).rs) tab (T_laws_szShelf_ctx N) T_laws_szShelf_ann N (T_laws_szShelf_sg N) Try.f68 (a1, left2, ()) some =
    ((T_laws_szIntS N a1.1 left2).bind fun o3 =>
    (bif decide (o3.2.1 < (0 : Int)) then
      (some (α := ODen (T_laws_szShelf_sg N).ps × RDen (T_laws_szShelf_sg N).rs) ((), ((-1 : Int), ())))
      else
      (some (α := ODen (T_laws_szShelf_sg N).ps × RDen (T_laws_szShelf_sg N).rs) ((), (o3.2.1, ()))))) := by kernel_rfl

theorem T_laws_szShelf_ok (N : Nat) : chkBody Try.f68 (T_laws_szShelf_sg N).ps = true := by kernel_rfl

theorem T_laws_szShelf_callable : Callable Try.prog 68 := callable_of Try.func68 (show chkFn Try.f68 = true by kernel_rfl)

theorem T_laws_szShelf_good (N : Nat) : Good Try.prog 68 (T_laws_szShelf_sg N) :=
  good_body mixedOk tabOk (ctx_cons (T_laws_szIntS_good N) T_laws_szIntS_callable ctx_nil) Try.func68 (T_laws_szShelf_ok N) (fun d _ h => ⟨N, (T_laws_szShelf_den N d.1 d.2.1).trans h⟩)

noncomputable def T_laws_szHoldS_sg (N : Nat) : Sig := Sig.of [.v (.slice (.prod (.int .i64) (.prod (.int .i64) (.int .i64)))) false, .v (.int .i64) false] [.v (.int .i64) false] (fun d => T_laws_szHoldS N d.1 d.2.1)

def T_laws_szHoldS_ann : Nat → List Ghost
  | _ => []

noncomputable def T_laws_szHoldS_ctx (N : Nat) : Ctx := []

theorem T_laws_szHoldS_den (N : Nat) (a1 : List (Int × Int × Int)) (left2 : Int) :
    den (R := ODen (T_laws_szHoldS_sg N).ps × RDen (T_laws_szHoldS_sg N).rs) tab (T_laws_szHoldS_ctx N) T_laws_szHoldS_ann N (T_laws_szHoldS_sg N) Try.f69 (a1, left2, ()) some =
    (bif decide ((isub .i64 left2 (ilen a1)) < (0 : Int)) then
    (some (α := ODen (T_laws_szHoldS_sg N).ps × RDen (T_laws_szHoldS_sg N).rs) ((), ((-1 : Int), ())))
    else
    (some (α := ODen (T_laws_szHoldS_sg N).ps × RDen (T_laws_szHoldS_sg N).rs) ((), (isub .i64 left2 (ilen a1), ())))) := by kernel_rfl

theorem T_laws_szHoldS_ok (N : Nat) : chkBody Try.f69 (T_laws_szHoldS_sg N).ps = true := by kernel_rfl

theorem T_laws_szHoldS_callable : Callable Try.prog 69 := callable_of Try.func69 (show chkFn Try.f69 = true by kernel_rfl)

theorem T_laws_szHoldS_good (N : Nat) : Good Try.prog 69 (T_laws_szHoldS_sg N) :=
  good_body mixedOk tabOk ctx_nil Try.func69 (T_laws_szHoldS_ok N) (fun d _ h => ⟨N, (T_laws_szHoldS_den N d.1 d.2.1).trans h⟩)

noncomputable def T_laws_szRowS_sg (N : Nat) : Sig := Sig.of [.v (.slice (.prod (.int .i64) (.int .i64))) false, .v (.int .i64) false] [.v (.int .i64) false] (fun d => T_laws_szRowS N d.1 d.2.1)

def T_laws_szRowS_ann : Nat → List Ghost
  | _ => []

noncomputable def T_laws_szRowS_ctx (N : Nat) : Ctx := []

theorem T_laws_szRowS_den (N : Nat) (a1 : List (Int × Int)) (left2 : Int) :
    den (R := ODen (T_laws_szRowS_sg N).ps × RDen (T_laws_szRowS_sg N).rs) tab (T_laws_szRowS_ctx N) T_laws_szRowS_ann N (T_laws_szRowS_sg N) Try.f155 (a1, left2, ()) some =
    (bif decide ((isub .i64 left2 (ilen a1)) < (0 : Int)) then
    (some (α := ODen (T_laws_szRowS_sg N).ps × RDen (T_laws_szRowS_sg N).rs) ((), ((-1 : Int), ())))
    else
    (some (α := ODen (T_laws_szRowS_sg N).ps × RDen (T_laws_szRowS_sg N).rs) ((), (isub .i64 left2 (ilen a1), ())))) := by kernel_rfl

theorem T_laws_szRowS_ok (N : Nat) : chkBody Try.f155 (T_laws_szRowS_sg N).ps = true := by kernel_rfl

theorem T_laws_szRowS_callable : Callable Try.prog 155 := callable_of Try.func155 (show chkFn Try.f155 = true by kernel_rfl)

theorem T_laws_szRowS_good (N : Nat) : Good Try.prog 155 (T_laws_szRowS_sg N) :=
  good_body mixedOk tabOk ctx_nil Try.func155 (T_laws_szRowS_ok N) (fun d _ h => ⟨N, (T_laws_szRowS_den N d.1 d.2.1).trans h⟩)

noncomputable def T_laws_szMark_sg (N : Nat) : Sig := Sig.of [.v (.prod (.int .i64) (.prod (.int .i64) (.prod (.int .i64) (.prod (.int .i64) (.slice (.int .i64)))))) true, .v (.int .i64) false] [.v (.int .i64) false] (fun d => T_laws_szMark N d.1 d.2.1)

def T_laws_szMark_ann : Nat → List Ghost
  | _ => []

noncomputable def T_laws_szMark_ctx (N : Nat) : Ctx := [(114, T_laws_szIntS_sg N)]

theorem T_laws_szMark_den (N : Nat) (a1 : Int × Int × Int × Int × List Int) (left2 : Int) :
    den (R := ODen (T_laws_szMark_sg N).ps × RDen (T_laws_szMark_sg N).rs) tab (T_laws_szMark_ctx N) T_laws_szMark_ann N (T_laws_szMark_sg N) Try.f187 (a1, left2, ()) some =
    ((T_laws_szIntS N a1.2.2.2.2 left2).bind fun o3 =>
    (bif decide (o3.2.1 < (0 : Int)) then
      (some (α := ODen (T_laws_szMark_sg N).ps × RDen (T_laws_szMark_sg N).rs) ((), ((-1 : Int), ())))
      else
      (some (α := ODen (T_laws_szMark_sg N).ps × RDen (T_laws_szMark_sg N).rs) ((), (o3.2.1, ()))))) := by kernel_rfl

theorem T_laws_szMark_ok (N : Nat) : chkBody Try.f187 (T_laws_szMark_sg N).ps = true := by kernel_rfl

theorem T_laws_szMark_callable : Callable Try.prog 187 := callable_of Try.func187 (show chkFn Try.f187 = true by kernel_rfl)

theorem T_laws_szMark_good (N : Nat) : Good Try.prog 187 (T_laws_szMark_sg N) :=
  good_body mixedOk tabOk (ctx_cons (T_laws_szIntS_good N) T_laws_szIntS_callable ctx_nil) Try.func187 (T_laws_szMark_ok N) (fun d _ h => ⟨N, (T_laws_szMark_den N d.1 d.2.1).trans h⟩)

noncomputable def T_laws_szMarkS_sg (N : Nat) : Sig := Sig.of [.v (.slice (.prod (.int .i64) (.prod (.int .i64) (.prod (.int .i64) (.prod (.int .i64) (.slice (.int .i64))))))) false, .v (.int .i64) false] [.v (.int .i64) false] (fun d => T_laws_szMarkS N d.1 d.2.1)

def T_laws_szMarkS_ann : Nat → List Ghost
  | 5 => [.canon [0, 1, 5, 15]]
  | 6 => [.canon [0, 1, 5]]
  | 7 => [.canon [0, 1, 5]]
  | 8 => [.canon [0, 1, 5, 25]]
  | 9 => [.canon [4]]
  | 100005 => [.canon [0, 1, 5]]
  | _ => []

noncomputable def T_laws_szMarkS_ctx (N : Nat) : Ctx := [(187, T_laws_szMark_sg N)]

def T_laws_szMarkS_lp0_sh (a3 : List (Int × Int × Int × Int × List Int)) (left4 : Int) (i5 : Int) : St := { env := [(0, .s (.one (.val (.slice (.prod (.int .i64) (.prod (.int .i64) (.prod (.int .i64) (.prod (.int .i64) (.slice (.int .i64))))))) (a3 : List (Int × Int × Int × Int × List Int))))), (1, .s (.one (.val (.int .i64) (left4 : Int)))), (5, .s (.one (.val (.int .i64) (i5 : Int))))], objs := [], nx := 0 }

def T_laws_szMarkS_lp0_e0 (a3 : List (Int × Int × Int × Int × List Int)) : St := { env := [(4, .s (.one (.val (.int .i64) ((-1 : Int) : Int))))], objs := [], nx := 0 }

def T_laws_szMarkS_lp0_e1 (a3 : List (Int × Int × Int × Int × List Int)) (left7 : Int) (i8 : Int) (t9 : Bool) : St := { env := [(0, .s (.one (.val (.slice (.prod (.int .i64) (.prod (.int .i64) (.prod (.int .i64) (.prod (.int .i64) (.slice (.int .i64))))))) (a3 : List (Int × Int × Int × Int × List Int))))), (1, .s (.one (.val (.int .i64) (left7 : Int)))), (5, .s (.one (.val (.int .i64) (i8 : Int)))), (15, .s (.one (.val (.bool) (t9 : Bool))))], objs := [], nx := 0 }

noncomputable def T_laws_szMarkS_lp0_m (N : Nat) {R : Type} (n : Nat) (st : St) (K : Ex → St → Option R) : Option R := loopN (roundG (T_laws_szMarkS_ann 100005) fun st k => sx tab (T_laws_szMarkS_ctx N) T_laws_szMarkS_ann N (nthLoop Try.f156 0) st k) n st K

theorem T_laws_szMarkS_lp0_step (N : Nat) {R : Type} (n : Nat) (K : Ex → St → Option R) (a3 : List (Int × Int × Int × Int × List Int)) (left4 : Int) (i5 : Int) :
    T_laws_szMarkS_lp0_m N (n + 1) (T_laws_szMarkS_lp0_sh a3 left4 i5) K =
    (bif decide (i5 < (ilen a3)) then
    (bif inb i5 (List.length a3) then
      ((T_laws_szMark N (List.getD a3 (Int.toNat i5) ((0 : Int), ((0 : Int), ((0 : Int), ((0 : Int), ([] : List Int)))))) left4).bind fun o10 =>
        (bif decide (o10.2.1 < (0 : Int)) then
          (K .ret (T_laws_szMarkS_lp0_e0 a3))
          else
          (T_laws_szMarkS_lp0_m N n (T_laws_szMarkS_lp0_sh a3 o10.2.1 (iadd .i64 i5 (1 : Int))) K))) else none)
    else
    (K (.exit 0) (T_laws_szMarkS_lp0_e1 a3 left4 i5 (decide (i5 < (ilen a3)))))) := by kernel_rfl

theorem T_laws_szMarkS_lp0_eq (N : Nat) {R : Type} (a3 : List (Int × Int × Int × Int × List Int)) (K : Ex → St → Option R) : ∀ (n : Nat) (left4 : Int) (i5 : Int), T_laws_szMarkS_lp0_m N n (T_laws_szMarkS_lp0_sh a3 left4 i5) K = T_laws_szMarkS_lp0 N a3 (K .ret (T_laws_szMarkS_lp0_e0 a3)) (fun left7 i8 t9 => (K (.exit 0) (T_laws_szMarkS_lp0_e1 a3 left7 i8 t9))) n left4 i5
  | 0, _, _ => rfl
  | n + 1, left4, i5 => by rw [T_laws_szMarkS_lp0_step, T_laws_szMarkS_lp0]; (try simp only [T_laws_szMarkS_lp0_eq N a3 K n])

theorem T_laws_szMarkS_c1 (N : Nat) (a1 : List (Int × Int × Int × Int × List Int)) :
    ((ctxK (R := ODen (T_laws_szMarkS_sg N).ps × RDen (T_laws_szMarkS_sg N).rs) tab (T_laws_szMarkS_ctx N) T_laws_szMarkS_ann N (theCode Try.f156) [1, 1, 1, 0, 1, 0] (retK tab (T_laws_szMarkS_sg N) Try.f156.results.toList some)) .ret (T_laws_szMarkS_lp0_e0 a1)) =
    (some (α := ODen (T_laws_szMarkS_sg N).ps × RDen (T_laws_szMarkS_sg N).rs) ((), ((-1 : Int), ()))) := by kernel_rfl

theorem T_laws_szMarkS_c2 (N : Nat) (a1 : List (Int × Int × Int × Int × List Int)) (left11 : Int) (i12 : Int) (t13 : Bool) :
    ((ctxK (R := ODen (T_laws_szMarkS_sg N).ps × RDen (T_laws_szMarkS_sg N).rs) tab (T_laws_szMarkS_ctx N) T_laws_szMarkS_ann N (theCode Try.f156) [1, 1, 1, 0, 1, 0] (retK tab (T_laws_szMarkS_sg N) Try.f156.results.toList some)) (.exit 0) (T_laws_szMarkS_lp0_e1 a1 left11 i12 t13)) =
    (some (α := ODen (T_laws_szMarkS_sg N).ps × RDen (T_laws_szMarkS_sg N).rs) ((), (left11, ()))) := by kernel_rfl

theorem T_laws_szMarkS_den (N : Nat) (a1 : List (Int × Int × Int × Int × List Int)) (left2 : Int) :
    den (R := ODen (T_laws_szMarkS_sg N).ps × RDen (T_laws_szMarkS_sg N).rs) tab (T_laws_szMarkS_ctx N) T_laws_szMarkS_ann N (T_laws_szMarkS_sg N) Try.f156 (a1, left2, ()) some =
    (bif decide ((isub .i64 left2 (ilen a1)) < (0 : Int)) then
    (some (α := ODen (T_laws_szMarkS_sg N).ps × RDen (T_laws_szMarkS_sg N).rs) ((), ((-1 : Int), ())))
    else
    (T_laws_szMarkS_lp0 N a1
      (some (α := ODen (T_laws_szMarkS_sg N).ps × RDen (T_laws_szMarkS_sg N).rs) ((), ((-1 : Int), ())))
      (fun left11 i12 t13 =>
        (some (α := ODen (T_laws_szMarkS_sg N).ps × RDen (T_laws_szMarkS_sg N).rs) ((), (left11, ()))))
       N (isub .i64 left2 (ilen a1)) (0 : Int))) := by
  have h : den (R := ODen (T_laws_szMarkS_sg N).ps × RDen (T_laws_szMarkS_sg N).rs) tab (T_laws_szMarkS_ctx N) T_laws_szMarkS_ann N (T_laws_szMarkS_sg N) Try.f156 (a1, left2, ()) some =
    (bif decide ((isub .i64 left2 (ilen a1)) < (0 : Int)) then
    (some (α := ODen (T_laws_szMarkS_sg N).ps × RDen (T_laws_szMarkS_sg N).rs) ((), ((-1 : Int), ())))
    else
    (T_laws_szMarkS_lp0_m N N (T_laws_szMarkS_lp0_sh a1 (isub .i64 left2 (ilen a1)) (0 : Int)) (ctxK (R := ODen (T_laws_szMarkS_sg N).ps × RDen (T_laws_szMarkS_sg N).rs) tab (T_laws_szMarkS_ctx N) T_laws_szMarkS_ann N (theCode Try.f156) [1, 1, 1, 0, 1, 0] (retK tab (T_laws_szMarkS_sg N) Try.f156.results.toList some)))) := by kernel_rfl
  rw [h]
  (try simp only [T_laws_szMarkS_lp0_eq, T_laws_szMarkS_c1, T_laws_szMarkS_c2]) <;> rfl

theorem T_laws_szMarkS_ok (N : Nat) : chkBody Try.f156 (T_laws_szMarkS_sg N).ps = true := by kernel_rfl

theorem T_laws_szMarkS_callable : Callable Try.prog 156 := callable_of Try.func156 (show chkFn Try.f156 = true by kernel_rfl)

theorem T_laws_szMarkS_good (N : Nat) : Good Try.prog 156 (T_laws_szMarkS_sg N) :=
  good_body mixedOk tabOk (ctx_cons (T_laws_szMark_good N) T_laws_szMark_callable ctx_nil) Try.func156 (T_laws_szMarkS_ok N) (fun d _ h => ⟨N, (T_laws_szMarkS_den N d.1 d.2.1).trans h⟩)

noncomputable def T_laws_szUndoS_sg (N : Nat) : Sig := Sig.of [.v (.slice (.prod (.int .i64) (.prod (.int .i64) (.int .i64)))) false, .v (.int .i64) false] [.v (.int .i64) false] (fun d => T_laws_szUndoS N d.1 d.2.1)

def T_laws_szUndoS_ann : Nat → List Ghost
  | _ => []

noncomputable def T_laws_szUndoS_ctx (N : Nat) : Ctx := []

theorem T_laws_szUndoS_den (N : Nat) (a1 : List (Int × Int × Int)) (left2 : Int) :
    den (R := ODen (T_laws_szUndoS_sg N).ps × RDen (T_laws_szUndoS_sg N).rs) tab (T_laws_szUndoS_ctx N) T_laws_szUndoS_ann N (T_laws_szUndoS_sg N) Try.f157 (a1, left2, ()) some =
    (bif decide ((isub .i64 left2 (ilen a1)) < (0 : Int)) then
    (some (α := ODen (T_laws_szUndoS_sg N).ps × RDen (T_laws_szUndoS_sg N).rs) ((), ((-1 : Int), ())))
    else
    (some (α := ODen (T_laws_szUndoS_sg N).ps × RDen (T_laws_szUndoS_sg N).rs) ((), (isub .i64 left2 (ilen a1), ())))) := by kernel_rfl

theorem T_laws_szUndoS_ok (N : Nat) : chkBody Try.f157 (T_laws_szUndoS_sg N).ps = true := by kernel_rfl

theorem T_laws_szUndoS_callable : Callable Try.prog 157 := callable_of Try.func157 (show chkFn Try.f157 = true by kernel_rfl)

theorem T_laws_szUndoS_good (N : Nat) : Good Try.prog 157 (T_laws_szUndoS_sg N) :=
  good_body mixedOk tabOk ctx_nil Try.func157 (T_laws_szUndoS_ok N) (fun d _ h => ⟨N, (T_laws_szUndoS_den N d.1 d.2.1).trans h⟩)

noncomputable def T_laws_szCommit_sg (N : Nat) : Sig := Sig.of [.v (.prod (.int .i64) (.prod (.int .i64) (.prod (.int .i64) (.prod (.int .i64) (.prod (.int .i64) (.prod (.slice (.prod (.int .i64) (.int .i64))) (.slice (.int .i64)))))))) true, .v (.int .i64) false] [.v (.int .i64) false] (fun d => T_laws_szCommit N d.1 d.2.1)

def T_laws_szCommit_ann : Nat → List Ghost
  | _ => []

noncomputable def T_laws_szCommit_ctx (N : Nat) : Ctx := [(155, T_laws_szRowS_sg N), (114, T_laws_szIntS_sg N)]

theorem T_laws_szCommit_den (N : Nat) (a1 : Int × Int × Int × Int × Int × List (Int × Int) × List Int) (left2 : Int) :
    den (R := ODen (T_laws_szCommit_sg N).ps × RDen (T_laws_szCommit_sg N).rs) tab (T_laws_szCommit_ctx N) T_laws_szCommit_ann N (T_laws_szCommit_sg N) Try.f158 (a1, left2, ()) some =
    ((T_laws_szRowS N a1.2.2.2.2.2.1 left2).bind fun o3 =>
    (bif decide (o3.2.1 < (0 : Int)) then
      (some (α := ODen (T_laws_szCommit_sg N).ps × RDen (T_laws_szCommit_sg N).rs) ((), ((-1 : Int), ())))
      else
      ((T_laws_szIntS N a1.2.2.2.2.2.2 o3.2.1).bind fun o4 =>
        (bif decide (o4.2.1 < (0 : Int)) then
          (some (α := ODen (T_laws_szCommit_sg N).ps × RDen (T_laws_szCommit_sg N).rs) ((), ((-1 : Int), ())))
          else
          (some (α := ODen (T_laws_szCommit_sg N).ps × RDen (T_laws_szCommit_sg N).rs) ((), (o4.2.1, ()))))))) := by kernel_rfl

theorem T_laws_szCommit_ok (N : Nat) : chkBody Try.f158 (T_laws_szCommit_sg N).ps = true := by kernel_rfl

theorem T_laws_szCommit_callable : Callable Try.prog 158 := callable_of Try.func158 (show chkFn Try.f158 = true by kernel_rfl)

theorem T_laws_szCommit_good (N : Nat) : Good Try.prog 158 (T_laws_szCommit_sg N) :=
  good_body mixedOk tabOk (ctx_cons (T_laws_szRowS_good N) T_laws_szRowS_callable (ctx_cons (T_laws_szIntS_good N) T_laws_szIntS_callable ctx_nil)) Try.func158 (T_laws_szCommit_ok N) (fun d _ h => ⟨N, (T_laws_szCommit_den N d.1 d.2.1).trans h⟩)

noncomputable def T_laws_szEntryS_sg (N : Nat) : Sig := Sig.of [.v (.slice (.prod (.int .i64) (.prod (.int .i64) (.int .i64)))) false, .v (.int .i64) false] [.v (.int .i64) false] (fun d => T_laws_szEntryS N d.1 d.2.1)

def T_laws_szEntryS_ann : Nat → List Ghost
  | _ => []

noncomputable def T_laws_szEntryS_ctx (N : Nat) : Ctx := []

theorem T_laws_szEntryS_den (N : Nat) (a1 : List (Int × Int × Int)) (left2 : Int) :
    den (R := ODen (T_laws_szEntryS_sg N).ps × RDen (T_laws_szEntryS_sg N).rs) tab (T_laws_szEntryS_ctx N) T_laws_szEntryS_ann N (T_laws_szEntryS_sg N) Try.f188 (a1, left2, ()) some =
    (bif decide ((isub .i64 left2 (ilen a1)) < (0 : Int)) then
    (some (α := ODen (T_laws_szEntryS_sg N).ps × RDen (T_laws_szEntryS_sg N).rs) ((), ((-1 : Int), ())))
    else
    (some (α := ODen (T_laws_szEntryS_sg N).ps × RDen (T_laws_szEntryS_sg N).rs) ((), (isub .i64 left2 (ilen a1), ())))) := by kernel_rfl

theorem T_laws_szEntryS_ok (N : Nat) : chkBody Try.f188 (T_laws_szEntryS_sg N).ps = true := by kernel_rfl

theorem T_laws_szEntryS_callable : Callable Try.prog 188 := callable_of Try.func188 (show chkFn Try.f188 = true by kernel_rfl)

theorem T_laws_szEntryS_good (N : Nat) : Good Try.prog 188 (T_laws_szEntryS_sg N) :=
  good_body mixedOk tabOk ctx_nil Try.func188 (T_laws_szEntryS_ok N) (fun d _ h => ⟨N, (T_laws_szEntryS_den N d.1 d.2.1).trans h⟩)

noncomputable def T_laws_szKidMark_sg (N : Nat) : Sig := Sig.of [.v (.prod (.int .i64) (.prod (.int .i64) (.slice (.int .i64)))) true, .v (.int .i64) false] [.v (.int .i64) false] (fun d => T_laws_szKidMark N d.1 d.2.1)

def T_laws_szKidMark_ann : Nat → List Ghost
  | _ => []

noncomputable def T_laws_szKidMark_ctx (N : Nat) : Ctx := [(114, T_laws_szIntS_sg N)]

theorem T_laws_szKidMark_den (N : Nat) (a1 : Int × Int × List Int) (left2 : Int) :
    den (R := ODen (T_laws_szKidMark_sg N).ps × RDen (T_laws_szKidMark_sg N).rs) tab (T_laws_szKidMark_ctx N) T_laws_szKidMark_ann N (T_laws_szKidMark_sg N) Try.f210 (a1, left2, ()) some =
    ((T_laws_szIntS N a1.2.2 left2).bind fun o3 =>
    (bif decide (o3.2.1 < (0 : Int)) then
      (some (α := ODen (T_laws_szKidMark_sg N).ps × RDen (T_laws_szKidMark_sg N).rs) ((), ((-1 : Int), ())))
      else
      (some (α := ODen (T_laws_szKidMark_sg N).ps × RDen (T_laws_szKidMark_sg N).rs) ((), (o3.2.1, ()))))) := by kernel_rfl

theorem T_laws_szKidMark_ok (N : Nat) : chkBody Try.f210 (T_laws_szKidMark_sg N).ps = true := by kernel_rfl

theorem T_laws_szKidMark_callable : Callable Try.prog 210 := callable_of Try.func210 (show chkFn Try.f210 = true by kernel_rfl)

theorem T_laws_szKidMark_good (N : Nat) : Good Try.prog 210 (T_laws_szKidMark_sg N) :=
  good_body mixedOk tabOk (ctx_cons (T_laws_szIntS_good N) T_laws_szIntS_callable ctx_nil) Try.func210 (T_laws_szKidMark_ok N) (fun d _ h => ⟨N, (T_laws_szKidMark_den N d.1 d.2.1).trans h⟩)

noncomputable def T_laws_szKidMarkS_sg (N : Nat) : Sig := Sig.of [.v (.slice (.prod (.int .i64) (.prod (.int .i64) (.slice (.int .i64))))) false, .v (.int .i64) false] [.v (.int .i64) false] (fun d => T_laws_szKidMarkS N d.1 d.2.1)

def T_laws_szKidMarkS_ann : Nat → List Ghost
  | 5 => [.canon [0, 1, 5, 15]]
  | 6 => [.canon [0, 1, 5]]
  | 7 => [.canon [0, 1, 5]]
  | 8 => [.canon [0, 1, 5, 25]]
  | 9 => [.canon [4]]
  | 100005 => [.canon [0, 1, 5]]
  | _ => []

noncomputable def T_laws_szKidMarkS_ctx (N : Nat) : Ctx := [(210, T_laws_szKidMark_sg N)]

def T_laws_szKidMarkS_lp0_sh (a3 : List (Int × Int × List Int)) (left4 : Int) (i5 : Int) : St := { env := [(0, .s (.one (.val (.slice (.prod (.int .i64) (.prod (.int .i64) (.slice (.int .i64))))) (a3 : List (Int × Int × List Int))))), (1, .s (.one (.val (.int .i64) (left4 : Int)))), (5, .s (.one (.val (.int .i64) (i5 : Int))))], objs := [], nx := 0 }

def T_laws_szKidMarkS_lp0_e0 (a3 : List (Int × Int × List Int)) : St := { env := [(4, .s (.one (.val (.int .i64) ((-1 : Int) : Int))))], objs := [], nx := 0 }

def T_laws_szKidMarkS_lp0_e1 (a3 : List (Int × Int × List Int)) (left7 : Int) (i8 : Int) (t9 : Bool) : St := { env := [(0, .s (.one (.val (.slice (.prod (.int .i64) (.prod (.int .i64) (.slice (.int .i64))))) (a3 : List (Int × Int × List Int))))), (1, .s (.one (.val (.int .i64) (left7 : Int)))), (5, .s (.one (.val (.int .i64) (i8 : Int)))), (15, .s (.one (.val (.bool) (t9 : Bool))))], objs := [], nx := 0 }

noncomputable def T_laws_szKidMarkS_lp0_m (N : Nat) {R : Type} (n : Nat) (st : St) (K : Ex → St → Option R) : Option R := loopN (roundG (T_laws_szKidMarkS_ann 100005) fun st k => sx tab (T_laws_szKidMarkS_ctx N) T_laws_szKidMarkS_ann N (nthLoop Try.f207 0) st k) n st K

theorem T_laws_szKidMarkS_lp0_step (N : Nat) {R : Type} (n : Nat) (K : Ex → St → Option R) (a3 : List (Int × Int × List Int)) (left4 : Int) (i5 : Int) :
    T_laws_szKidMarkS_lp0_m N (n + 1) (T_laws_szKidMarkS_lp0_sh a3 left4 i5) K =
    (bif decide (i5 < (ilen a3)) then
    (bif inb i5 (List.length a3) then
      ((T_laws_szKidMark N (List.getD a3 (Int.toNat i5) ((0 : Int), ((0 : Int), ([] : List Int)))) left4).bind fun o10 =>
        (bif decide (o10.2.1 < (0 : Int)) then
          (K .ret (T_laws_szKidMarkS_lp0_e0 a3))
          else
          (T_laws_szKidMarkS_lp0_m N n (T_laws_szKidMarkS_lp0_sh a3 o10.2.1 (iadd .i64 i5 (1 : Int))) K))) else none)
    else
    (K (.exit 0) (T_laws_szKidMarkS_lp0_e1 a3 left4 i5 (decide (i5 < (ilen a3)))))) := by kernel_rfl

theorem T_laws_szKidMarkS_lp0_eq (N : Nat) {R : Type} (a3 : List (Int × Int × List Int)) (K : Ex → St → Option R) : ∀ (n : Nat) (left4 : Int) (i5 : Int), T_laws_szKidMarkS_lp0_m N n (T_laws_szKidMarkS_lp0_sh a3 left4 i5) K = T_laws_szKidMarkS_lp0 N a3 (K .ret (T_laws_szKidMarkS_lp0_e0 a3)) (fun left7 i8 t9 => (K (.exit 0) (T_laws_szKidMarkS_lp0_e1 a3 left7 i8 t9))) n left4 i5
  | 0, _, _ => rfl
  | n + 1, left4, i5 => by rw [T_laws_szKidMarkS_lp0_step, T_laws_szKidMarkS_lp0]; (try simp only [T_laws_szKidMarkS_lp0_eq N a3 K n])

theorem T_laws_szKidMarkS_c1 (N : Nat) (a1 : List (Int × Int × List Int)) :
    ((ctxK (R := ODen (T_laws_szKidMarkS_sg N).ps × RDen (T_laws_szKidMarkS_sg N).rs) tab (T_laws_szKidMarkS_ctx N) T_laws_szKidMarkS_ann N (theCode Try.f207) [1, 1, 1, 0, 1, 0] (retK tab (T_laws_szKidMarkS_sg N) Try.f207.results.toList some)) .ret (T_laws_szKidMarkS_lp0_e0 a1)) =
    (some (α := ODen (T_laws_szKidMarkS_sg N).ps × RDen (T_laws_szKidMarkS_sg N).rs) ((), ((-1 : Int), ()))) := by kernel_rfl

theorem T_laws_szKidMarkS_c2 (N : Nat) (a1 : List (Int × Int × List Int)) (left11 : Int) (i12 : Int) (t13 : Bool) :
    ((ctxK (R := ODen (T_laws_szKidMarkS_sg N).ps × RDen (T_laws_szKidMarkS_sg N).rs) tab (T_laws_szKidMarkS_ctx N) T_laws_szKidMarkS_ann N (theCode Try.f207) [1, 1, 1, 0, 1, 0] (retK tab (T_laws_szKidMarkS_sg N) Try.f207.results.toList some)) (.exit 0) (T_laws_szKidMarkS_lp0_e1 a1 left11 i12 t13)) =
    (some (α := ODen (T_laws_szKidMarkS_sg N).ps × RDen (T_laws_szKidMarkS_sg N).rs) ((), (left11, ()))) := by kernel_rfl

theorem T_laws_szKidMarkS_den (N : Nat) (a1 : List (Int × Int × List Int)) (left2 : Int) :
    den (R := ODen (T_laws_szKidMarkS_sg N).ps × RDen (T_laws_szKidMarkS_sg N).rs) tab (T_laws_szKidMarkS_ctx N) T_laws_szKidMarkS_ann N (T_laws_szKidMarkS_sg N) Try.f207 (a1, left2, ()) some =
    (bif decide ((isub .i64 left2 (ilen a1)) < (0 : Int)) then
    (some (α := ODen (T_laws_szKidMarkS_sg N).ps × RDen (T_laws_szKidMarkS_sg N).rs) ((), ((-1 : Int), ())))
    else
    (T_laws_szKidMarkS_lp0 N a1
      (some (α := ODen (T_laws_szKidMarkS_sg N).ps × RDen (T_laws_szKidMarkS_sg N).rs) ((), ((-1 : Int), ())))
      (fun left11 i12 t13 =>
        (some (α := ODen (T_laws_szKidMarkS_sg N).ps × RDen (T_laws_szKidMarkS_sg N).rs) ((), (left11, ()))))
       N (isub .i64 left2 (ilen a1)) (0 : Int))) := by
  have h : den (R := ODen (T_laws_szKidMarkS_sg N).ps × RDen (T_laws_szKidMarkS_sg N).rs) tab (T_laws_szKidMarkS_ctx N) T_laws_szKidMarkS_ann N (T_laws_szKidMarkS_sg N) Try.f207 (a1, left2, ()) some =
    (bif decide ((isub .i64 left2 (ilen a1)) < (0 : Int)) then
    (some (α := ODen (T_laws_szKidMarkS_sg N).ps × RDen (T_laws_szKidMarkS_sg N).rs) ((), ((-1 : Int), ())))
    else
    (T_laws_szKidMarkS_lp0_m N N (T_laws_szKidMarkS_lp0_sh a1 (isub .i64 left2 (ilen a1)) (0 : Int)) (ctxK (R := ODen (T_laws_szKidMarkS_sg N).ps × RDen (T_laws_szKidMarkS_sg N).rs) tab (T_laws_szKidMarkS_ctx N) T_laws_szKidMarkS_ann N (theCode Try.f207) [1, 1, 1, 0, 1, 0] (retK tab (T_laws_szKidMarkS_sg N) Try.f207.results.toList some)))) := by kernel_rfl
  rw [h]
  (try simp only [T_laws_szKidMarkS_lp0_eq, T_laws_szKidMarkS_c1, T_laws_szKidMarkS_c2]) <;> rfl

theorem T_laws_szKidMarkS_ok (N : Nat) : chkBody Try.f207 (T_laws_szKidMarkS_sg N).ps = true := by kernel_rfl

theorem T_laws_szKidMarkS_callable : Callable Try.prog 207 := callable_of Try.func207 (show chkFn Try.f207 = true by kernel_rfl)

theorem T_laws_szKidMarkS_good (N : Nat) : Good Try.prog 207 (T_laws_szKidMarkS_sg N) :=
  good_body mixedOk tabOk (ctx_cons (T_laws_szKidMark_good N) T_laws_szKidMark_callable ctx_nil) Try.func207 (T_laws_szKidMarkS_ok N) (fun d _ h => ⟨N, (T_laws_szKidMarkS_den N d.1 d.2.1).trans h⟩)

noncomputable def T_laws_szKidRun_sg (N : Nat) : Sig := Sig.of [.v (TY_KidRun) true, .v (.int .i64) false] [.v (.int .i64) false] (fun d => T_laws_szKidRun N d.1 d.2.1)

def T_laws_szKidRun_ann : Nat → List Ghost
  | _ => []

noncomputable def T_laws_szKidRun_ctx (N : Nat) : Ctx := [(114, T_laws_szIntS_sg N), (188, T_laws_szEntryS_sg N), (155, T_laws_szRowS_sg N), (207, T_laws_szKidMarkS_sg N)]

theorem T_laws_szKidRun_den (N : Nat) (a1 : Y_KidRun) (left2 : Int) :
    den (R := ODen (T_laws_szKidRun_sg N).ps × RDen (T_laws_szKidRun_sg N).rs) tab (T_laws_szKidRun_ctx N) T_laws_szKidRun_ann N (T_laws_szKidRun_sg N) Try.f201 (a1, left2, ()) some =
    ((T_laws_szIntS N a1.2.2.2.2.2.2.1 left2).bind fun o3 =>
    (bif decide (o3.2.1 < (0 : Int)) then
      (some (α := ODen (T_laws_szKidRun_sg N).ps × RDen (T_laws_szKidRun_sg N).rs) ((), ((-1 : Int), ())))
      else
      ((T_laws_szEntryS N a1.2.2.2.2.2.2.2.1 o3.2.1).bind fun o4 =>
        (bif decide (o4.2.1 < (0 : Int)) then
          (some (α := ODen (T_laws_szKidRun_sg N).ps × RDen (T_laws_szKidRun_sg N).rs) ((), ((-1 : Int), ())))
          else
          ((T_laws_szRowS N a1.2.2.2.2.2.2.2.2.1 o4.2.1).bind fun o5 =>
            (bif decide (o5.2.1 < (0 : Int)) then
              (some (α := ODen (T_laws_szKidRun_sg N).ps × RDen (T_laws_szKidRun_sg N).rs) ((), ((-1 : Int), ())))
              else
              ((T_laws_szKidMarkS N a1.2.2.2.2.2.2.2.2.2.1 o5.2.1).bind fun o6 =>
                (bif decide (o6.2.1 < (0 : Int)) then
                  (some (α := ODen (T_laws_szKidRun_sg N).ps × RDen (T_laws_szKidRun_sg N).rs) ((), ((-1 : Int), ())))
                  else
                  (some (α := ODen (T_laws_szKidRun_sg N).ps × RDen (T_laws_szKidRun_sg N).rs) ((), (o6.2.1, ()))))))))))) := by kernel_rfl

theorem T_laws_szKidRun_ok (N : Nat) : chkBody Try.f201 (T_laws_szKidRun_sg N).ps = true := by kernel_rfl

theorem T_laws_szKidRun_callable : Callable Try.prog 201 := callable_of Try.func201 (show chkFn Try.f201 = true by kernel_rfl)

theorem T_laws_szKidRun_good (N : Nat) : Good Try.prog 201 (T_laws_szKidRun_sg N) :=
  good_body mixedOk tabOk (ctx_cons (T_laws_szIntS_good N) T_laws_szIntS_callable (ctx_cons (T_laws_szEntryS_good N) T_laws_szEntryS_callable (ctx_cons (T_laws_szRowS_good N) T_laws_szRowS_callable (ctx_cons (T_laws_szKidMarkS_good N) T_laws_szKidMarkS_callable ctx_nil)))) Try.func201 (T_laws_szKidRun_ok N) (fun d _ h => ⟨N, (T_laws_szKidRun_den N d.1 d.2.1).trans h⟩)

noncomputable def T_laws_szKidRunS_sg (N : Nat) : Sig := Sig.of [.v (.slice (TY_KidRun)) false, .v (.int .i64) false] [.v (.int .i64) false] (fun d => T_laws_szKidRunS N d.1 d.2.1)

def T_laws_szKidRunS_ann : Nat → List Ghost
  | 5 => [.canon [0, 1, 5, 15]]
  | 6 => [.canon [0, 1, 5]]
  | 7 => [.canon [0, 1, 5]]
  | 8 => [.canon [0, 1, 5, 25]]
  | 9 => [.canon [4]]
  | 100005 => [.canon [0, 1, 5]]
  | _ => []

noncomputable def T_laws_szKidRunS_ctx (N : Nat) : Ctx := [(201, T_laws_szKidRun_sg N)]

def T_laws_szKidRunS_lp0_sh (a3 : List Y_KidRun) (left4 : Int) (i5 : Int) : St := { env := [(0, .s (.one (.val (.slice (TY_KidRun)) (a3 : List Y_KidRun)))), (1, .s (.one (.val (.int .i64) (left4 : Int)))), (5, .s (.one (.val (.int .i64) (i5 : Int))))], objs := [], nx := 0 }

def T_laws_szKidRunS_lp0_e0 (a3 : List Y_KidRun) : St := { env := [(4, .s (.one (.val (.int .i64) ((-1 : Int) : Int))))], objs := [], nx := 0 }

def T_laws_szKidRunS_lp0_e1 (a3 : List Y_KidRun) (left7 : Int) (i8 : Int) (t9 : Bool) : St := { env := [(0, .s (.one (.val (.slice (TY_KidRun)) (a3 : List Y_KidRun)))), (1, .s (.one (.val (.int .i64) (left7 : Int)))), (5, .s (.one (.val (.int .i64) (i8 : Int)))), (15, .s (.one (.val (.bool) (t9 : Bool))))], objs := [], nx := 0 }

noncomputable def T_laws_szKidRunS_lp0_m (N : Nat) {R : Type} (n : Nat) (st : St) (K : Ex → St → Option R) : Option R := loopN (roundG (T_laws_szKidRunS_ann 100005) fun st k => sx tab (T_laws_szKidRunS_ctx N) T_laws_szKidRunS_ann N (nthLoop Try.f189 0) st k) n st K

theorem T_laws_szKidRunS_lp0_step (N : Nat) {R : Type} (n : Nat) (K : Ex → St → Option R) (a3 : List Y_KidRun) (left4 : Int) (i5 : Int) :
    T_laws_szKidRunS_lp0_m N (n + 1) (T_laws_szKidRunS_lp0_sh a3 left4 i5) K =
    (bif decide (i5 < (ilen a3)) then
    (bif inb i5 (List.length a3) then
      ((T_laws_szKidRun N (List.getD a3 (Int.toNat i5) d_KidRun) left4).bind fun o10 =>
        (bif decide (o10.2.1 < (0 : Int)) then
          (K .ret (T_laws_szKidRunS_lp0_e0 a3))
          else
          (T_laws_szKidRunS_lp0_m N n (T_laws_szKidRunS_lp0_sh a3 o10.2.1 (iadd .i64 i5 (1 : Int))) K))) else none)
    else
    (K (.exit 0) (T_laws_szKidRunS_lp0_e1 a3 left4 i5 (decide (i5 < (ilen a3)))))) := by kernel_rfl

theorem T_laws_szKidRunS_lp0_eq (N : Nat) {R : Type} (a3 : List Y_KidRun) (K : Ex → St → Option R) : ∀ (n : Nat) (left4 : Int) (i5 : Int), T_laws_szKidRunS_lp0_m N n (T_laws_szKidRunS_lp0_sh a3 left4 i5) K = T_laws_szKidRunS_lp0 N a3 (K .ret (T_laws_szKidRunS_lp0_e0 a3)) (fun left7 i8 t9 => (K (.exit 0) (T_laws_szKidRunS_lp0_e1 a3 left7 i8 t9))) n left4 i5
  | 0, _, _ => rfl
  | n + 1, left4, i5 => by rw [T_laws_szKidRunS_lp0_step, T_laws_szKidRunS_lp0]; (try simp only [T_laws_szKidRunS_lp0_eq N a3 K n])

theorem T_laws_szKidRunS_c1 (N : Nat) (a1 : List Y_KidRun) :
    ((ctxK (R := ODen (T_laws_szKidRunS_sg N).ps × RDen (T_laws_szKidRunS_sg N).rs) tab (T_laws_szKidRunS_ctx N) T_laws_szKidRunS_ann N (theCode Try.f189) [1, 1, 1, 0, 1, 0] (retK tab (T_laws_szKidRunS_sg N) Try.f189.results.toList some)) .ret (T_laws_szKidRunS_lp0_e0 a1)) =
    (some (α := ODen (T_laws_szKidRunS_sg N).ps × RDen (T_laws_szKidRunS_sg N).rs) ((), ((-1 : Int), ()))) := by kernel_rfl

theorem T_laws_szKidRunS_c2 (N : Nat) (a1 : List Y_KidRun) (left11 : Int) (i12 : Int) (t13 : Bool) :
    ((ctxK (R := ODen (T_laws_szKidRunS_sg N).ps × RDen (T_laws_szKidRunS_sg N).rs) tab (T_laws_szKidRunS_ctx N) T_laws_szKidRunS_ann N (theCode Try.f189) [1, 1, 1, 0, 1, 0] (retK tab (T_laws_szKidRunS_sg N) Try.f189.results.toList some)) (.exit 0) (T_laws_szKidRunS_lp0_e1 a1 left11 i12 t13)) =
    (some (α := ODen (T_laws_szKidRunS_sg N).ps × RDen (T_laws_szKidRunS_sg N).rs) ((), (left11, ()))) := by kernel_rfl

theorem T_laws_szKidRunS_den (N : Nat) (a1 : List Y_KidRun) (left2 : Int) :
    den (R := ODen (T_laws_szKidRunS_sg N).ps × RDen (T_laws_szKidRunS_sg N).rs) tab (T_laws_szKidRunS_ctx N) T_laws_szKidRunS_ann N (T_laws_szKidRunS_sg N) Try.f189 (a1, left2, ()) some =
    (bif decide ((isub .i64 left2 (ilen a1)) < (0 : Int)) then
    (some (α := ODen (T_laws_szKidRunS_sg N).ps × RDen (T_laws_szKidRunS_sg N).rs) ((), ((-1 : Int), ())))
    else
    (T_laws_szKidRunS_lp0 N a1
      (some (α := ODen (T_laws_szKidRunS_sg N).ps × RDen (T_laws_szKidRunS_sg N).rs) ((), ((-1 : Int), ())))
      (fun left11 i12 t13 =>
        (some (α := ODen (T_laws_szKidRunS_sg N).ps × RDen (T_laws_szKidRunS_sg N).rs) ((), (left11, ()))))
       N (isub .i64 left2 (ilen a1)) (0 : Int))) := by
  have h : den (R := ODen (T_laws_szKidRunS_sg N).ps × RDen (T_laws_szKidRunS_sg N).rs) tab (T_laws_szKidRunS_ctx N) T_laws_szKidRunS_ann N (T_laws_szKidRunS_sg N) Try.f189 (a1, left2, ()) some =
    (bif decide ((isub .i64 left2 (ilen a1)) < (0 : Int)) then
    (some (α := ODen (T_laws_szKidRunS_sg N).ps × RDen (T_laws_szKidRunS_sg N).rs) ((), ((-1 : Int), ())))
    else
    (T_laws_szKidRunS_lp0_m N N (T_laws_szKidRunS_lp0_sh a1 (isub .i64 left2 (ilen a1)) (0 : Int)) (ctxK (R := ODen (T_laws_szKidRunS_sg N).ps × RDen (T_laws_szKidRunS_sg N).rs) tab (T_laws_szKidRunS_ctx N) T_laws_szKidRunS_ann N (theCode Try.f189) [1, 1, 1, 0, 1, 0] (retK tab (T_laws_szKidRunS_sg N) Try.f189.results.toList some)))) := by kernel_rfl
  rw [h]
  (try simp only [T_laws_szKidRunS_lp0_eq, T_laws_szKidRunS_c1, T_laws_szKidRunS_c2]) <;> rfl

theorem T_laws_szKidRunS_ok (N : Nat) : chkBody Try.f189 (T_laws_szKidRunS_sg N).ps = true := by kernel_rfl

theorem T_laws_szKidRunS_callable : Callable Try.prog 189 := callable_of Try.func189 (show chkFn Try.f189 = true by kernel_rfl)

theorem T_laws_szKidRunS_good (N : Nat) : Good Try.prog 189 (T_laws_szKidRunS_sg N) :=
  good_body mixedOk tabOk (ctx_cons (T_laws_szKidRun_good N) T_laws_szKidRun_callable ctx_nil) Try.func189 (T_laws_szKidRunS_ok N) (fun d _ h => ⟨N, (T_laws_szKidRunS_den N d.1 d.2.1).trans h⟩)

noncomputable def T_laws_szFamily_sg (N : Nat) : Sig := Sig.of [.v (TY_Family) true, .v (.int .i64) false] [.v (.int .i64) false] (fun d => T_laws_szFamily N d.1 d.2.1)

def T_laws_szFamily_ann : Nat → List Ghost
  | _ => []

noncomputable def T_laws_szFamily_ctx (N : Nat) : Ctx := [(114, T_laws_szIntS_sg N), (155, T_laws_szRowS_sg N), (188, T_laws_szEntryS_sg N), (189, T_laws_szKidRunS_sg N)]

theorem T_laws_szFamily_den (N : Nat) (a1 : Y_Family) (left2 : Int) :
    den (R := ODen (T_laws_szFamily_sg N).ps × RDen (T_laws_szFamily_sg N).rs) tab (T_laws_szFamily_ctx N) T_laws_szFamily_ann N (T_laws_szFamily_sg N) Try.f159 (a1, left2, ()) some =
    ((T_laws_szIntS N a1.2.2.2.2.1 left2).bind fun o3 =>
    (bif decide (o3.2.1 < (0 : Int)) then
      (some (α := ODen (T_laws_szFamily_sg N).ps × RDen (T_laws_szFamily_sg N).rs) ((), ((-1 : Int), ())))
      else
      ((T_laws_szRowS N a1.2.2.2.2.2.1 o3.2.1).bind fun o4 =>
        (bif decide (o4.2.1 < (0 : Int)) then
          (some (α := ODen (T_laws_szFamily_sg N).ps × RDen (T_laws_szFamily_sg N).rs) ((), ((-1 : Int), ())))
          else
          ((T_laws_szEntryS N a1.2.2.2.2.2.2.1 o4.2.1).bind fun o5 =>
            (bif decide (o5.2.1 < (0 : Int)) then
              (some (α := ODen (T_laws_szFamily_sg N).ps × RDen (T_laws_szFamily_sg N).rs) ((), ((-1 : Int), ())))
              else
              ((T_laws_szIntS N a1.2.2.2.2.2.2.2.1 o5.2.1).bind fun o6 =>
                (bif decide (o6.2.1 < (0 : Int)) then
                  (some (α := ODen (T_laws_szFamily_sg N).ps × RDen (T_laws_szFamily_sg N).rs) ((), ((-1 : Int), ())))
                  else
                  ((T_laws_szRowS N a1.2.2.2.2.2.2.2.2.1 o6.2.1).bind fun o7 =>
                    (bif decide (o7.2.1 < (0 : Int)) then
                      (some (α := ODen (T_laws_szFamily_sg N).ps × RDen (T_laws_szFamily_sg N).rs) ((), ((-1 : Int), ())))
                      else
                      ((T_laws_szKidRunS N a1.2.2.2.2.2.2.2.2.2 o7.2.1).bind fun o8 =>
                        (bif decide (o8.2.1 < (0 : Int)) then
                          (some (α := ODen (T_laws_szFamily_sg N).ps × RDen (T_laws_szFamily_sg N).rs) ((), ((-1 : Int), ())))
                          else
                          (some (α := ODen (T_laws_szFamily_sg N).ps × RDen (T_laws_szFamily_sg N).rs) ((), (o8.2.1, ()))))))))))))))) := by kernel_rfl

theorem T_laws_szFamily_ok (N : Nat) : chkBody Try.f159 (T_laws_szFamily_sg N).ps = true := by kernel_rfl

theorem T_laws_szFamily_callable : Callable Try.prog 159 := callable_of Try.func159 (show chkFn Try.f159 = true by kernel_rfl)

theorem T_laws_szFamily_good (N : Nat) : Good Try.prog 159 (T_laws_szFamily_sg N) :=
  good_body mixedOk tabOk (ctx_cons (T_laws_szIntS_good N) T_laws_szIntS_callable (ctx_cons (T_laws_szRowS_good N) T_laws_szRowS_callable (ctx_cons (T_laws_szEntryS_good N) T_laws_szEntryS_callable (ctx_cons (T_laws_szKidRunS_good N) T_laws_szKidRunS_callable ctx_nil)))) Try.func159 (T_laws_szFamily_ok N) (fun d _ h => ⟨N, (T_laws_szFamily_den N d.1 d.2.1).trans h⟩)

noncomputable def T_laws_szRoot_sg (N : Nat) : Sig := Sig.of [.v (TY_Root) true, .v (.int .i64) false] [.v (.int .i64) false] (fun d => T_laws_szRoot N d.1 d.2.1)

def T_laws_szRoot_ann : Nat → List Ghost
  | _ => []

noncomputable def T_laws_szRoot_ctx (N : Nat) : Ctx := [(114, T_laws_szIntS_sg N), (155, T_laws_szRowS_sg N), (156, T_laws_szMarkS_sg N), (157, T_laws_szUndoS_sg N), (158, T_laws_szCommit_sg N), (159, T_laws_szFamily_sg N)]

theorem T_laws_szRoot_den (N : Nat) (a1 : Y_Root) (left2 : Int) :
    den (R := ODen (T_laws_szRoot_sg N).ps × RDen (T_laws_szRoot_sg N).rs) tab (T_laws_szRoot_ctx N) T_laws_szRoot_ann N (T_laws_szRoot_sg N) Try.f115 (a1, left2, ()) some =
    ((T_laws_szIntS N a1.2.2.2.2.2.2.2.2.2.2.2.2.1 left2).bind fun o3 =>
    (bif decide (o3.2.1 < (0 : Int)) then
      (some (α := ODen (T_laws_szRoot_sg N).ps × RDen (T_laws_szRoot_sg N).rs) ((), ((-1 : Int), ())))
      else
      ((T_laws_szRowS N a1.2.2.2.2.2.2.2.2.2.2.2.2.2.1 o3.2.1).bind fun o4 =>
        (bif decide (o4.2.1 < (0 : Int)) then
          (some (α := ODen (T_laws_szRoot_sg N).ps × RDen (T_laws_szRoot_sg N).rs) ((), ((-1 : Int), ())))
          else
          ((T_laws_szRowS N a1.2.2.2.2.2.2.2.2.2.2.2.2.2.2.1 o4.2.1).bind fun o5 =>
            (bif decide (o5.2.1 < (0 : Int)) then
              (some (α := ODen (T_laws_szRoot_sg N).ps × RDen (T_laws_szRoot_sg N).rs) ((), ((-1 : Int), ())))
              else
              ((T_laws_szMarkS N a1.2.2.2.2.2.2.2.2.2.2.2.2.2.2.2.1 o5.2.1).bind fun o6 =>
                (bif decide (o6.2.1 < (0 : Int)) then
                  (some (α := ODen (T_laws_szRoot_sg N).ps × RDen (T_laws_szRoot_sg N).rs) ((), ((-1 : Int), ())))
                  else
                  ((T_laws_szUndoS N a1.2.2.2.2.2.2.2.2.2.2.2.2.2.2.2.2.1 o6.2.1).bind fun o7 =>
                    (bif decide (o7.2.1 < (0 : Int)) then
                      (some (α := ODen (T_laws_szRoot_sg N).ps × RDen (T_laws_szRoot_sg N).rs) ((), ((-1 : Int), ())))
                      else
                      ((T_laws_szIntS N a1.2.2.2.2.2.2.2.2.2.2.2.2.2.2.2.2.2.1 o7.2.1).bind fun o8 =>
                        (bif decide (o8.2.1 < (0 : Int)) then
                          (some (α := ODen (T_laws_szRoot_sg N).ps × RDen (T_laws_szRoot_sg N).rs) ((), ((-1 : Int), ())))
                          else
                          ((T_laws_szCommit N a1.2.2.2.2.2.2.2.2.2.2.2.2.2.2.2.2.2.2.2.2.1 o8.2.1).bind fun o9 =>
                            (bif decide (o9.2.1 < (0 : Int)) then
                              (some (α := ODen (T_laws_szRoot_sg N).ps × RDen (T_laws_szRoot_sg N).rs) ((), ((-1 : Int), ())))
                              else
                              ((T_laws_szFamily N a1.2.2.2.2.2.2.2.2.2.2.2.2.2.2.2.2.2.2.2.2.2 o9.2.1).bind fun o10 =>
                                (bif decide (o10.2.1 < (0 : Int)) then
                                  (some (α := ODen (T_laws_szRoot_sg N).ps × RDen (T_laws_szRoot_sg N).rs) ((), ((-1 : Int), ())))
                                  else
                                  (some (α := ODen (T_laws_szRoot_sg N).ps × RDen (T_laws_szRoot_sg N).rs) ((), (o10.2.1, ()))))))))))))))))))) := by kernel_rfl

theorem T_laws_szRoot_ok (N : Nat) : chkBody Try.f115 (T_laws_szRoot_sg N).ps = true := by kernel_rfl

theorem T_laws_szRoot_callable : Callable Try.prog 115 := callable_of Try.func115 (show chkFn Try.f115 = true by kernel_rfl)

theorem T_laws_szRoot_good (N : Nat) : Good Try.prog 115 (T_laws_szRoot_sg N) :=
  good_body mixedOk tabOk (ctx_cons (T_laws_szIntS_good N) T_laws_szIntS_callable (ctx_cons (T_laws_szRowS_good N) T_laws_szRowS_callable (ctx_cons (T_laws_szMarkS_good N) T_laws_szMarkS_callable (ctx_cons (T_laws_szUndoS_good N) T_laws_szUndoS_callable (ctx_cons (T_laws_szCommit_good N) T_laws_szCommit_callable (ctx_cons (T_laws_szFamily_good N) T_laws_szFamily_callable ctx_nil)))))) Try.func115 (T_laws_szRoot_ok N) (fun d _ h => ⟨N, (T_laws_szRoot_den N d.1 d.2.1).trans h⟩)

noncomputable def T_laws_szRootS_sg (N : Nat) : Sig := Sig.of [.v (.slice (TY_Root)) false, .v (.int .i64) false] [.v (.int .i64) false] (fun d => T_laws_szRootS N d.1 d.2.1)

def T_laws_szRootS_ann : Nat → List Ghost
  | 5 => [.canon [0, 1, 5, 15]]
  | 6 => [.canon [0, 1, 5]]
  | 7 => [.canon [0, 1, 5]]
  | 8 => [.canon [0, 1, 5, 25]]
  | 9 => [.canon [4]]
  | 100005 => [.canon [0, 1, 5]]
  | _ => []

noncomputable def T_laws_szRootS_ctx (N : Nat) : Ctx := [(115, T_laws_szRoot_sg N)]

def T_laws_szRootS_lp0_sh (a3 : List Y_Root) (left4 : Int) (i5 : Int) : St := { env := [(0, .s (.one (.val (.slice (TY_Root)) (a3 : List Y_Root)))), (1, .s (.one (.val (.int .i64) (left4 : Int)))), (5, .s (.one (.val (.int .i64) (i5 : Int))))], objs := [], nx := 0 }

def T_laws_szRootS_lp0_e0 (a3 : List Y_Root) : St := { env := [(4, .s (.one (.val (.int .i64) ((-1 : Int) : Int))))], objs := [], nx := 0 }

def T_laws_szRootS_lp0_e1 (a3 : List Y_Root) (left7 : Int) (i8 : Int) (t9 : Bool) : St := { env := [(0, .s (.one (.val (.slice (TY_Root)) (a3 : List Y_Root)))), (1, .s (.one (.val (.int .i64) (left7 : Int)))), (5, .s (.one (.val (.int .i64) (i8 : Int)))), (15, .s (.one (.val (.bool) (t9 : Bool))))], objs := [], nx := 0 }

noncomputable def T_laws_szRootS_lp0_m (N : Nat) {R : Type} (n : Nat) (st : St) (K : Ex → St → Option R) : Option R := loopN (roundG (T_laws_szRootS_ann 100005) fun st k => sx tab (T_laws_szRootS_ctx N) T_laws_szRootS_ann N (nthLoop Try.f70 0) st k) n st K

theorem T_laws_szRootS_lp0_step (N : Nat) {R : Type} (n : Nat) (K : Ex → St → Option R) (a3 : List Y_Root) (left4 : Int) (i5 : Int) :
    T_laws_szRootS_lp0_m N (n + 1) (T_laws_szRootS_lp0_sh a3 left4 i5) K =
    (bif decide (i5 < (ilen a3)) then
    (bif inb i5 (List.length a3) then
      ((T_laws_szRoot N (List.getD a3 (Int.toNat i5) d_Root) left4).bind fun o10 =>
        (bif decide (o10.2.1 < (0 : Int)) then
          (K .ret (T_laws_szRootS_lp0_e0 a3))
          else
          (T_laws_szRootS_lp0_m N n (T_laws_szRootS_lp0_sh a3 o10.2.1 (iadd .i64 i5 (1 : Int))) K))) else none)
    else
    (K (.exit 0) (T_laws_szRootS_lp0_e1 a3 left4 i5 (decide (i5 < (ilen a3)))))) := by kernel_rfl

theorem T_laws_szRootS_lp0_eq (N : Nat) {R : Type} (a3 : List Y_Root) (K : Ex → St → Option R) : ∀ (n : Nat) (left4 : Int) (i5 : Int), T_laws_szRootS_lp0_m N n (T_laws_szRootS_lp0_sh a3 left4 i5) K = T_laws_szRootS_lp0 N a3 (K .ret (T_laws_szRootS_lp0_e0 a3)) (fun left7 i8 t9 => (K (.exit 0) (T_laws_szRootS_lp0_e1 a3 left7 i8 t9))) n left4 i5
  | 0, _, _ => rfl
  | n + 1, left4, i5 => by rw [T_laws_szRootS_lp0_step, T_laws_szRootS_lp0]; (try simp only [T_laws_szRootS_lp0_eq N a3 K n])

theorem T_laws_szRootS_c1 (N : Nat) (a1 : List Y_Root) :
    ((ctxK (R := ODen (T_laws_szRootS_sg N).ps × RDen (T_laws_szRootS_sg N).rs) tab (T_laws_szRootS_ctx N) T_laws_szRootS_ann N (theCode Try.f70) [1, 1, 1, 0, 1, 0] (retK tab (T_laws_szRootS_sg N) Try.f70.results.toList some)) .ret (T_laws_szRootS_lp0_e0 a1)) =
    (some (α := ODen (T_laws_szRootS_sg N).ps × RDen (T_laws_szRootS_sg N).rs) ((), ((-1 : Int), ()))) := by kernel_rfl

theorem T_laws_szRootS_c2 (N : Nat) (a1 : List Y_Root) (left11 : Int) (i12 : Int) (t13 : Bool) :
    ((ctxK (R := ODen (T_laws_szRootS_sg N).ps × RDen (T_laws_szRootS_sg N).rs) tab (T_laws_szRootS_ctx N) T_laws_szRootS_ann N (theCode Try.f70) [1, 1, 1, 0, 1, 0] (retK tab (T_laws_szRootS_sg N) Try.f70.results.toList some)) (.exit 0) (T_laws_szRootS_lp0_e1 a1 left11 i12 t13)) =
    (some (α := ODen (T_laws_szRootS_sg N).ps × RDen (T_laws_szRootS_sg N).rs) ((), (left11, ()))) := by kernel_rfl

theorem T_laws_szRootS_den (N : Nat) (a1 : List Y_Root) (left2 : Int) :
    den (R := ODen (T_laws_szRootS_sg N).ps × RDen (T_laws_szRootS_sg N).rs) tab (T_laws_szRootS_ctx N) T_laws_szRootS_ann N (T_laws_szRootS_sg N) Try.f70 (a1, left2, ()) some =
    (bif decide ((isub .i64 left2 (ilen a1)) < (0 : Int)) then
    (some (α := ODen (T_laws_szRootS_sg N).ps × RDen (T_laws_szRootS_sg N).rs) ((), ((-1 : Int), ())))
    else
    (T_laws_szRootS_lp0 N a1
      (some (α := ODen (T_laws_szRootS_sg N).ps × RDen (T_laws_szRootS_sg N).rs) ((), ((-1 : Int), ())))
      (fun left11 i12 t13 =>
        (some (α := ODen (T_laws_szRootS_sg N).ps × RDen (T_laws_szRootS_sg N).rs) ((), (left11, ()))))
       N (isub .i64 left2 (ilen a1)) (0 : Int))) := by
  have h : den (R := ODen (T_laws_szRootS_sg N).ps × RDen (T_laws_szRootS_sg N).rs) tab (T_laws_szRootS_ctx N) T_laws_szRootS_ann N (T_laws_szRootS_sg N) Try.f70 (a1, left2, ()) some =
    (bif decide ((isub .i64 left2 (ilen a1)) < (0 : Int)) then
    (some (α := ODen (T_laws_szRootS_sg N).ps × RDen (T_laws_szRootS_sg N).rs) ((), ((-1 : Int), ())))
    else
    (T_laws_szRootS_lp0_m N N (T_laws_szRootS_lp0_sh a1 (isub .i64 left2 (ilen a1)) (0 : Int)) (ctxK (R := ODen (T_laws_szRootS_sg N).ps × RDen (T_laws_szRootS_sg N).rs) tab (T_laws_szRootS_ctx N) T_laws_szRootS_ann N (theCode Try.f70) [1, 1, 1, 0, 1, 0] (retK tab (T_laws_szRootS_sg N) Try.f70.results.toList some)))) := by kernel_rfl
  rw [h]
  (try simp only [T_laws_szRootS_lp0_eq, T_laws_szRootS_c1, T_laws_szRootS_c2]) <;> rfl

theorem T_laws_szRootS_ok (N : Nat) : chkBody Try.f70 (T_laws_szRootS_sg N).ps = true := by kernel_rfl

theorem T_laws_szRootS_callable : Callable Try.prog 70 := callable_of Try.func70 (show chkFn Try.f70 = true by kernel_rfl)

theorem T_laws_szRootS_good (N : Nat) : Good Try.prog 70 (T_laws_szRootS_sg N) :=
  good_body mixedOk tabOk (ctx_cons (T_laws_szRoot_good N) T_laws_szRoot_callable ctx_nil) Try.func70 (T_laws_szRootS_ok N) (fun d _ h => ⟨N, (T_laws_szRootS_den N d.1 d.2.1).trans h⟩)

noncomputable def T_laws_szWrote_sg (N : Nat) : Sig := Sig.of [.v (.prod (.int .i64) (.prod (.int .i64) (.slice (.prod (.int .i64) (.int .i64))))) true, .v (.int .i64) false] [.v (.int .i64) false] (fun d => T_laws_szWrote N d.1 d.2.1)

def T_laws_szWrote_ann : Nat → List Ghost
  | _ => []

noncomputable def T_laws_szWrote_ctx (N : Nat) : Ctx := [(155, T_laws_szRowS_sg N)]

theorem T_laws_szWrote_den (N : Nat) (a1 : Int × Int × List (Int × Int)) (left2 : Int) :
    den (R := ODen (T_laws_szWrote_sg N).ps × RDen (T_laws_szWrote_sg N).rs) tab (T_laws_szWrote_ctx N) T_laws_szWrote_ann N (T_laws_szWrote_sg N) Try.f116 (a1, left2, ()) some =
    ((T_laws_szRowS N a1.2.2 left2).bind fun o3 =>
    (bif decide (o3.2.1 < (0 : Int)) then
      (some (α := ODen (T_laws_szWrote_sg N).ps × RDen (T_laws_szWrote_sg N).rs) ((), ((-1 : Int), ())))
      else
      (some (α := ODen (T_laws_szWrote_sg N).ps × RDen (T_laws_szWrote_sg N).rs) ((), (o3.2.1, ()))))) := by kernel_rfl

theorem T_laws_szWrote_ok (N : Nat) : chkBody Try.f116 (T_laws_szWrote_sg N).ps = true := by kernel_rfl

theorem T_laws_szWrote_callable : Callable Try.prog 116 := callable_of Try.func116 (show chkFn Try.f116 = true by kernel_rfl)

theorem T_laws_szWrote_good (N : Nat) : Good Try.prog 116 (T_laws_szWrote_sg N) :=
  good_body mixedOk tabOk (ctx_cons (T_laws_szRowS_good N) T_laws_szRowS_callable ctx_nil) Try.func116 (T_laws_szWrote_ok N) (fun d _ h => ⟨N, (T_laws_szWrote_den N d.1 d.2.1).trans h⟩)

noncomputable def T_laws_szWroteS_sg (N : Nat) : Sig := Sig.of [.v (.slice (.prod (.int .i64) (.prod (.int .i64) (.slice (.prod (.int .i64) (.int .i64)))))) false, .v (.int .i64) false] [.v (.int .i64) false] (fun d => T_laws_szWroteS N d.1 d.2.1)

def T_laws_szWroteS_ann : Nat → List Ghost
  | 5 => [.canon [0, 1, 5, 15]]
  | 6 => [.canon [0, 1, 5]]
  | 7 => [.canon [0, 1, 5]]
  | 8 => [.canon [0, 1, 5, 25]]
  | 9 => [.canon [4]]
  | 100005 => [.canon [0, 1, 5]]
  | _ => []

noncomputable def T_laws_szWroteS_ctx (N : Nat) : Ctx := [(116, T_laws_szWrote_sg N)]

def T_laws_szWroteS_lp0_sh (a3 : List (Int × Int × List (Int × Int))) (left4 : Int) (i5 : Int) : St := { env := [(0, .s (.one (.val (.slice (.prod (.int .i64) (.prod (.int .i64) (.slice (.prod (.int .i64) (.int .i64)))))) (a3 : List (Int × Int × List (Int × Int)))))), (1, .s (.one (.val (.int .i64) (left4 : Int)))), (5, .s (.one (.val (.int .i64) (i5 : Int))))], objs := [], nx := 0 }

def T_laws_szWroteS_lp0_e0 (a3 : List (Int × Int × List (Int × Int))) : St := { env := [(4, .s (.one (.val (.int .i64) ((-1 : Int) : Int))))], objs := [], nx := 0 }

def T_laws_szWroteS_lp0_e1 (a3 : List (Int × Int × List (Int × Int))) (left7 : Int) (i8 : Int) (t9 : Bool) : St := { env := [(0, .s (.one (.val (.slice (.prod (.int .i64) (.prod (.int .i64) (.slice (.prod (.int .i64) (.int .i64)))))) (a3 : List (Int × Int × List (Int × Int)))))), (1, .s (.one (.val (.int .i64) (left7 : Int)))), (5, .s (.one (.val (.int .i64) (i8 : Int)))), (15, .s (.one (.val (.bool) (t9 : Bool))))], objs := [], nx := 0 }

noncomputable def T_laws_szWroteS_lp0_m (N : Nat) {R : Type} (n : Nat) (st : St) (K : Ex → St → Option R) : Option R := loopN (roundG (T_laws_szWroteS_ann 100005) fun st k => sx tab (T_laws_szWroteS_ctx N) T_laws_szWroteS_ann N (nthLoop Try.f71 0) st k) n st K

theorem T_laws_szWroteS_lp0_step (N : Nat) {R : Type} (n : Nat) (K : Ex → St → Option R) (a3 : List (Int × Int × List (Int × Int))) (left4 : Int) (i5 : Int) :
    T_laws_szWroteS_lp0_m N (n + 1) (T_laws_szWroteS_lp0_sh a3 left4 i5) K =
    (bif decide (i5 < (ilen a3)) then
    (bif inb i5 (List.length a3) then
      ((T_laws_szWrote N (List.getD a3 (Int.toNat i5) ((0 : Int), ((0 : Int), ([] : List (Int × Int))))) left4).bind fun o10 =>
        (bif decide (o10.2.1 < (0 : Int)) then
          (K .ret (T_laws_szWroteS_lp0_e0 a3))
          else
          (T_laws_szWroteS_lp0_m N n (T_laws_szWroteS_lp0_sh a3 o10.2.1 (iadd .i64 i5 (1 : Int))) K))) else none)
    else
    (K (.exit 0) (T_laws_szWroteS_lp0_e1 a3 left4 i5 (decide (i5 < (ilen a3)))))) := by kernel_rfl

theorem T_laws_szWroteS_lp0_eq (N : Nat) {R : Type} (a3 : List (Int × Int × List (Int × Int))) (K : Ex → St → Option R) : ∀ (n : Nat) (left4 : Int) (i5 : Int), T_laws_szWroteS_lp0_m N n (T_laws_szWroteS_lp0_sh a3 left4 i5) K = T_laws_szWroteS_lp0 N a3 (K .ret (T_laws_szWroteS_lp0_e0 a3)) (fun left7 i8 t9 => (K (.exit 0) (T_laws_szWroteS_lp0_e1 a3 left7 i8 t9))) n left4 i5
  | 0, _, _ => rfl
  | n + 1, left4, i5 => by rw [T_laws_szWroteS_lp0_step, T_laws_szWroteS_lp0]; (try simp only [T_laws_szWroteS_lp0_eq N a3 K n])

theorem T_laws_szWroteS_c1 (N : Nat) (a1 : List (Int × Int × List (Int × Int))) :
    ((ctxK (R := ODen (T_laws_szWroteS_sg N).ps × RDen (T_laws_szWroteS_sg N).rs) tab (T_laws_szWroteS_ctx N) T_laws_szWroteS_ann N (theCode Try.f71) [1, 1, 1, 0, 1, 0] (retK tab (T_laws_szWroteS_sg N) Try.f71.results.toList some)) .ret (T_laws_szWroteS_lp0_e0 a1)) =
    (some (α := ODen (T_laws_szWroteS_sg N).ps × RDen (T_laws_szWroteS_sg N).rs) ((), ((-1 : Int), ()))) := by kernel_rfl

theorem T_laws_szWroteS_c2 (N : Nat) (a1 : List (Int × Int × List (Int × Int))) (left11 : Int) (i12 : Int) (t13 : Bool) :
    ((ctxK (R := ODen (T_laws_szWroteS_sg N).ps × RDen (T_laws_szWroteS_sg N).rs) tab (T_laws_szWroteS_ctx N) T_laws_szWroteS_ann N (theCode Try.f71) [1, 1, 1, 0, 1, 0] (retK tab (T_laws_szWroteS_sg N) Try.f71.results.toList some)) (.exit 0) (T_laws_szWroteS_lp0_e1 a1 left11 i12 t13)) =
    (some (α := ODen (T_laws_szWroteS_sg N).ps × RDen (T_laws_szWroteS_sg N).rs) ((), (left11, ()))) := by kernel_rfl

theorem T_laws_szWroteS_den (N : Nat) (a1 : List (Int × Int × List (Int × Int))) (left2 : Int) :
    den (R := ODen (T_laws_szWroteS_sg N).ps × RDen (T_laws_szWroteS_sg N).rs) tab (T_laws_szWroteS_ctx N) T_laws_szWroteS_ann N (T_laws_szWroteS_sg N) Try.f71 (a1, left2, ()) some =
    (bif decide ((isub .i64 left2 (ilen a1)) < (0 : Int)) then
    (some (α := ODen (T_laws_szWroteS_sg N).ps × RDen (T_laws_szWroteS_sg N).rs) ((), ((-1 : Int), ())))
    else
    (T_laws_szWroteS_lp0 N a1
      (some (α := ODen (T_laws_szWroteS_sg N).ps × RDen (T_laws_szWroteS_sg N).rs) ((), ((-1 : Int), ())))
      (fun left11 i12 t13 =>
        (some (α := ODen (T_laws_szWroteS_sg N).ps × RDen (T_laws_szWroteS_sg N).rs) ((), (left11, ()))))
       N (isub .i64 left2 (ilen a1)) (0 : Int))) := by
  have h : den (R := ODen (T_laws_szWroteS_sg N).ps × RDen (T_laws_szWroteS_sg N).rs) tab (T_laws_szWroteS_ctx N) T_laws_szWroteS_ann N (T_laws_szWroteS_sg N) Try.f71 (a1, left2, ()) some =
    (bif decide ((isub .i64 left2 (ilen a1)) < (0 : Int)) then
    (some (α := ODen (T_laws_szWroteS_sg N).ps × RDen (T_laws_szWroteS_sg N).rs) ((), ((-1 : Int), ())))
    else
    (T_laws_szWroteS_lp0_m N N (T_laws_szWroteS_lp0_sh a1 (isub .i64 left2 (ilen a1)) (0 : Int)) (ctxK (R := ODen (T_laws_szWroteS_sg N).ps × RDen (T_laws_szWroteS_sg N).rs) tab (T_laws_szWroteS_ctx N) T_laws_szWroteS_ann N (theCode Try.f71) [1, 1, 1, 0, 1, 0] (retK tab (T_laws_szWroteS_sg N) Try.f71.results.toList some)))) := by kernel_rfl
  rw [h]
  (try simp only [T_laws_szWroteS_lp0_eq, T_laws_szWroteS_c1, T_laws_szWroteS_c2]) <;> rfl

theorem T_laws_szWroteS_ok (N : Nat) : chkBody Try.f71 (T_laws_szWroteS_sg N).ps = true := by kernel_rfl

theorem T_laws_szWroteS_callable : Callable Try.prog 71 := callable_of Try.func71 (show chkFn Try.f71 = true by kernel_rfl)

theorem T_laws_szWroteS_good (N : Nat) : Good Try.prog 71 (T_laws_szWroteS_sg N) :=
  good_body mixedOk tabOk (ctx_cons (T_laws_szWrote_good N) T_laws_szWrote_callable ctx_nil) Try.func71 (T_laws_szWroteS_ok N) (fun d _ h => ⟨N, (T_laws_szWroteS_den N d.1 d.2.1).trans h⟩)

noncomputable def T_laws_szWorld_sg (N : Nat) : Sig := Sig.of [.v (TY_World) true, .v (.int .i64) false] [.v (.int .i64) false] (fun d => T_laws_szWorld N d.1 d.2.1)

def T_laws_szWorld_ann : Nat → List Ghost
  | _ => []

noncomputable def T_laws_szWorld_ctx (N : Nat) : Ctx := [(67, T_laws_szMem_sg N), (68, T_laws_szShelf_sg N), (69, T_laws_szHoldS_sg N), (70, T_laws_szRootS_sg N), (71, T_laws_szWroteS_sg N)]

theorem T_laws_szWorld_den (N : Nat) (a1 : Y_World) (left2 : Int) :
    den (R := ODen (T_laws_szWorld_sg N).ps × RDen (T_laws_szWorld_sg N).rs) tab (T_laws_szWorld_ctx N) T_laws_szWorld_ann N (T_laws_szWorld_sg N) Try.f30 (a1, left2, ()) some =
    ((T_laws_szMem N a1.2.2.1 left2).bind fun o3 =>
    (bif decide (o3.2.1 < (0 : Int)) then
      (some (α := ODen (T_laws_szWorld_sg N).ps × RDen (T_laws_szWorld_sg N).rs) ((), ((-1 : Int), ())))
      else
      ((T_laws_szShelf N a1.2.2.2.1 o3.2.1).bind fun o4 =>
        (bif decide (o4.2.1 < (0 : Int)) then
          (some (α := ODen (T_laws_szWorld_sg N).ps × RDen (T_laws_szWorld_sg N).rs) ((), ((-1 : Int), ())))
          else
          ((T_laws_szHoldS N a1.2.2.2.2.1 o4.2.1).bind fun o5 =>
            (bif decide (o5.2.1 < (0 : Int)) then
              (some (α := ODen (T_laws_szWorld_sg N).ps × RDen (T_laws_szWorld_sg N).rs) ((), ((-1 : Int), ())))
              else
              ((T_laws_szRootS N a1.2.2.2.2.2.1 o5.2.1).bind fun o6 =>
                (bif decide (o6.2.1 < (0 : Int)) then
                  (some (α := ODen (T_laws_szWorld_sg N).ps × RDen (T_laws_szWorld_sg N).rs) ((), ((-1 : Int), ())))
                  else
                  ((T_laws_szWroteS N a1.2.2.2.2.2.2 o6.2.1).bind fun o7 =>
                    (bif decide (o7.2.1 < (0 : Int)) then
                      (some (α := ODen (T_laws_szWorld_sg N).ps × RDen (T_laws_szWorld_sg N).rs) ((), ((-1 : Int), ())))
                      else
                      (some (α := ODen (T_laws_szWorld_sg N).ps × RDen (T_laws_szWorld_sg N).rs) ((), (o7.2.1, ()))))))))))))) := by kernel_rfl

theorem T_laws_szWorld_ok (N : Nat) : chkBody Try.f30 (T_laws_szWorld_sg N).ps = true := by kernel_rfl

theorem T_laws_szWorld_callable : Callable Try.prog 30 := callable_of Try.func30 (show chkFn Try.f30 = true by kernel_rfl)

theorem T_laws_szWorld_good (N : Nat) : Good Try.prog 30 (T_laws_szWorld_sg N) :=
  good_body mixedOk tabOk (ctx_cons (T_laws_szMem_good N) T_laws_szMem_callable (ctx_cons (T_laws_szShelf_good N) T_laws_szShelf_callable (ctx_cons (T_laws_szHoldS_good N) T_laws_szHoldS_callable (ctx_cons (T_laws_szRootS_good N) T_laws_szRootS_callable (ctx_cons (T_laws_szWroteS_good N) T_laws_szWroteS_callable ctx_nil))))) Try.func30 (T_laws_szWorld_ok N) (fun d _ h => ⟨N, (T_laws_szWorld_den N d.1 d.2.1).trans h⟩)

noncomputable def T_laws_toWord_sg (N : Nat) : Sig := Sig.of [.v (.prod (.int .i64) (.prod (.int .i64) (.int .i64))) true] [.v (.prod (.int .i64) (.prod (.int .i64) (.int .i64))) true] (fun d => T_laws_toWord N d.1)

def T_laws_toWord_ann : Nat → List Ghost
  | _ => []

noncomputable def T_laws_toWord_ctx (N : Nat) : Ctx := []

theorem T_laws_toWord_den (N : Nat) (a1 : Int × Int × Int) :
    den (R := ODen (T_laws_toWord_sg N).ps × RDen (T_laws_toWord_sg N).rs) tab (T_laws_toWord_ctx N) T_laws_toWord_ann N (T_laws_toWord_sg N) Try.f160 (a1, ()) some =
    (some (α := ODen (T_laws_toWord_sg N).ps × RDen (T_laws_toWord_sg N).rs) ((), (a1, ()))) := by kernel_rfl

theorem T_laws_toWord_ok (N : Nat) : chkBody Try.f160 (T_laws_toWord_sg N).ps = true := by kernel_rfl

theorem T_laws_toWord_callable : Callable Try.prog 160 := callable_of Try.func160 (show chkFn Try.f160 = true by kernel_rfl)

theorem T_laws_toWord_good (N : Nat) : Good Try.prog 160 (T_laws_toWord_sg N) :=
  good_body mixedOk tabOk ctx_nil Try.func160 (T_laws_toWord_ok N) (fun d _ h => ⟨N, (T_laws_toWord_den N d.1).trans h⟩)

noncomputable def T_laws_toWordS_sg (N : Nat) : Sig := Sig.of [.v (.slice (.prod (.int .i64) (.prod (.int .i64) (.int .i64)))) false] [.v (.own (.prod (.int .i64) (.prod (.int .i64) (.int .i64)))) false] (fun d => T_laws_toWordS N d.1)

def T_laws_toWordS_ann : Nat → List Ghost
  | 3 => [.canon [0, 3, 4, 11]]
  | 4 => [.canon [0, 3, 4]]
  | 5 => [.canon [0, 3, 4]]
  | 100003 => [.canon [0, 3, 4]]
  | _ => []

noncomputable def T_laws_toWordS_ctx (N : Nat) : Ctx := [(160, T_laws_toWord_sg N)]

def T_laws_toWordS_lp0_sh (a2 : List (Int × Int × Int)) (i3 : Int) (l4 : List (Int × Int × Int)) : St := { env := [(0, .s (.one (.val (.slice (.prod (.int .i64) (.prod (.int .i64) (.int .i64)))) (a2 : List (Int × Int × Int))))), (3, .s (.one (.own 0))), (4, .s (.one (.val (.int .i64) (i3 : Int))))], objs := [(0, .arr (.prod (.int .i64) (.prod (.int .i64) (.int .i64))) (l4 : List (Int × Int × Int)))], nx := 1 }

def T_laws_toWordS_lp0_e0 (a2 : List (Int × Int × Int)) (i6 : Int) (t7 : Bool) (l8 : List (Int × Int × Int)) : St := { env := [(0, .s (.one (.val (.slice (.prod (.int .i64) (.prod (.int .i64) (.int .i64)))) (a2 : List (Int × Int × Int))))), (3, .s (.one (.own 0))), (4, .s (.one (.val (.int .i64) (i6 : Int)))), (11, .s (.one (.val (.bool) (t7 : Bool))))], objs := [(0, .arr (.prod (.int .i64) (.prod (.int .i64) (.int .i64))) (l8 : List (Int × Int × Int)))], nx := 1 }

noncomputable def T_laws_toWordS_lp0_m (N : Nat) {R : Type} (n : Nat) (st : St) (K : Ex → St → Option R) : Option R := loopN (roundG (T_laws_toWordS_ann 100003) fun st k => sx tab (T_laws_toWordS_ctx N) T_laws_toWordS_ann N (nthLoop Try.f117 0) st k) n st K

theorem T_laws_toWordS_lp0_step (N : Nat) {R : Type} (n : Nat) (K : Ex → St → Option R) (a2 : List (Int × Int × Int)) (i3 : Int) (l4 : List (Int × Int × Int)) :
    T_laws_toWordS_lp0_m N (n + 1) (T_laws_toWordS_lp0_sh a2 i3 l4) K =
    (bif decide (i3 < (ilen a2)) then
    (bif inb i3 (List.length a2) then
      ((T_laws_toWord N (List.getD a2 (Int.toNat i3) ((0 : Int), ((0 : Int), (0 : Int))))).bind fun o9 =>
        (bif inb i3 (List.length l4) then
          (T_laws_toWordS_lp0_m N n (T_laws_toWordS_lp0_sh a2 (iadd .i64 i3 (1 : Int)) (List.set l4 (Int.toNat i3) o9.2.1)) K) else none)) else none)
    else
    (K (.exit 0) (T_laws_toWordS_lp0_e0 a2 i3 (decide (i3 < (ilen a2))) l4))) := by kernel_rfl

theorem T_laws_toWordS_lp0_eq (N : Nat) {R : Type} (a2 : List (Int × Int × Int)) (K : Ex → St → Option R) : ∀ (n : Nat) (i3 : Int) (l4 : List (Int × Int × Int)), T_laws_toWordS_lp0_m N n (T_laws_toWordS_lp0_sh a2 i3 l4) K = T_laws_toWordS_lp0 N a2 (fun i6 t7 l8 => (K (.exit 0) (T_laws_toWordS_lp0_e0 a2 i6 t7 l8))) n i3 l4
  | 0, _, _ => rfl
  | n + 1, i3, l4 => by rw [T_laws_toWordS_lp0_step, T_laws_toWordS_lp0]; (try simp only [T_laws_toWordS_lp0_eq N a2 K n])

theorem T_laws_toWordS_c1 (N : Nat) (a1 : List (Int × Int × Int)) (i10 : Int) (t11 : Bool) (l12 : List (Int × Int × Int)) :
    ((ctxK (R := ODen (T_laws_toWordS_sg N).ps × RDen (T_laws_toWordS_sg N).rs) tab (T_laws_toWordS_ctx N) T_laws_toWordS_ann N (theCode Try.f117) [1, 1, 0, 1, 0] (retK tab (T_laws_toWordS_sg N) Try.f117.results.toList some)) (.exit 0) (T_laws_toWordS_lp0_e0 a1 i10 t11 l12)) =
    (some (α := ODen (T_laws_toWordS_sg N).ps × RDen (T_laws_toWordS_sg N).rs) ((), (l12, ()))) := by kernel_rfl

theorem T_laws_toWordS_den (N : Nat) (a1 : List (Int × Int × Int)) :
    den (R := ODen (T_laws_toWordS_sg N).ps × RDen (T_laws_toWordS_sg N).rs) tab (T_laws_toWordS_ctx N) T_laws_toWordS_ann N (T_laws_toWordS_sg N) Try.f117 (a1, ()) some =
    (bif ((decide ((0 : Int) ≤ (ilen a1))) && (decide ((ilen a1) ≤ (ilen a1)))) && (room (Int.toNat (ilen a1))) then
    (T_laws_toWordS_lp0 N a1
      (fun i10 t11 l12 =>
        (some (α := ODen (T_laws_toWordS_sg N).ps × RDen (T_laws_toWordS_sg N).rs) ((), (l12, ()))))
       N (0 : Int) (List.replicate (Int.toNat (ilen a1)) ((0 : Int), ((0 : Int), (0 : Int))))) else none) := by
  have h : den (R := ODen (T_laws_toWordS_sg N).ps × RDen (T_laws_toWordS_sg N).rs) tab (T_laws_toWordS_ctx N) T_laws_toWordS_ann N (T_laws_toWordS_sg N) Try.f117 (a1, ()) some =
    (bif ((decide ((0 : Int) ≤ (ilen a1))) && (decide ((ilen a1) ≤ (ilen a1)))) && (room (Int.toNat (ilen a1))) then
    (T_laws_toWordS_lp0_m N N (T_laws_toWordS_lp0_sh a1 (0 : Int) (List.replicate (Int.toNat (ilen a1)) ((0 : Int), ((0 : Int), (0 : Int))))) (ctxK (R := ODen (T_laws_toWordS_sg N).ps × RDen (T_laws_toWordS_sg N).rs) tab (T_laws_toWordS_ctx N) T_laws_toWordS_ann N (theCode Try.f117) [1, 1, 0, 1, 0] (retK tab (T_laws_toWordS_sg N) Try.f117.results.toList some))) else none) := by kernel_rfl
  rw [h]
  (try simp only [T_laws_toWordS_lp0_eq, T_laws_toWordS_c1]) <;> rfl

theorem T_laws_toWordS_ok (N : Nat) : chkBody Try.f117 (T_laws_toWordS_sg N).ps = true := by kernel_rfl

theorem T_laws_toWordS_callable : Callable Try.prog 117 := callable_of Try.func117 (show chkFn Try.f117 = true by kernel_rfl)

theorem T_laws_toWordS_good (N : Nat) : Good Try.prog 117 (T_laws_toWordS_sg N) :=
  good_body mixedOk tabOk (ctx_cons (T_laws_toWord_good N) T_laws_toWord_callable ctx_nil) Try.func117 (T_laws_toWordS_ok N) (fun d _ h => ⟨N, (T_laws_toWordS_den N d.1).trans h⟩)

noncomputable def T_laws_toMem_sg (N : Nat) : Sig := Sig.of [.v (.prod (.int .i64) (.slice (.prod (.int .i64) (.prod (.int .i64) (.int .i64))))) true] [.v (.prod (.int .i64) (.own (.prod (.int .i64) (.prod (.int .i64) (.int .i64))))) true] (fun d => T_laws_toMem N d.1)

def T_laws_toMem_ann : Nat → List Ghost
  | _ => []

noncomputable def T_laws_toMem_ctx (N : Nat) : Ctx := [(117, T_laws_toWordS_sg N)]

theorem T_laws_toMem_den (N : Nat) (a1 : Int × List (Int × Int × Int)) :
    den (R := ODen (T_laws_toMem_sg N).ps × RDen (T_laws_toMem_sg N).rs) tab (T_laws_toMem_ctx N) T_laws_toMem_ann N (T_laws_toMem_sg N) Try.f73 (a1, ()) some =
    ((T_laws_toWordS N a1.2).bind fun o2 =>
    (some (α := ODen (T_laws_toMem_sg N).ps × RDen (T_laws_toMem_sg N).rs) ((), ((a1.1, o2.2.1), ())))) := by kernel_rfl

theorem T_laws_toMem_ok (N : Nat) : chkBody Try.f73 (T_laws_toMem_sg N).ps = true := by kernel_rfl

theorem T_laws_toMem_callable : Callable Try.prog 73 := callable_of Try.func73 (show chkFn Try.f73 = true by kernel_rfl)

theorem T_laws_toMem_good (N : Nat) : Good Try.prog 73 (T_laws_toMem_sg N) :=
  good_body mixedOk tabOk (ctx_cons (T_laws_toWordS_good N) T_laws_toWordS_callable ctx_nil) Try.func73 (T_laws_toMem_ok N) (fun d _ h => ⟨N, (T_laws_toMem_den N d.1).trans h⟩)

noncomputable def T_laws_toIntS_sg (N : Nat) : Sig := Sig.of [.v (.slice (.int .i64)) false] [.v (.own (.int .i64)) false] (fun d => T_laws_toIntS N d.1)

def T_laws_toIntS_ann : Nat → List Ghost
  | 3 => [.canon [0, 3, 4, 11]]
  | 4 => [.canon [0, 3, 4]]
  | 5 => [.canon [0, 3, 4]]
  | 100003 => [.canon [0, 3, 4]]
  | _ => []

noncomputable def T_laws_toIntS_ctx (N : Nat) : Ctx := []

def T_laws_toIntS_lp0_sh (a2 : List Int) (i3 : Int) (l4 : List Int) : St := { env := [(0, .s (.one (.val (.slice (.int .i64)) (a2 : List Int)))), (3, .s (.one (.own 0))), (4, .s (.one (.val (.int .i64) (i3 : Int))))], objs := [(0, .arr (.int .i64) (l4 : List Int))], nx := 1 }

def T_laws_toIntS_lp0_e0 (a2 : List Int) (i5 : Int) (t6 : Bool) (l7 : List Int) : St := { env := [(0, .s (.one (.val (.slice (.int .i64)) (a2 : List Int)))), (3, .s (.one (.own 0))), (4, .s (.one (.val (.int .i64) (i5 : Int)))), (11, .s (.one (.val (.bool) (t6 : Bool))))], objs := [(0, .arr (.int .i64) (l7 : List Int))], nx := 1 }

noncomputable def T_laws_toIntS_lp0_m (N : Nat) {R : Type} (n : Nat) (st : St) (K : Ex → St → Option R) : Option R := loopN (roundG (T_laws_toIntS_ann 100003) fun st k => sx tab (T_laws_toIntS_ctx N) T_laws_toIntS_ann N (nthLoop Try.f11 0) st k) n st K

theorem T_laws_toIntS_lp0_step (N : Nat) {R : Type} (n : Nat) (K : Ex → St → Option R) (a2 : List Int) (i3 : Int) (l4 : List Int) :
    T_laws_toIntS_lp0_m N (n + 1) (T_laws_toIntS_lp0_sh a2 i3 l4) K =
    (bif decide (i3 < (ilen a2)) then
    (bif inb i3 (List.length a2) then
      (bif inb i3 (List.length l4) then
        (T_laws_toIntS_lp0_m N n (T_laws_toIntS_lp0_sh a2 (iadd .i64 i3 (1 : Int)) (List.set l4 (Int.toNat i3) (List.getD a2 (Int.toNat i3) (0 : Int)))) K) else none) else none)
    else
    (K (.exit 0) (T_laws_toIntS_lp0_e0 a2 i3 (decide (i3 < (ilen a2))) l4))) := by kernel_rfl

theorem T_laws_toIntS_lp0_eq (N : Nat) {R : Type} (a2 : List Int) (K : Ex → St → Option R) : ∀ (n : Nat) (i3 : Int) (l4 : List Int), T_laws_toIntS_lp0_m N n (T_laws_toIntS_lp0_sh a2 i3 l4) K = T_laws_toIntS_lp0 N a2 (fun i5 t6 l7 => (K (.exit 0) (T_laws_toIntS_lp0_e0 a2 i5 t6 l7))) n i3 l4
  | 0, _, _ => rfl
  | n + 1, i3, l4 => by rw [T_laws_toIntS_lp0_step, T_laws_toIntS_lp0]; (try simp only [T_laws_toIntS_lp0_eq N a2 K n])

theorem T_laws_toIntS_c1 (N : Nat) (a1 : List Int) (i8 : Int) (t9 : Bool) (l10 : List Int) :
    ((ctxK (R := ODen (T_laws_toIntS_sg N).ps × RDen (T_laws_toIntS_sg N).rs) tab (T_laws_toIntS_ctx N) T_laws_toIntS_ann N (theCode Try.f11) [1, 1, 0, 1, 0] (retK tab (T_laws_toIntS_sg N) Try.f11.results.toList some)) (.exit 0) (T_laws_toIntS_lp0_e0 a1 i8 t9 l10)) =
    (some (α := ODen (T_laws_toIntS_sg N).ps × RDen (T_laws_toIntS_sg N).rs) ((), (l10, ()))) := by kernel_rfl

theorem T_laws_toIntS_den (N : Nat) (a1 : List Int) :
    den (R := ODen (T_laws_toIntS_sg N).ps × RDen (T_laws_toIntS_sg N).rs) tab (T_laws_toIntS_ctx N) T_laws_toIntS_ann N (T_laws_toIntS_sg N) Try.f11 (a1, ()) some =
    (bif ((decide ((0 : Int) ≤ (ilen a1))) && (decide ((ilen a1) ≤ (ilen a1)))) && (room (Int.toNat (ilen a1))) then
    (T_laws_toIntS_lp0 N a1
      (fun i8 t9 l10 =>
        (some (α := ODen (T_laws_toIntS_sg N).ps × RDen (T_laws_toIntS_sg N).rs) ((), (l10, ()))))
       N (0 : Int) (List.replicate (Int.toNat (ilen a1)) (0 : Int))) else none) := by
  have h : den (R := ODen (T_laws_toIntS_sg N).ps × RDen (T_laws_toIntS_sg N).rs) tab (T_laws_toIntS_ctx N) T_laws_toIntS_ann N (T_laws_toIntS_sg N) Try.f11 (a1, ()) some =
    (bif ((decide ((0 : Int) ≤ (ilen a1))) && (decide ((ilen a1) ≤ (ilen a1)))) && (room (Int.toNat (ilen a1))) then
    (T_laws_toIntS_lp0_m N N (T_laws_toIntS_lp0_sh a1 (0 : Int) (List.replicate (Int.toNat (ilen a1)) (0 : Int))) (ctxK (R := ODen (T_laws_toIntS_sg N).ps × RDen (T_laws_toIntS_sg N).rs) tab (T_laws_toIntS_ctx N) T_laws_toIntS_ann N (theCode Try.f11) [1, 1, 0, 1, 0] (retK tab (T_laws_toIntS_sg N) Try.f11.results.toList some))) else none) := by kernel_rfl
  rw [h]
  (try simp only [T_laws_toIntS_lp0_eq, T_laws_toIntS_c1]) <;> rfl

theorem T_laws_toIntS_ok (N : Nat) : chkBody Try.f11 (T_laws_toIntS_sg N).ps = true := by kernel_rfl

theorem T_laws_toIntS_callable : Callable Try.prog 11 := callable_of Try.func11 (show chkFn Try.f11 = true by kernel_rfl)

theorem T_laws_toIntS_good (N : Nat) : Good Try.prog 11 (T_laws_toIntS_sg N) :=
  good_body mixedOk tabOk ctx_nil Try.func11 (T_laws_toIntS_ok N) (fun d _ h => ⟨N, (T_laws_toIntS_den N d.1).trans h⟩)

noncomputable def T_laws_toShelf_sg (N : Nat) : Sig := Sig.of [.v (.prod (.slice (.int .i64)) (.int .i64)) true] [.v (.prod (.own (.int .i64)) (.int .i64)) true] (fun d => T_laws_toShelf N d.1)

def T_laws_toShelf_ann : Nat → List Ghost
  | _ => []

noncomputable def T_laws_toShelf_ctx (N : Nat) : Ctx := [(11, T_laws_toIntS_sg N)]

theorem T_laws_toShelf_den (N : Nat) (a1 : List Int × Int) :
    den (R := ODen (T_laws_toShelf_sg N).ps × RDen (T_laws_toShelf_sg N).rs) tab (T_laws_toShelf_ctx N) T_laws_toShelf_ann N (T_laws_toShelf_sg N) Try.f74 (a1, ()) some =
    ((T_laws_toIntS N a1.1).bind fun o2 =>
    (some (α := ODen (T_laws_toShelf_sg N).ps × RDen (T_laws_toShelf_sg N).rs) ((), ((o2.2.1, a1.2), ())))) := by kernel_rfl

theorem T_laws_toShelf_ok (N : Nat) : chkBody Try.f74 (T_laws_toShelf_sg N).ps = true := by kernel_rfl

theorem T_laws_toShelf_callable : Callable Try.prog 74 := callable_of Try.func74 (show chkFn Try.f74 = true by kernel_rfl)

theorem T_laws_toShelf_good (N : Nat) : Good Try.prog 74 (T_laws_toShelf_sg N) :=
  good_body mixedOk tabOk (ctx_cons (T_laws_toIntS_good N) T_laws_toIntS_callable ctx_nil) Try.func74 (T_laws_toShelf_ok N) (fun d _ h => ⟨N, (T_laws_toShelf_den N d.1).trans h⟩)

noncomputable def T_laws_toHold_sg (N : Nat) : Sig := Sig.of [.v (.prod (.int .i64) (.prod (.int .i64) (.int .i64))) true] [.v (.prod (.int .i64) (.prod (.int .i64) (.int .i64))) true] (fun d => T_laws_toHold N d.1)

def T_laws_toHold_ann : Nat → List Ghost
  | _ => []

noncomputable def T_laws_toHold_ctx (N : Nat) : Ctx := []

theorem T_laws_toHold_den (N : Nat) (a1 : Int × Int × Int) :
    den (R := ODen (T_laws_toHold_sg N).ps × RDen (T_laws_toHold_sg N).rs) tab (T_laws_toHold_ctx N) T_laws_toHold_ann N (T_laws_toHold_sg N) Try.f118 (a1, ()) some =
    (some (α := ODen (T_laws_toHold_sg N).ps × RDen (T_laws_toHold_sg N).rs) ((), (a1, ()))) := by kernel_rfl

theorem T_laws_toHold_ok (N : Nat) : chkBody Try.f118 (T_laws_toHold_sg N).ps = true := by kernel_rfl

theorem T_laws_toHold_callable : Callable Try.prog 118 := callable_of Try.func118 (show chkFn Try.f118 = true by kernel_rfl)

theorem T_laws_toHold_good (N : Nat) : Good Try.prog 118 (T_laws_toHold_sg N) :=
  good_body mixedOk tabOk ctx_nil Try.func118 (T_laws_toHold_ok N) (fun d _ h => ⟨N, (T_laws_toHold_den N d.1).trans h⟩)

noncomputable def T_laws_toHoldS_sg (N : Nat) : Sig := Sig.of [.v (.slice (.prod (.int .i64) (.prod (.int .i64) (.int .i64)))) false] [.v (.own (.prod (.int .i64) (.prod (.int .i64) (.int .i64)))) false] (fun d => T_laws_toHoldS N d.1)

def T_laws_toHoldS_ann : Nat → List Ghost
  | 3 => [.canon [0, 3, 4, 11]]
  | 4 => [.canon [0, 3, 4]]
  | 5 => [.canon [0, 3, 4]]
  | 100003 => [.canon [0, 3, 4]]
  | _ => []

noncomputable def T_laws_toHoldS_ctx (N : Nat) : Ctx := [(118, T_laws_toHold_sg N)]

def T_laws_toHoldS_lp0_sh (a2 : List (Int × Int × Int)) (i3 : Int) (l4 : List (Int × Int × Int)) : St := { env := [(0, .s (.one (.val (.slice (.prod (.int .i64) (.prod (.int .i64) (.int .i64)))) (a2 : List (Int × Int × Int))))), (3, .s (.one (.own 0))), (4, .s (.one (.val (.int .i64) (i3 : Int))))], objs := [(0, .arr (.prod (.int .i64) (.prod (.int .i64) (.int .i64))) (l4 : List (Int × Int × Int)))], nx := 1 }

def T_laws_toHoldS_lp0_e0 (a2 : List (Int × Int × Int)) (i6 : Int) (t7 : Bool) (l8 : List (Int × Int × Int)) : St := { env := [(0, .s (.one (.val (.slice (.prod (.int .i64) (.prod (.int .i64) (.int .i64)))) (a2 : List (Int × Int × Int))))), (3, .s (.one (.own 0))), (4, .s (.one (.val (.int .i64) (i6 : Int)))), (11, .s (.one (.val (.bool) (t7 : Bool))))], objs := [(0, .arr (.prod (.int .i64) (.prod (.int .i64) (.int .i64))) (l8 : List (Int × Int × Int)))], nx := 1 }

noncomputable def T_laws_toHoldS_lp0_m (N : Nat) {R : Type} (n : Nat) (st : St) (K : Ex → St → Option R) : Option R := loopN (roundG (T_laws_toHoldS_ann 100003) fun st k => sx tab (T_laws_toHoldS_ctx N) T_laws_toHoldS_ann N (nthLoop Try.f75 0) st k) n st K

theorem T_laws_toHoldS_lp0_step (N : Nat) {R : Type} (n : Nat) (K : Ex → St → Option R) (a2 : List (Int × Int × Int)) (i3 : Int) (l4 : List (Int × Int × Int)) :
    T_laws_toHoldS_lp0_m N (n + 1) (T_laws_toHoldS_lp0_sh a2 i3 l4) K =
    (bif decide (i3 < (ilen a2)) then
    (bif inb i3 (List.length a2) then
      ((T_laws_toHold N (List.getD a2 (Int.toNat i3) ((0 : Int), ((0 : Int), (0 : Int))))).bind fun o9 =>
        (bif inb i3 (List.length l4) then
          (T_laws_toHoldS_lp0_m N n (T_laws_toHoldS_lp0_sh a2 (iadd .i64 i3 (1 : Int)) (List.set l4 (Int.toNat i3) o9.2.1)) K) else none)) else none)
    else
    (K (.exit 0) (T_laws_toHoldS_lp0_e0 a2 i3 (decide (i3 < (ilen a2))) l4))) := by kernel_rfl

theorem T_laws_toHoldS_lp0_eq (N : Nat) {R : Type} (a2 : List (Int × Int × Int)) (K : Ex → St → Option R) : ∀ (n : Nat) (i3 : Int) (l4 : List (Int × Int × Int)), T_laws_toHoldS_lp0_m N n (T_laws_toHoldS_lp0_sh a2 i3 l4) K = T_laws_toHoldS_lp0 N a2 (fun i6 t7 l8 => (K (.exit 0) (T_laws_toHoldS_lp0_e0 a2 i6 t7 l8))) n i3 l4
  | 0, _, _ => rfl
  | n + 1, i3, l4 => by rw [T_laws_toHoldS_lp0_step, T_laws_toHoldS_lp0]; (try simp only [T_laws_toHoldS_lp0_eq N a2 K n])

theorem T_laws_toHoldS_c1 (N : Nat) (a1 : List (Int × Int × Int)) (i10 : Int) (t11 : Bool) (l12 : List (Int × Int × Int)) :
    ((ctxK (R := ODen (T_laws_toHoldS_sg N).ps × RDen (T_laws_toHoldS_sg N).rs) tab (T_laws_toHoldS_ctx N) T_laws_toHoldS_ann N (theCode Try.f75) [1, 1, 0, 1, 0] (retK tab (T_laws_toHoldS_sg N) Try.f75.results.toList some)) (.exit 0) (T_laws_toHoldS_lp0_e0 a1 i10 t11 l12)) =
    (some (α := ODen (T_laws_toHoldS_sg N).ps × RDen (T_laws_toHoldS_sg N).rs) ((), (l12, ()))) := by kernel_rfl

theorem T_laws_toHoldS_den (N : Nat) (a1 : List (Int × Int × Int)) :
    den (R := ODen (T_laws_toHoldS_sg N).ps × RDen (T_laws_toHoldS_sg N).rs) tab (T_laws_toHoldS_ctx N) T_laws_toHoldS_ann N (T_laws_toHoldS_sg N) Try.f75 (a1, ()) some =
    (bif ((decide ((0 : Int) ≤ (ilen a1))) && (decide ((ilen a1) ≤ (ilen a1)))) && (room (Int.toNat (ilen a1))) then
    (T_laws_toHoldS_lp0 N a1
      (fun i10 t11 l12 =>
        (some (α := ODen (T_laws_toHoldS_sg N).ps × RDen (T_laws_toHoldS_sg N).rs) ((), (l12, ()))))
       N (0 : Int) (List.replicate (Int.toNat (ilen a1)) ((0 : Int), ((0 : Int), (0 : Int))))) else none) := by
  have h : den (R := ODen (T_laws_toHoldS_sg N).ps × RDen (T_laws_toHoldS_sg N).rs) tab (T_laws_toHoldS_ctx N) T_laws_toHoldS_ann N (T_laws_toHoldS_sg N) Try.f75 (a1, ()) some =
    (bif ((decide ((0 : Int) ≤ (ilen a1))) && (decide ((ilen a1) ≤ (ilen a1)))) && (room (Int.toNat (ilen a1))) then
    (T_laws_toHoldS_lp0_m N N (T_laws_toHoldS_lp0_sh a1 (0 : Int) (List.replicate (Int.toNat (ilen a1)) ((0 : Int), ((0 : Int), (0 : Int))))) (ctxK (R := ODen (T_laws_toHoldS_sg N).ps × RDen (T_laws_toHoldS_sg N).rs) tab (T_laws_toHoldS_ctx N) T_laws_toHoldS_ann N (theCode Try.f75) [1, 1, 0, 1, 0] (retK tab (T_laws_toHoldS_sg N) Try.f75.results.toList some))) else none) := by kernel_rfl
  rw [h]
  (try simp only [T_laws_toHoldS_lp0_eq, T_laws_toHoldS_c1]) <;> rfl

theorem T_laws_toHoldS_ok (N : Nat) : chkBody Try.f75 (T_laws_toHoldS_sg N).ps = true := by kernel_rfl

theorem T_laws_toHoldS_callable : Callable Try.prog 75 := callable_of Try.func75 (show chkFn Try.f75 = true by kernel_rfl)

theorem T_laws_toHoldS_good (N : Nat) : Good Try.prog 75 (T_laws_toHoldS_sg N) :=
  good_body mixedOk tabOk (ctx_cons (T_laws_toHold_good N) T_laws_toHold_callable ctx_nil) Try.func75 (T_laws_toHoldS_ok N) (fun d _ h => ⟨N, (T_laws_toHoldS_den N d.1).trans h⟩)

noncomputable def T_laws_toRow_sg (N : Nat) : Sig := Sig.of [.v (.prod (.int .i64) (.int .i64)) true] [.v (.prod (.int .i64) (.int .i64)) true] (fun d => T_laws_toRow N d.1)

def T_laws_toRow_ann : Nat → List Ghost
  | _ => []

noncomputable def T_laws_toRow_ctx (N : Nat) : Ctx := []

theorem T_laws_toRow_den (N : Nat) (a1 : Int × Int) :
    den (R := ODen (T_laws_toRow_sg N).ps × RDen (T_laws_toRow_sg N).rs) tab (T_laws_toRow_ctx N) T_laws_toRow_ann N (T_laws_toRow_sg N) Try.f190 (a1, ()) some =
    (some (α := ODen (T_laws_toRow_sg N).ps × RDen (T_laws_toRow_sg N).rs) ((), (a1, ()))) := by kernel_rfl

theorem T_laws_toRow_ok (N : Nat) : chkBody Try.f190 (T_laws_toRow_sg N).ps = true := by kernel_rfl

theorem T_laws_toRow_callable : Callable Try.prog 190 := callable_of Try.func190 (show chkFn Try.f190 = true by kernel_rfl)

theorem T_laws_toRow_good (N : Nat) : Good Try.prog 190 (T_laws_toRow_sg N) :=
  good_body mixedOk tabOk ctx_nil Try.func190 (T_laws_toRow_ok N) (fun d _ h => ⟨N, (T_laws_toRow_den N d.1).trans h⟩)

noncomputable def T_laws_toRowS_sg (N : Nat) : Sig := Sig.of [.v (.slice (.prod (.int .i64) (.int .i64))) false] [.v (.own (.prod (.int .i64) (.int .i64))) false] (fun d => T_laws_toRowS N d.1)

def T_laws_toRowS_ann : Nat → List Ghost
  | 3 => [.canon [0, 3, 4, 11]]
  | 4 => [.canon [0, 3, 4]]
  | 5 => [.canon [0, 3, 4]]
  | 100003 => [.canon [0, 3, 4]]
  | _ => []

noncomputable def T_laws_toRowS_ctx (N : Nat) : Ctx := [(190, T_laws_toRow_sg N)]

def T_laws_toRowS_lp0_sh (a2 : List (Int × Int)) (i3 : Int) (l4 : List (Int × Int)) : St := { env := [(0, .s (.one (.val (.slice (.prod (.int .i64) (.int .i64))) (a2 : List (Int × Int))))), (3, .s (.one (.own 0))), (4, .s (.one (.val (.int .i64) (i3 : Int))))], objs := [(0, .arr (.prod (.int .i64) (.int .i64)) (l4 : List (Int × Int)))], nx := 1 }

def T_laws_toRowS_lp0_e0 (a2 : List (Int × Int)) (i6 : Int) (t7 : Bool) (l8 : List (Int × Int)) : St := { env := [(0, .s (.one (.val (.slice (.prod (.int .i64) (.int .i64))) (a2 : List (Int × Int))))), (3, .s (.one (.own 0))), (4, .s (.one (.val (.int .i64) (i6 : Int)))), (11, .s (.one (.val (.bool) (t7 : Bool))))], objs := [(0, .arr (.prod (.int .i64) (.int .i64)) (l8 : List (Int × Int)))], nx := 1 }

noncomputable def T_laws_toRowS_lp0_m (N : Nat) {R : Type} (n : Nat) (st : St) (K : Ex → St → Option R) : Option R := loopN (roundG (T_laws_toRowS_ann 100003) fun st k => sx tab (T_laws_toRowS_ctx N) T_laws_toRowS_ann N (nthLoop Try.f161 0) st k) n st K

theorem T_laws_toRowS_lp0_step (N : Nat) {R : Type} (n : Nat) (K : Ex → St → Option R) (a2 : List (Int × Int)) (i3 : Int) (l4 : List (Int × Int)) :
    T_laws_toRowS_lp0_m N (n + 1) (T_laws_toRowS_lp0_sh a2 i3 l4) K =
    (bif decide (i3 < (ilen a2)) then
    (bif inb i3 (List.length a2) then
      ((T_laws_toRow N (List.getD a2 (Int.toNat i3) ((0 : Int), (0 : Int)))).bind fun o9 =>
        (bif inb i3 (List.length l4) then
          (T_laws_toRowS_lp0_m N n (T_laws_toRowS_lp0_sh a2 (iadd .i64 i3 (1 : Int)) (List.set l4 (Int.toNat i3) o9.2.1)) K) else none)) else none)
    else
    (K (.exit 0) (T_laws_toRowS_lp0_e0 a2 i3 (decide (i3 < (ilen a2))) l4))) := by kernel_rfl

theorem T_laws_toRowS_lp0_eq (N : Nat) {R : Type} (a2 : List (Int × Int)) (K : Ex → St → Option R) : ∀ (n : Nat) (i3 : Int) (l4 : List (Int × Int)), T_laws_toRowS_lp0_m N n (T_laws_toRowS_lp0_sh a2 i3 l4) K = T_laws_toRowS_lp0 N a2 (fun i6 t7 l8 => (K (.exit 0) (T_laws_toRowS_lp0_e0 a2 i6 t7 l8))) n i3 l4
  | 0, _, _ => rfl
  | n + 1, i3, l4 => by rw [T_laws_toRowS_lp0_step, T_laws_toRowS_lp0]; (try simp only [T_laws_toRowS_lp0_eq N a2 K n])

theorem T_laws_toRowS_c1 (N : Nat) (a1 : List (Int × Int)) (i10 : Int) (t11 : Bool) (l12 : List (Int × Int)) :
    ((ctxK (R := ODen (T_laws_toRowS_sg N).ps × RDen (T_laws_toRowS_sg N).rs) tab (T_laws_toRowS_ctx N) T_laws_toRowS_ann N (theCode Try.f161) [1, 1, 0, 1, 0] (retK tab (T_laws_toRowS_sg N) Try.f161.results.toList some)) (.exit 0) (T_laws_toRowS_lp0_e0 a1 i10 t11 l12)) =
    (some (α := ODen (T_laws_toRowS_sg N).ps × RDen (T_laws_toRowS_sg N).rs) ((), (l12, ()))) := by kernel_rfl

theorem T_laws_toRowS_den (N : Nat) (a1 : List (Int × Int)) :
    den (R := ODen (T_laws_toRowS_sg N).ps × RDen (T_laws_toRowS_sg N).rs) tab (T_laws_toRowS_ctx N) T_laws_toRowS_ann N (T_laws_toRowS_sg N) Try.f161 (a1, ()) some =
    (bif ((decide ((0 : Int) ≤ (ilen a1))) && (decide ((ilen a1) ≤ (ilen a1)))) && (room (Int.toNat (ilen a1))) then
    (T_laws_toRowS_lp0 N a1
      (fun i10 t11 l12 =>
        (some (α := ODen (T_laws_toRowS_sg N).ps × RDen (T_laws_toRowS_sg N).rs) ((), (l12, ()))))
       N (0 : Int) (List.replicate (Int.toNat (ilen a1)) ((0 : Int), (0 : Int)))) else none) := by
  have h : den (R := ODen (T_laws_toRowS_sg N).ps × RDen (T_laws_toRowS_sg N).rs) tab (T_laws_toRowS_ctx N) T_laws_toRowS_ann N (T_laws_toRowS_sg N) Try.f161 (a1, ()) some =
    (bif ((decide ((0 : Int) ≤ (ilen a1))) && (decide ((ilen a1) ≤ (ilen a1)))) && (room (Int.toNat (ilen a1))) then
    (T_laws_toRowS_lp0_m N N (T_laws_toRowS_lp0_sh a1 (0 : Int) (List.replicate (Int.toNat (ilen a1)) ((0 : Int), (0 : Int)))) (ctxK (R := ODen (T_laws_toRowS_sg N).ps × RDen (T_laws_toRowS_sg N).rs) tab (T_laws_toRowS_ctx N) T_laws_toRowS_ann N (theCode Try.f161) [1, 1, 0, 1, 0] (retK tab (T_laws_toRowS_sg N) Try.f161.results.toList some))) else none) := by kernel_rfl
  rw [h]
  (try simp only [T_laws_toRowS_lp0_eq, T_laws_toRowS_c1]) <;> rfl

theorem T_laws_toRowS_ok (N : Nat) : chkBody Try.f161 (T_laws_toRowS_sg N).ps = true := by kernel_rfl

theorem T_laws_toRowS_callable : Callable Try.prog 161 := callable_of Try.func161 (show chkFn Try.f161 = true by kernel_rfl)

theorem T_laws_toRowS_good (N : Nat) : Good Try.prog 161 (T_laws_toRowS_sg N) :=
  good_body mixedOk tabOk (ctx_cons (T_laws_toRow_good N) T_laws_toRow_callable ctx_nil) Try.func161 (T_laws_toRowS_ok N) (fun d _ h => ⟨N, (T_laws_toRowS_den N d.1).trans h⟩)

noncomputable def T_laws_toMark_sg (N : Nat) : Sig := Sig.of [.v (.prod (.int .i64) (.prod (.int .i64) (.prod (.int .i64) (.prod (.int .i64) (.slice (.int .i64)))))) true] [.v (.prod (.int .i64) (.prod (.int .i64) (.prod (.int .i64) (.prod (.int .i64) (.own (.int .i64)))))) true] (fun d => T_laws_toMark N d.1)

def T_laws_toMark_ann : Nat → List Ghost
  | _ => []

noncomputable def T_laws_toMark_ctx (N : Nat) : Ctx := [(11, T_laws_toIntS_sg N)]

theorem T_laws_toMark_den (N : Nat) (a1 : Int × Int × Int × Int × List Int) :
    den (R := ODen (T_laws_toMark_sg N).ps × RDen (T_laws_toMark_sg N).rs) tab (T_laws_toMark_ctx N) T_laws_toMark_ann N (T_laws_toMark_sg N) Try.f191 (a1, ()) some =
    ((T_laws_toIntS N a1.2.2.2.2).bind fun o2 =>
    (some (α := ODen (T_laws_toMark_sg N).ps × RDen (T_laws_toMark_sg N).rs) ((), ((a1.1, (a1.2.1, (a1.2.2.1, (a1.2.2.2.1, o2.2.1)))), ())))) := by kernel_rfl

theorem T_laws_toMark_ok (N : Nat) : chkBody Try.f191 (T_laws_toMark_sg N).ps = true := by kernel_rfl

theorem T_laws_toMark_callable : Callable Try.prog 191 := callable_of Try.func191 (show chkFn Try.f191 = true by kernel_rfl)

theorem T_laws_toMark_good (N : Nat) : Good Try.prog 191 (T_laws_toMark_sg N) :=
  good_body mixedOk tabOk (ctx_cons (T_laws_toIntS_good N) T_laws_toIntS_callable ctx_nil) Try.func191 (T_laws_toMark_ok N) (fun d _ h => ⟨N, (T_laws_toMark_den N d.1).trans h⟩)

noncomputable def T_laws_toMarkS_sg (N : Nat) : Sig := Sig.of [.v (.slice (.prod (.int .i64) (.prod (.int .i64) (.prod (.int .i64) (.prod (.int .i64) (.slice (.int .i64))))))) false] [.v (.own (.prod (.int .i64) (.prod (.int .i64) (.prod (.int .i64) (.prod (.int .i64) (.slice (.int .i64))))))) false] (fun d => T_laws_toMarkS N d.1)

def T_laws_toMarkS_ann : Nat → List Ghost
  | 3 => [.canon [0, 3, 4, 11]]
  | 4 => [.canon [0, 3, 4]]
  | 5 => [.canon [0, 3, 4]]
  | 100003 => [.canon [0, 3, 4]]
  | _ => []

noncomputable def T_laws_toMarkS_ctx (N : Nat) : Ctx := [(191, T_laws_toMark_sg N)]

def T_laws_toMarkS_lp0_sh (a2 : List (Int × Int × Int × Int × List Int)) (i3 : Int) (l4 : List (Int × Int × Int × Int × List Int)) : St := { env := [(0, .s (.one (.val (.slice (.prod (.int .i64) (.prod (.int .i64) (.prod (.int .i64) (.prod (.int .i64) (.slice (.int .i64))))))) (a2 : List (Int × Int × Int × Int × List Int))))), (3, .s (.one (.own 0))), (4, .s (.one (.val (.int .i64) (i3 : Int))))], objs := [(0, .arr (.prod (.int .i64) (.prod (.int .i64) (.prod (.int .i64) (.prod (.int .i64) (.slice (.int .i64)))))) (l4 : List (Int × Int × Int × Int × List Int)))], nx := 1 }

def T_laws_toMarkS_lp0_e0 (a2 : List (Int × Int × Int × Int × List Int)) (i6 : Int) (t7 : Bool) (l8 : List (Int × Int × Int × Int × List Int)) : St := { env := [(0, .s (.one (.val (.slice (.prod (.int .i64) (.prod (.int .i64) (.prod (.int .i64) (.prod (.int .i64) (.slice (.int .i64))))))) (a2 : List (Int × Int × Int × Int × List Int))))), (3, .s (.one (.own 0))), (4, .s (.one (.val (.int .i64) (i6 : Int)))), (11, .s (.one (.val (.bool) (t7 : Bool))))], objs := [(0, .arr (.prod (.int .i64) (.prod (.int .i64) (.prod (.int .i64) (.prod (.int .i64) (.slice (.int .i64)))))) (l8 : List (Int × Int × Int × Int × List Int)))], nx := 1 }

noncomputable def T_laws_toMarkS_lp0_m (N : Nat) {R : Type} (n : Nat) (st : St) (K : Ex → St → Option R) : Option R := loopN (roundG (T_laws_toMarkS_ann 100003) fun st k => sx tab (T_laws_toMarkS_ctx N) T_laws_toMarkS_ann N (nthLoop Try.f162 0) st k) n st K

theorem T_laws_toMarkS_lp0_step (N : Nat) {R : Type} (n : Nat) (K : Ex → St → Option R) (a2 : List (Int × Int × Int × Int × List Int)) (i3 : Int) (l4 : List (Int × Int × Int × Int × List Int)) :
    T_laws_toMarkS_lp0_m N (n + 1) (T_laws_toMarkS_lp0_sh a2 i3 l4) K =
    (bif decide (i3 < (ilen a2)) then
    (bif inb i3 (List.length a2) then
      ((T_laws_toMark N (List.getD a2 (Int.toNat i3) ((0 : Int), ((0 : Int), ((0 : Int), ((0 : Int), ([] : List Int))))))).bind fun o9 =>
        (bif inb i3 (List.length l4) then
          (T_laws_toMarkS_lp0_m N n (T_laws_toMarkS_lp0_sh a2 (iadd .i64 i3 (1 : Int)) (List.set l4 (Int.toNat i3) o9.2.1)) K) else none)) else none)
    else
    (K (.exit 0) (T_laws_toMarkS_lp0_e0 a2 i3 (decide (i3 < (ilen a2))) l4))) := by kernel_rfl

theorem T_laws_toMarkS_lp0_eq (N : Nat) {R : Type} (a2 : List (Int × Int × Int × Int × List Int)) (K : Ex → St → Option R) : ∀ (n : Nat) (i3 : Int) (l4 : List (Int × Int × Int × Int × List Int)), T_laws_toMarkS_lp0_m N n (T_laws_toMarkS_lp0_sh a2 i3 l4) K = T_laws_toMarkS_lp0 N a2 (fun i6 t7 l8 => (K (.exit 0) (T_laws_toMarkS_lp0_e0 a2 i6 t7 l8))) n i3 l4
  | 0, _, _ => rfl
  | n + 1, i3, l4 => by rw [T_laws_toMarkS_lp0_step, T_laws_toMarkS_lp0]; (try simp only [T_laws_toMarkS_lp0_eq N a2 K n])

theorem T_laws_toMarkS_c1 (N : Nat) (a1 : List (Int × Int × Int × Int × List Int)) (i10 : Int) (t11 : Bool) (l12 : List (Int × Int × Int × Int × List Int)) :
    ((ctxK (R := ODen (T_laws_toMarkS_sg N).ps × RDen (T_laws_toMarkS_sg N).rs) tab (T_laws_toMarkS_ctx N) T_laws_toMarkS_ann N (theCode Try.f162) [1, 1, 0, 1, 0] (retK tab (T_laws_toMarkS_sg N) Try.f162.results.toList some)) (.exit 0) (T_laws_toMarkS_lp0_e0 a1 i10 t11 l12)) =
    (some (α := ODen (T_laws_toMarkS_sg N).ps × RDen (T_laws_toMarkS_sg N).rs) ((), (l12, ()))) := by kernel_rfl

theorem T_laws_toMarkS_den (N : Nat) (a1 : List (Int × Int × Int × Int × List Int)) :
    den (R := ODen (T_laws_toMarkS_sg N).ps × RDen (T_laws_toMarkS_sg N).rs) tab (T_laws_toMarkS_ctx N) T_laws_toMarkS_ann N (T_laws_toMarkS_sg N) Try.f162 (a1, ()) some =
    (bif ((decide ((0 : Int) ≤ (ilen a1))) && (decide ((ilen a1) ≤ (ilen a1)))) && (room (Int.toNat (ilen a1))) then
    (T_laws_toMarkS_lp0 N a1
      (fun i10 t11 l12 =>
        (some (α := ODen (T_laws_toMarkS_sg N).ps × RDen (T_laws_toMarkS_sg N).rs) ((), (l12, ()))))
       N (0 : Int) (List.replicate (Int.toNat (ilen a1)) ((0 : Int), ((0 : Int), ((0 : Int), ((0 : Int), ([] : List Int))))))) else none) := by
  have h : den (R := ODen (T_laws_toMarkS_sg N).ps × RDen (T_laws_toMarkS_sg N).rs) tab (T_laws_toMarkS_ctx N) T_laws_toMarkS_ann N (T_laws_toMarkS_sg N) Try.f162 (a1, ()) some =
    (bif ((decide ((0 : Int) ≤ (ilen a1))) && (decide ((ilen a1) ≤ (ilen a1)))) && (room (Int.toNat (ilen a1))) then
    (T_laws_toMarkS_lp0_m N N (T_laws_toMarkS_lp0_sh a1 (0 : Int) (List.replicate (Int.toNat (ilen a1)) ((0 : Int), ((0 : Int), ((0 : Int), ((0 : Int), ([] : List Int))))))) (ctxK (R := ODen (T_laws_toMarkS_sg N).ps × RDen (T_laws_toMarkS_sg N).rs) tab (T_laws_toMarkS_ctx N) T_laws_toMarkS_ann N (theCode Try.f162) [1, 1, 0, 1, 0] (retK tab (T_laws_toMarkS_sg N) Try.f162.results.toList some))) else none) := by kernel_rfl
  rw [h]
  (try simp only [T_laws_toMarkS_lp0_eq, T_laws_toMarkS_c1]) <;> rfl

theorem T_laws_toMarkS_ok (N : Nat) : chkBody Try.f162 (T_laws_toMarkS_sg N).ps = true := by kernel_rfl

theorem T_laws_toMarkS_callable : Callable Try.prog 162 := callable_of Try.func162 (show chkFn Try.f162 = true by kernel_rfl)

theorem T_laws_toMarkS_good (N : Nat) : Good Try.prog 162 (T_laws_toMarkS_sg N) :=
  good_body mixedOk tabOk (ctx_cons (T_laws_toMark_good N) T_laws_toMark_callable ctx_nil) Try.func162 (T_laws_toMarkS_ok N) (fun d _ h => ⟨N, (T_laws_toMarkS_den N d.1).trans h⟩)

noncomputable def T_laws_toUndo_sg (N : Nat) : Sig := Sig.of [.v (.prod (.int .i64) (.prod (.int .i64) (.int .i64))) true] [.v (.prod (.int .i64) (.prod (.int .i64) (.int .i64))) true] (fun d => T_laws_toUndo N d.1)

def T_laws_toUndo_ann : Nat → List Ghost
  | _ => []

noncomputable def T_laws_toUndo_ctx (N : Nat) : Ctx := []

theorem T_laws_toUndo_den (N : Nat) (a1 : Int × Int × Int) :
    den (R := ODen (T_laws_toUndo_sg N).ps × RDen (T_laws_toUndo_sg N).rs) tab (T_laws_toUndo_ctx N) T_laws_toUndo_ann N (T_laws_toUndo_sg N) Try.f192 (a1, ()) some =
    (some (α := ODen (T_laws_toUndo_sg N).ps × RDen (T_laws_toUndo_sg N).rs) ((), (a1, ()))) := by kernel_rfl

theorem T_laws_toUndo_ok (N : Nat) : chkBody Try.f192 (T_laws_toUndo_sg N).ps = true := by kernel_rfl

theorem T_laws_toUndo_callable : Callable Try.prog 192 := callable_of Try.func192 (show chkFn Try.f192 = true by kernel_rfl)

theorem T_laws_toUndo_good (N : Nat) : Good Try.prog 192 (T_laws_toUndo_sg N) :=
  good_body mixedOk tabOk ctx_nil Try.func192 (T_laws_toUndo_ok N) (fun d _ h => ⟨N, (T_laws_toUndo_den N d.1).trans h⟩)

noncomputable def T_laws_toUndoS_sg (N : Nat) : Sig := Sig.of [.v (.slice (.prod (.int .i64) (.prod (.int .i64) (.int .i64)))) false] [.v (.own (.prod (.int .i64) (.prod (.int .i64) (.int .i64)))) false] (fun d => T_laws_toUndoS N d.1)

def T_laws_toUndoS_ann : Nat → List Ghost
  | 3 => [.canon [0, 3, 4, 11]]
  | 4 => [.canon [0, 3, 4]]
  | 5 => [.canon [0, 3, 4]]
  | 100003 => [.canon [0, 3, 4]]
  | _ => []

noncomputable def T_laws_toUndoS_ctx (N : Nat) : Ctx := [(192, T_laws_toUndo_sg N)]

def T_laws_toUndoS_lp0_sh (a2 : List (Int × Int × Int)) (i3 : Int) (l4 : List (Int × Int × Int)) : St := { env := [(0, .s (.one (.val (.slice (.prod (.int .i64) (.prod (.int .i64) (.int .i64)))) (a2 : List (Int × Int × Int))))), (3, .s (.one (.own 0))), (4, .s (.one (.val (.int .i64) (i3 : Int))))], objs := [(0, .arr (.prod (.int .i64) (.prod (.int .i64) (.int .i64))) (l4 : List (Int × Int × Int)))], nx := 1 }

def T_laws_toUndoS_lp0_e0 (a2 : List (Int × Int × Int)) (i6 : Int) (t7 : Bool) (l8 : List (Int × Int × Int)) : St := { env := [(0, .s (.one (.val (.slice (.prod (.int .i64) (.prod (.int .i64) (.int .i64)))) (a2 : List (Int × Int × Int))))), (3, .s (.one (.own 0))), (4, .s (.one (.val (.int .i64) (i6 : Int)))), (11, .s (.one (.val (.bool) (t7 : Bool))))], objs := [(0, .arr (.prod (.int .i64) (.prod (.int .i64) (.int .i64))) (l8 : List (Int × Int × Int)))], nx := 1 }

noncomputable def T_laws_toUndoS_lp0_m (N : Nat) {R : Type} (n : Nat) (st : St) (K : Ex → St → Option R) : Option R := loopN (roundG (T_laws_toUndoS_ann 100003) fun st k => sx tab (T_laws_toUndoS_ctx N) T_laws_toUndoS_ann N (nthLoop Try.f163 0) st k) n st K

theorem T_laws_toUndoS_lp0_step (N : Nat) {R : Type} (n : Nat) (K : Ex → St → Option R) (a2 : List (Int × Int × Int)) (i3 : Int) (l4 : List (Int × Int × Int)) :
    T_laws_toUndoS_lp0_m N (n + 1) (T_laws_toUndoS_lp0_sh a2 i3 l4) K =
    (bif decide (i3 < (ilen a2)) then
    (bif inb i3 (List.length a2) then
      ((T_laws_toUndo N (List.getD a2 (Int.toNat i3) ((0 : Int), ((0 : Int), (0 : Int))))).bind fun o9 =>
        (bif inb i3 (List.length l4) then
          (T_laws_toUndoS_lp0_m N n (T_laws_toUndoS_lp0_sh a2 (iadd .i64 i3 (1 : Int)) (List.set l4 (Int.toNat i3) o9.2.1)) K) else none)) else none)
    else
    (K (.exit 0) (T_laws_toUndoS_lp0_e0 a2 i3 (decide (i3 < (ilen a2))) l4))) := by kernel_rfl

theorem T_laws_toUndoS_lp0_eq (N : Nat) {R : Type} (a2 : List (Int × Int × Int)) (K : Ex → St → Option R) : ∀ (n : Nat) (i3 : Int) (l4 : List (Int × Int × Int)), T_laws_toUndoS_lp0_m N n (T_laws_toUndoS_lp0_sh a2 i3 l4) K = T_laws_toUndoS_lp0 N a2 (fun i6 t7 l8 => (K (.exit 0) (T_laws_toUndoS_lp0_e0 a2 i6 t7 l8))) n i3 l4
  | 0, _, _ => rfl
  | n + 1, i3, l4 => by rw [T_laws_toUndoS_lp0_step, T_laws_toUndoS_lp0]; (try simp only [T_laws_toUndoS_lp0_eq N a2 K n])

theorem T_laws_toUndoS_c1 (N : Nat) (a1 : List (Int × Int × Int)) (i10 : Int) (t11 : Bool) (l12 : List (Int × Int × Int)) :
    ((ctxK (R := ODen (T_laws_toUndoS_sg N).ps × RDen (T_laws_toUndoS_sg N).rs) tab (T_laws_toUndoS_ctx N) T_laws_toUndoS_ann N (theCode Try.f163) [1, 1, 0, 1, 0] (retK tab (T_laws_toUndoS_sg N) Try.f163.results.toList some)) (.exit 0) (T_laws_toUndoS_lp0_e0 a1 i10 t11 l12)) =
    (some (α := ODen (T_laws_toUndoS_sg N).ps × RDen (T_laws_toUndoS_sg N).rs) ((), (l12, ()))) := by kernel_rfl

theorem T_laws_toUndoS_den (N : Nat) (a1 : List (Int × Int × Int)) :
    den (R := ODen (T_laws_toUndoS_sg N).ps × RDen (T_laws_toUndoS_sg N).rs) tab (T_laws_toUndoS_ctx N) T_laws_toUndoS_ann N (T_laws_toUndoS_sg N) Try.f163 (a1, ()) some =
    (bif ((decide ((0 : Int) ≤ (ilen a1))) && (decide ((ilen a1) ≤ (ilen a1)))) && (room (Int.toNat (ilen a1))) then
    (T_laws_toUndoS_lp0 N a1
      (fun i10 t11 l12 =>
        (some (α := ODen (T_laws_toUndoS_sg N).ps × RDen (T_laws_toUndoS_sg N).rs) ((), (l12, ()))))
       N (0 : Int) (List.replicate (Int.toNat (ilen a1)) ((0 : Int), ((0 : Int), (0 : Int))))) else none) := by
  have h : den (R := ODen (T_laws_toUndoS_sg N).ps × RDen (T_laws_toUndoS_sg N).rs) tab (T_laws_toUndoS_ctx N) T_laws_toUndoS_ann N (T_laws_toUndoS_sg N) Try.f163 (a1, ()) some =
    (bif ((decide ((0 : Int) ≤ (ilen a1))) && (decide ((ilen a1) ≤ (ilen a1)))) && (room (Int.toNat (ilen a1))) then
    (T_laws_toUndoS_lp0_m N N (T_laws_toUndoS_lp0_sh a1 (0 : Int) (List.replicate (Int.toNat (ilen a1)) ((0 : Int), ((0 : Int), (0 : Int))))) (ctxK (R := ODen (T_laws_toUndoS_sg N).ps × RDen (T_laws_toUndoS_sg N).rs) tab (T_laws_toUndoS_ctx N) T_laws_toUndoS_ann N (theCode Try.f163) [1, 1, 0, 1, 0] (retK tab (T_laws_toUndoS_sg N) Try.f163.results.toList some))) else none) := by kernel_rfl
  rw [h]
  (try simp only [T_laws_toUndoS_lp0_eq, T_laws_toUndoS_c1]) <;> rfl

theorem T_laws_toUndoS_ok (N : Nat) : chkBody Try.f163 (T_laws_toUndoS_sg N).ps = true := by kernel_rfl

theorem T_laws_toUndoS_callable : Callable Try.prog 163 := callable_of Try.func163 (show chkFn Try.f163 = true by kernel_rfl)

theorem T_laws_toUndoS_good (N : Nat) : Good Try.prog 163 (T_laws_toUndoS_sg N) :=
  good_body mixedOk tabOk (ctx_cons (T_laws_toUndo_good N) T_laws_toUndo_callable ctx_nil) Try.func163 (T_laws_toUndoS_ok N) (fun d _ h => ⟨N, (T_laws_toUndoS_den N d.1).trans h⟩)

noncomputable def T_laws_toProbe_sg (N : Nat) : Sig := Sig.of [.v (.prod (.int .i64) (.prod (.int .i64) (.prod (.int .i64) (.int .i64)))) true] [.v (.prod (.int .i64) (.prod (.int .i64) (.prod (.int .i64) (.int .i64)))) true] (fun d => T_laws_toProbe N d.1)

def T_laws_toProbe_ann : Nat → List Ghost
  | _ => []

noncomputable def T_laws_toProbe_ctx (N : Nat) : Ctx := []

theorem T_laws_toProbe_den (N : Nat) (a1 : Int × Int × Int × Int) :
    den (R := ODen (T_laws_toProbe_sg N).ps × RDen (T_laws_toProbe_sg N).rs) tab (T_laws_toProbe_ctx N) T_laws_toProbe_ann N (T_laws_toProbe_sg N) Try.f164 (a1, ()) some =
    (some (α := ODen (T_laws_toProbe_sg N).ps × RDen (T_laws_toProbe_sg N).rs) ((), (a1, ()))) := by kernel_rfl

theorem T_laws_toProbe_ok (N : Nat) : chkBody Try.f164 (T_laws_toProbe_sg N).ps = true := by kernel_rfl

theorem T_laws_toProbe_callable : Callable Try.prog 164 := callable_of Try.func164 (show chkFn Try.f164 = true by kernel_rfl)

theorem T_laws_toProbe_good (N : Nat) : Good Try.prog 164 (T_laws_toProbe_sg N) :=
  good_body mixedOk tabOk ctx_nil Try.func164 (T_laws_toProbe_ok N) (fun d _ h => ⟨N, (T_laws_toProbe_den N d.1).trans h⟩)

noncomputable def T_laws_toCommit_sg (N : Nat) : Sig := Sig.of [.v (.prod (.int .i64) (.prod (.int .i64) (.prod (.int .i64) (.prod (.int .i64) (.prod (.int .i64) (.prod (.slice (.prod (.int .i64) (.int .i64))) (.slice (.int .i64)))))))) true] [.v (.prod (.int .i64) (.prod (.int .i64) (.prod (.int .i64) (.prod (.int .i64) (.prod (.int .i64) (.prod (.own (.prod (.int .i64) (.int .i64))) (.own (.int .i64)))))))) true] (fun d => T_laws_toCommit N d.1)

def T_laws_toCommit_ann : Nat → List Ghost
  | _ => []

noncomputable def T_laws_toCommit_ctx (N : Nat) : Ctx := [(161, T_laws_toRowS_sg N), (11, T_laws_toIntS_sg N)]

theorem T_laws_toCommit_den (N : Nat) (a1 : Int × Int × Int × Int × Int × List (Int × Int) × List Int) :
    den (R := ODen (T_laws_toCommit_sg N).ps × RDen (T_laws_toCommit_sg N).rs) tab (T_laws_toCommit_ctx N) T_laws_toCommit_ann N (T_laws_toCommit_sg N) Try.f165 (a1, ()) some =
    ((T_laws_toRowS N a1.2.2.2.2.2.1).bind fun o2 =>
    ((T_laws_toIntS N a1.2.2.2.2.2.2).bind fun o3 =>
      (some (α := ODen (T_laws_toCommit_sg N).ps × RDen (T_laws_toCommit_sg N).rs) ((), ((a1.1, (a1.2.1, (a1.2.2.1, (a1.2.2.2.1, (a1.2.2.2.2.1, (o2.2.1, o3.2.1)))))), ()))))) := by kernel_rfl

theorem T_laws_toCommit_ok (N : Nat) : chkBody Try.f165 (T_laws_toCommit_sg N).ps = true := by kernel_rfl

theorem T_laws_toCommit_callable : Callable Try.prog 165 := callable_of Try.func165 (show chkFn Try.f165 = true by kernel_rfl)

theorem T_laws_toCommit_good (N : Nat) : Good Try.prog 165 (T_laws_toCommit_sg N) :=
  good_body mixedOk tabOk (ctx_cons (T_laws_toRowS_good N) T_laws_toRowS_callable (ctx_cons (T_laws_toIntS_good N) T_laws_toIntS_callable ctx_nil)) Try.func165 (T_laws_toCommit_ok N) (fun d _ h => ⟨N, (T_laws_toCommit_den N d.1).trans h⟩)

noncomputable def T_laws_toEntry_sg (N : Nat) : Sig := Sig.of [.v (.prod (.int .i64) (.prod (.int .i64) (.int .i64))) true] [.v (.prod (.int .i64) (.prod (.int .i64) (.int .i64))) true] (fun d => T_laws_toEntry N d.1)

def T_laws_toEntry_ann : Nat → List Ghost
  | _ => []

noncomputable def T_laws_toEntry_ctx (N : Nat) : Ctx := []

theorem T_laws_toEntry_den (N : Nat) (a1 : Int × Int × Int) :
    den (R := ODen (T_laws_toEntry_sg N).ps × RDen (T_laws_toEntry_sg N).rs) tab (T_laws_toEntry_ctx N) T_laws_toEntry_ann N (T_laws_toEntry_sg N) Try.f202 (a1, ()) some =
    (some (α := ODen (T_laws_toEntry_sg N).ps × RDen (T_laws_toEntry_sg N).rs) ((), (a1, ()))) := by kernel_rfl

theorem T_laws_toEntry_ok (N : Nat) : chkBody Try.f202 (T_laws_toEntry_sg N).ps = true := by kernel_rfl

theorem T_laws_toEntry_callable : Callable Try.prog 202 := callable_of Try.func202 (show chkFn Try.f202 = true by kernel_rfl)

theorem T_laws_toEntry_good (N : Nat) : Good Try.prog 202 (T_laws_toEntry_sg N) :=
  good_body mixedOk tabOk ctx_nil Try.func202 (T_laws_toEntry_ok N) (fun d _ h => ⟨N, (T_laws_toEntry_den N d.1).trans h⟩)

noncomputable def T_laws_toEntryS_sg (N : Nat) : Sig := Sig.of [.v (.slice (.prod (.int .i64) (.prod (.int .i64) (.int .i64)))) false] [.v (.own (.prod (.int .i64) (.prod (.int .i64) (.int .i64)))) false] (fun d => T_laws_toEntryS N d.1)

def T_laws_toEntryS_ann : Nat → List Ghost
  | 3 => [.canon [0, 3, 4, 11]]
  | 4 => [.canon [0, 3, 4]]
  | 5 => [.canon [0, 3, 4]]
  | 100003 => [.canon [0, 3, 4]]
  | _ => []

noncomputable def T_laws_toEntryS_ctx (N : Nat) : Ctx := [(202, T_laws_toEntry_sg N)]

def T_laws_toEntryS_lp0_sh (a2 : List (Int × Int × Int)) (i3 : Int) (l4 : List (Int × Int × Int)) : St := { env := [(0, .s (.one (.val (.slice (.prod (.int .i64) (.prod (.int .i64) (.int .i64)))) (a2 : List (Int × Int × Int))))), (3, .s (.one (.own 0))), (4, .s (.one (.val (.int .i64) (i3 : Int))))], objs := [(0, .arr (.prod (.int .i64) (.prod (.int .i64) (.int .i64))) (l4 : List (Int × Int × Int)))], nx := 1 }

def T_laws_toEntryS_lp0_e0 (a2 : List (Int × Int × Int)) (i6 : Int) (t7 : Bool) (l8 : List (Int × Int × Int)) : St := { env := [(0, .s (.one (.val (.slice (.prod (.int .i64) (.prod (.int .i64) (.int .i64)))) (a2 : List (Int × Int × Int))))), (3, .s (.one (.own 0))), (4, .s (.one (.val (.int .i64) (i6 : Int)))), (11, .s (.one (.val (.bool) (t7 : Bool))))], objs := [(0, .arr (.prod (.int .i64) (.prod (.int .i64) (.int .i64))) (l8 : List (Int × Int × Int)))], nx := 1 }

noncomputable def T_laws_toEntryS_lp0_m (N : Nat) {R : Type} (n : Nat) (st : St) (K : Ex → St → Option R) : Option R := loopN (roundG (T_laws_toEntryS_ann 100003) fun st k => sx tab (T_laws_toEntryS_ctx N) T_laws_toEntryS_ann N (nthLoop Try.f193 0) st k) n st K

theorem T_laws_toEntryS_lp0_step (N : Nat) {R : Type} (n : Nat) (K : Ex → St → Option R) (a2 : List (Int × Int × Int)) (i3 : Int) (l4 : List (Int × Int × Int)) :
    T_laws_toEntryS_lp0_m N (n + 1) (T_laws_toEntryS_lp0_sh a2 i3 l4) K =
    (bif decide (i3 < (ilen a2)) then
    (bif inb i3 (List.length a2) then
      ((T_laws_toEntry N (List.getD a2 (Int.toNat i3) ((0 : Int), ((0 : Int), (0 : Int))))).bind fun o9 =>
        (bif inb i3 (List.length l4) then
          (T_laws_toEntryS_lp0_m N n (T_laws_toEntryS_lp0_sh a2 (iadd .i64 i3 (1 : Int)) (List.set l4 (Int.toNat i3) o9.2.1)) K) else none)) else none)
    else
    (K (.exit 0) (T_laws_toEntryS_lp0_e0 a2 i3 (decide (i3 < (ilen a2))) l4))) := by kernel_rfl

theorem T_laws_toEntryS_lp0_eq (N : Nat) {R : Type} (a2 : List (Int × Int × Int)) (K : Ex → St → Option R) : ∀ (n : Nat) (i3 : Int) (l4 : List (Int × Int × Int)), T_laws_toEntryS_lp0_m N n (T_laws_toEntryS_lp0_sh a2 i3 l4) K = T_laws_toEntryS_lp0 N a2 (fun i6 t7 l8 => (K (.exit 0) (T_laws_toEntryS_lp0_e0 a2 i6 t7 l8))) n i3 l4
  | 0, _, _ => rfl
  | n + 1, i3, l4 => by rw [T_laws_toEntryS_lp0_step, T_laws_toEntryS_lp0]; (try simp only [T_laws_toEntryS_lp0_eq N a2 K n])

theorem T_laws_toEntryS_c1 (N : Nat) (a1 : List (Int × Int × Int)) (i10 : Int) (t11 : Bool) (l12 : List (Int × Int × Int)) :
    ((ctxK (R := ODen (T_laws_toEntryS_sg N).ps × RDen (T_laws_toEntryS_sg N).rs) tab (T_laws_toEntryS_ctx N) T_laws_toEntryS_ann N (theCode Try.f193) [1, 1, 0, 1, 0] (retK tab (T_laws_toEntryS_sg N) Try.f193.results.toList some)) (.exit 0) (T_laws_toEntryS_lp0_e0 a1 i10 t11 l12)) =
    (some (α := ODen (T_laws_toEntryS_sg N).ps × RDen (T_laws_toEntryS_sg N).rs) ((), (l12, ()))) := by kernel_rfl

theorem T_laws_toEntryS_den (N : Nat) (a1 : List (Int × Int × Int)) :
    den (R := ODen (T_laws_toEntryS_sg N).ps × RDen (T_laws_toEntryS_sg N).rs) tab (T_laws_toEntryS_ctx N) T_laws_toEntryS_ann N (T_laws_toEntryS_sg N) Try.f193 (a1, ()) some =
    (bif ((decide ((0 : Int) ≤ (ilen a1))) && (decide ((ilen a1) ≤ (ilen a1)))) && (room (Int.toNat (ilen a1))) then
    (T_laws_toEntryS_lp0 N a1
      (fun i10 t11 l12 =>
        (some (α := ODen (T_laws_toEntryS_sg N).ps × RDen (T_laws_toEntryS_sg N).rs) ((), (l12, ()))))
       N (0 : Int) (List.replicate (Int.toNat (ilen a1)) ((0 : Int), ((0 : Int), (0 : Int))))) else none) := by
  have h : den (R := ODen (T_laws_toEntryS_sg N).ps × RDen (T_laws_toEntryS_sg N).rs) tab (T_laws_toEntryS_ctx N) T_laws_toEntryS_ann N (T_laws_toEntryS_sg N) Try.f193 (a1, ()) some =
    (bif ((decide ((0 : Int) ≤ (ilen a1))) && (decide ((ilen a1) ≤ (ilen a1)))) && (room (Int.toNat (ilen a1))) then
    (T_laws_toEntryS_lp0_m N N (T_laws_toEntryS_lp0_sh a1 (0 : Int) (List.replicate (Int.toNat (ilen a1)) ((0 : Int), ((0 : Int), (0 : Int))))) (ctxK (R := ODen (T_laws_toEntryS_sg N).ps × RDen (T_laws_toEntryS_sg N).rs) tab (T_laws_toEntryS_ctx N) T_laws_toEntryS_ann N (theCode Try.f193) [1, 1, 0, 1, 0] (retK tab (T_laws_toEntryS_sg N) Try.f193.results.toList some))) else none) := by kernel_rfl
  rw [h]
  (try simp only [T_laws_toEntryS_lp0_eq, T_laws_toEntryS_c1]) <;> rfl

theorem T_laws_toEntryS_ok (N : Nat) : chkBody Try.f193 (T_laws_toEntryS_sg N).ps = true := by kernel_rfl

theorem T_laws_toEntryS_callable : Callable Try.prog 193 := callable_of Try.func193 (show chkFn Try.f193 = true by kernel_rfl)

theorem T_laws_toEntryS_good (N : Nat) : Good Try.prog 193 (T_laws_toEntryS_sg N) :=
  good_body mixedOk tabOk (ctx_cons (T_laws_toEntry_good N) T_laws_toEntry_callable ctx_nil) Try.func193 (T_laws_toEntryS_ok N) (fun d _ h => ⟨N, (T_laws_toEntryS_den N d.1).trans h⟩)

noncomputable def T_laws_toKidMark_sg (N : Nat) : Sig := Sig.of [.v (.prod (.int .i64) (.prod (.int .i64) (.slice (.int .i64)))) true] [.v (.prod (.int .i64) (.prod (.int .i64) (.own (.int .i64)))) true] (fun d => T_laws_toKidMark N d.1)

def T_laws_toKidMark_ann : Nat → List Ghost
  | _ => []

noncomputable def T_laws_toKidMark_ctx (N : Nat) : Ctx := [(11, T_laws_toIntS_sg N)]

theorem T_laws_toKidMark_den (N : Nat) (a1 : Int × Int × List Int) :
    den (R := ODen (T_laws_toKidMark_sg N).ps × RDen (T_laws_toKidMark_sg N).rs) tab (T_laws_toKidMark_ctx N) T_laws_toKidMark_ann N (T_laws_toKidMark_sg N) Try.f211 (a1, ()) some =
    ((T_laws_toIntS N a1.2.2).bind fun o2 =>
    (some (α := ODen (T_laws_toKidMark_sg N).ps × RDen (T_laws_toKidMark_sg N).rs) ((), ((a1.1, (a1.2.1, o2.2.1)), ())))) := by kernel_rfl

theorem T_laws_toKidMark_ok (N : Nat) : chkBody Try.f211 (T_laws_toKidMark_sg N).ps = true := by kernel_rfl

theorem T_laws_toKidMark_callable : Callable Try.prog 211 := callable_of Try.func211 (show chkFn Try.f211 = true by kernel_rfl)

theorem T_laws_toKidMark_good (N : Nat) : Good Try.prog 211 (T_laws_toKidMark_sg N) :=
  good_body mixedOk tabOk (ctx_cons (T_laws_toIntS_good N) T_laws_toIntS_callable ctx_nil) Try.func211 (T_laws_toKidMark_ok N) (fun d _ h => ⟨N, (T_laws_toKidMark_den N d.1).trans h⟩)

noncomputable def T_laws_toKidMarkS_sg (N : Nat) : Sig := Sig.of [.v (.slice (.prod (.int .i64) (.prod (.int .i64) (.slice (.int .i64))))) false] [.v (.own (.prod (.int .i64) (.prod (.int .i64) (.slice (.int .i64))))) false] (fun d => T_laws_toKidMarkS N d.1)

def T_laws_toKidMarkS_ann : Nat → List Ghost
  | 3 => [.canon [0, 3, 4, 11]]
  | 4 => [.canon [0, 3, 4]]
  | 5 => [.canon [0, 3, 4]]
  | 100003 => [.canon [0, 3, 4]]
  | _ => []

noncomputable def T_laws_toKidMarkS_ctx (N : Nat) : Ctx := [(211, T_laws_toKidMark_sg N)]

def T_laws_toKidMarkS_lp0_sh (a2 : List (Int × Int × List Int)) (i3 : Int) (l4 : List (Int × Int × List Int)) : St := { env := [(0, .s (.one (.val (.slice (.prod (.int .i64) (.prod (.int .i64) (.slice (.int .i64))))) (a2 : List (Int × Int × List Int))))), (3, .s (.one (.own 0))), (4, .s (.one (.val (.int .i64) (i3 : Int))))], objs := [(0, .arr (.prod (.int .i64) (.prod (.int .i64) (.slice (.int .i64)))) (l4 : List (Int × Int × List Int)))], nx := 1 }

def T_laws_toKidMarkS_lp0_e0 (a2 : List (Int × Int × List Int)) (i6 : Int) (t7 : Bool) (l8 : List (Int × Int × List Int)) : St := { env := [(0, .s (.one (.val (.slice (.prod (.int .i64) (.prod (.int .i64) (.slice (.int .i64))))) (a2 : List (Int × Int × List Int))))), (3, .s (.one (.own 0))), (4, .s (.one (.val (.int .i64) (i6 : Int)))), (11, .s (.one (.val (.bool) (t7 : Bool))))], objs := [(0, .arr (.prod (.int .i64) (.prod (.int .i64) (.slice (.int .i64)))) (l8 : List (Int × Int × List Int)))], nx := 1 }

noncomputable def T_laws_toKidMarkS_lp0_m (N : Nat) {R : Type} (n : Nat) (st : St) (K : Ex → St → Option R) : Option R := loopN (roundG (T_laws_toKidMarkS_ann 100003) fun st k => sx tab (T_laws_toKidMarkS_ctx N) T_laws_toKidMarkS_ann N (nthLoop Try.f208 0) st k) n st K

theorem T_laws_toKidMarkS_lp0_step (N : Nat) {R : Type} (n : Nat) (K : Ex → St → Option R) (a2 : List (Int × Int × List Int)) (i3 : Int) (l4 : List (Int × Int × List Int)) :
    T_laws_toKidMarkS_lp0_m N (n + 1) (T_laws_toKidMarkS_lp0_sh a2 i3 l4) K =
    (bif decide (i3 < (ilen a2)) then
    (bif inb i3 (List.length a2) then
      ((T_laws_toKidMark N (List.getD a2 (Int.toNat i3) ((0 : Int), ((0 : Int), ([] : List Int))))).bind fun o9 =>
        (bif inb i3 (List.length l4) then
          (T_laws_toKidMarkS_lp0_m N n (T_laws_toKidMarkS_lp0_sh a2 (iadd .i64 i3 (1 : Int)) (List.set l4 (Int.toNat i3) o9.2.1)) K) else none)) else none)
    else
    (K (.exit 0) (T_laws_toKidMarkS_lp0_e0 a2 i3 (decide (i3 < (ilen a2))) l4))) := by kernel_rfl

theorem T_laws_toKidMarkS_lp0_eq (N : Nat) {R : Type} (a2 : List (Int × Int × List Int)) (K : Ex → St → Option R) : ∀ (n : Nat) (i3 : Int) (l4 : List (Int × Int × List Int)), T_laws_toKidMarkS_lp0_m N n (T_laws_toKidMarkS_lp0_sh a2 i3 l4) K = T_laws_toKidMarkS_lp0 N a2 (fun i6 t7 l8 => (K (.exit 0) (T_laws_toKidMarkS_lp0_e0 a2 i6 t7 l8))) n i3 l4
  | 0, _, _ => rfl
  | n + 1, i3, l4 => by rw [T_laws_toKidMarkS_lp0_step, T_laws_toKidMarkS_lp0]; (try simp only [T_laws_toKidMarkS_lp0_eq N a2 K n])

theorem T_laws_toKidMarkS_c1 (N : Nat) (a1 : List (Int × Int × List Int)) (i10 : Int) (t11 : Bool) (l12 : List (Int × Int × List Int)) :
    ((ctxK (R := ODen (T_laws_toKidMarkS_sg N).ps × RDen (T_laws_toKidMarkS_sg N).rs) tab (T_laws_toKidMarkS_ctx N) T_laws_toKidMarkS_ann N (theCode Try.f208) [1, 1, 0, 1, 0] (retK tab (T_laws_toKidMarkS_sg N) Try.f208.results.toList some)) (.exit 0) (T_laws_toKidMarkS_lp0_e0 a1 i10 t11 l12)) =
    (some (α := ODen (T_laws_toKidMarkS_sg N).ps × RDen (T_laws_toKidMarkS_sg N).rs) ((), (l12, ()))) := by kernel_rfl

theorem T_laws_toKidMarkS_den (N : Nat) (a1 : List (Int × Int × List Int)) :
    den (R := ODen (T_laws_toKidMarkS_sg N).ps × RDen (T_laws_toKidMarkS_sg N).rs) tab (T_laws_toKidMarkS_ctx N) T_laws_toKidMarkS_ann N (T_laws_toKidMarkS_sg N) Try.f208 (a1, ()) some =
    (bif ((decide ((0 : Int) ≤ (ilen a1))) && (decide ((ilen a1) ≤ (ilen a1)))) && (room (Int.toNat (ilen a1))) then
    (T_laws_toKidMarkS_lp0 N a1
      (fun i10 t11 l12 =>
        (some (α := ODen (T_laws_toKidMarkS_sg N).ps × RDen (T_laws_toKidMarkS_sg N).rs) ((), (l12, ()))))
       N (0 : Int) (List.replicate (Int.toNat (ilen a1)) ((0 : Int), ((0 : Int), ([] : List Int))))) else none) := by
  have h : den (R := ODen (T_laws_toKidMarkS_sg N).ps × RDen (T_laws_toKidMarkS_sg N).rs) tab (T_laws_toKidMarkS_ctx N) T_laws_toKidMarkS_ann N (T_laws_toKidMarkS_sg N) Try.f208 (a1, ()) some =
    (bif ((decide ((0 : Int) ≤ (ilen a1))) && (decide ((ilen a1) ≤ (ilen a1)))) && (room (Int.toNat (ilen a1))) then
    (T_laws_toKidMarkS_lp0_m N N (T_laws_toKidMarkS_lp0_sh a1 (0 : Int) (List.replicate (Int.toNat (ilen a1)) ((0 : Int), ((0 : Int), ([] : List Int))))) (ctxK (R := ODen (T_laws_toKidMarkS_sg N).ps × RDen (T_laws_toKidMarkS_sg N).rs) tab (T_laws_toKidMarkS_ctx N) T_laws_toKidMarkS_ann N (theCode Try.f208) [1, 1, 0, 1, 0] (retK tab (T_laws_toKidMarkS_sg N) Try.f208.results.toList some))) else none) := by kernel_rfl
  rw [h]
  (try simp only [T_laws_toKidMarkS_lp0_eq, T_laws_toKidMarkS_c1]) <;> rfl

theorem T_laws_toKidMarkS_ok (N : Nat) : chkBody Try.f208 (T_laws_toKidMarkS_sg N).ps = true := by kernel_rfl

theorem T_laws_toKidMarkS_callable : Callable Try.prog 208 := callable_of Try.func208 (show chkFn Try.f208 = true by kernel_rfl)

theorem T_laws_toKidMarkS_good (N : Nat) : Good Try.prog 208 (T_laws_toKidMarkS_sg N) :=
  good_body mixedOk tabOk (ctx_cons (T_laws_toKidMark_good N) T_laws_toKidMark_callable ctx_nil) Try.func208 (T_laws_toKidMarkS_ok N) (fun d _ h => ⟨N, (T_laws_toKidMarkS_den N d.1).trans h⟩)

noncomputable def T_laws_toKidRun_sg (N : Nat) : Sig := Sig.of [.v (TY_KidRun) true] [.v (.prod (.int .i64) (.prod (.int .i64) (.prod (.int .i64) (.prod (.int .i64) (.prod (.int .i64) (.prod (.int .i64) (.prod (.own (.int .i64)) (.prod (.own (.prod (.int .i64) (.prod (.int .i64) (.int .i64)))) (.prod (.own (.prod (.int .i64) (.int .i64))) (.prod (.own (.prod (.int .i64) (.prod (.int .i64) (.slice (.int .i64))))) (.prod (.bool) (.prod (.int .i64) (.prod (.int .i64) (.prod (.int .i64) (.int .i64))))))))))))))) true] (fun d => T_laws_toKidRun N d.1)

def T_laws_toKidRun_ann : Nat → List Ghost
  | _ => []

noncomputable def T_laws_toKidRun_ctx (N : Nat) : Ctx := [(11, T_laws_toIntS_sg N), (193, T_laws_toEntryS_sg N), (161, T_laws_toRowS_sg N), (208, T_laws_toKidMarkS_sg N), (164, T_laws_toProbe_sg N)]

theorem T_laws_toKidRun_den (N : Nat) (a1 : Y_KidRun) :
    den (R := ODen (T_laws_toKidRun_sg N).ps × RDen (T_laws_toKidRun_sg N).rs) tab (T_laws_toKidRun_ctx N) T_laws_toKidRun_ann N (T_laws_toKidRun_sg N) Try.f203 (a1, ()) some =
    ((T_laws_toIntS N a1.2.2.2.2.2.2.1).bind fun o2 =>
    ((T_laws_toEntryS N a1.2.2.2.2.2.2.2.1).bind fun o3 =>
      ((T_laws_toRowS N a1.2.2.2.2.2.2.2.2.1).bind fun o4 =>
        ((T_laws_toKidMarkS N a1.2.2.2.2.2.2.2.2.2.1).bind fun o5 =>
          ((T_laws_toProbe N a1.2.2.2.2.2.2.2.2.2.2.2).bind fun o6 =>
            (some (α := ODen (T_laws_toKidRun_sg N).ps × RDen (T_laws_toKidRun_sg N).rs) ((), ((a1.1, (a1.2.1, (a1.2.2.1, (a1.2.2.2.1, (a1.2.2.2.2.1, (a1.2.2.2.2.2.1, (o2.2.1, (o3.2.1, (o4.2.1, (o5.2.1, (a1.2.2.2.2.2.2.2.2.2.2.1, o6.2.1))))))))))), ())))))))) := by kernel_rfl

theorem T_laws_toKidRun_ok (N : Nat) : chkBody Try.f203 (T_laws_toKidRun_sg N).ps = true := by kernel_rfl

theorem T_laws_toKidRun_callable : Callable Try.prog 203 := callable_of Try.func203 (show chkFn Try.f203 = true by kernel_rfl)

theorem T_laws_toKidRun_good (N : Nat) : Good Try.prog 203 (T_laws_toKidRun_sg N) :=
  good_body mixedOk tabOk (ctx_cons (T_laws_toIntS_good N) T_laws_toIntS_callable (ctx_cons (T_laws_toEntryS_good N) T_laws_toEntryS_callable (ctx_cons (T_laws_toRowS_good N) T_laws_toRowS_callable (ctx_cons (T_laws_toKidMarkS_good N) T_laws_toKidMarkS_callable (ctx_cons (T_laws_toProbe_good N) T_laws_toProbe_callable ctx_nil))))) Try.func203 (T_laws_toKidRun_ok N) (fun d _ h => ⟨N, (T_laws_toKidRun_den N d.1).trans h⟩)

noncomputable def T_laws_toKidRunS_sg (N : Nat) : Sig := Sig.of [.v (.slice (TY_KidRun)) false] [.v (.own (TY_KidRun)) false] (fun d => T_laws_toKidRunS N d.1)

def T_laws_toKidRunS_ann : Nat → List Ghost
  | 3 => [.canon [0, 3, 4, 11]]
  | 4 => [.canon [0, 3, 4]]
  | 5 => [.canon [0, 3, 4]]
  | 100003 => [.canon [0, 3, 4]]
  | _ => []

noncomputable def T_laws_toKidRunS_ctx (N : Nat) : Ctx := [(203, T_laws_toKidRun_sg N)]

def T_laws_toKidRunS_lp0_sh (a2 : List Y_KidRun) (i3 : Int) (l4 : List Y_KidRun) : St := { env := [(0, .s (.one (.val (.slice (TY_KidRun)) (a2 : List Y_KidRun)))), (3, .s (.one (.own 0))), (4, .s (.one (.val (.int .i64) (i3 : Int))))], objs := [(0, .arr (TY_KidRun) (l4 : List Y_KidRun))], nx := 1 }

def T_laws_toKidRunS_lp0_e0 (a2 : List Y_KidRun) (i6 : Int) (t7 : Bool) (l8 : List Y_KidRun) : St := { env := [(0, .s (.one (.val (.slice (TY_KidRun)) (a2 : List Y_KidRun)))), (3, .s (.one (.own 0))), (4, .s (.one (.val (.int .i64) (i6 : Int)))), (11, .s (.one (.val (.bool) (t7 : Bool))))], objs := [(0, .arr (TY_KidRun) (l8 : List Y_KidRun))], nx := 1 }

noncomputable def T_laws_toKidRunS_lp0_m (N : Nat) {R : Type} (n : Nat) (st : St) (K : Ex → St → Option R) : Option R := loopN (roundG (T_laws_toKidRunS_ann 100003) fun st k => sx tab (T_laws_toKidRunS_ctx N) T_laws_toKidRunS_ann N (nthLoop Try.f194 0) st k) n st K

theorem T_laws_toKidRunS_lp0_step (N : Nat) {R : Type} (n : Nat) (K : Ex → St → Option R) (a2 : List Y_KidRun) (i3 : Int) (l4 : List Y_KidRun) :
    T_laws_toKidRunS_lp0_m N (n + 1) (T_laws_toKidRunS_lp0_sh a2 i3 l4) K =
    (bif decide (i3 < (ilen a2)) then
    (bif inb i3 (List.length a2) then
      ((T_laws_toKidRun N (List.getD a2 (Int.toNat i3) d_KidRun)).bind fun o9 =>
        (bif inb i3 (List.length l4) then
          (T_laws_toKidRunS_lp0_m N n (T_laws_toKidRunS_lp0_sh a2 (iadd .i64 i3 (1 : Int)) (List.set l4 (Int.toNat i3) o9.2.1)) K) else none)) else none)
    else
    (K (.exit 0) (T_laws_toKidRunS_lp0_e0 a2 i3 (decide (i3 < (ilen a2))) l4))) := by kernel_rfl

theorem T_laws_toKidRunS_lp0_eq (N : Nat) {R : Type} (a2 : List Y_KidRun) (K : Ex → St → Option R) : ∀ (n : Nat) (i3 : Int) (l4 : List Y_KidRun), T_laws_toKidRunS_lp0_m N n (T_laws_toKidRunS_lp0_sh a2 i3 l4) K = T_laws_toKidRunS_lp0 N a2 (fun i6 t7 l8 => (K (.exit 0) (T_laws_toKidRunS_lp0_e0 a2 i6 t7 l8))) n i3 l4
  | 0, _, _ => rfl
  | n + 1, i3, l4 => by rw [T_laws_toKidRunS_lp0_step, T_laws_toKidRunS_lp0]; (try simp only [T_laws_toKidRunS_lp0_eq N a2 K n])

theorem T_laws_toKidRunS_c1 (N : Nat) (a1 : List Y_KidRun) (i10 : Int) (t11 : Bool) (l12 : List Y_KidRun) :
    ((ctxK (R := ODen (T_laws_toKidRunS_sg N).ps × RDen (T_laws_toKidRunS_sg N).rs) tab (T_laws_toKidRunS_ctx N) T_laws_toKidRunS_ann N (theCode Try.f194) [1, 1, 0, 1, 0] (retK tab (T_laws_toKidRunS_sg N) Try.f194.results.toList some)) (.exit 0) (T_laws_toKidRunS_lp0_e0 a1 i10 t11 l12)) =
    (some (α := ODen (T_laws_toKidRunS_sg N).ps × RDen (T_laws_toKidRunS_sg N).rs) ((), (l12, ()))) := by kernel_rfl

theorem T_laws_toKidRunS_den (N : Nat) (a1 : List Y_KidRun) :
    den (R := ODen (T_laws_toKidRunS_sg N).ps × RDen (T_laws_toKidRunS_sg N).rs) tab (T_laws_toKidRunS_ctx N) T_laws_toKidRunS_ann N (T_laws_toKidRunS_sg N) Try.f194 (a1, ()) some =
    (bif ((decide ((0 : Int) ≤ (ilen a1))) && (decide ((ilen a1) ≤ (ilen a1)))) && (room (Int.toNat (ilen a1))) then
    (T_laws_toKidRunS_lp0 N a1
      (fun i10 t11 l12 =>
        (some (α := ODen (T_laws_toKidRunS_sg N).ps × RDen (T_laws_toKidRunS_sg N).rs) ((), (l12, ()))))
       N (0 : Int) (List.replicate (Int.toNat (ilen a1)) d_KidRun)) else none) := by
  have h : den (R := ODen (T_laws_toKidRunS_sg N).ps × RDen (T_laws_toKidRunS_sg N).rs) tab (T_laws_toKidRunS_ctx N) T_laws_toKidRunS_ann N (T_laws_toKidRunS_sg N) Try.f194 (a1, ()) some =
    (bif ((decide ((0 : Int) ≤ (ilen a1))) && (decide ((ilen a1) ≤ (ilen a1)))) && (room (Int.toNat (ilen a1))) then
    (T_laws_toKidRunS_lp0_m N N (T_laws_toKidRunS_lp0_sh a1 (0 : Int) (List.replicate (Int.toNat (ilen a1)) d_KidRun)) (ctxK (R := ODen (T_laws_toKidRunS_sg N).ps × RDen (T_laws_toKidRunS_sg N).rs) tab (T_laws_toKidRunS_ctx N) T_laws_toKidRunS_ann N (theCode Try.f194) [1, 1, 0, 1, 0] (retK tab (T_laws_toKidRunS_sg N) Try.f194.results.toList some))) else none) := by kernel_rfl
  rw [h]
  (try simp only [T_laws_toKidRunS_lp0_eq, T_laws_toKidRunS_c1]) <;> rfl

theorem T_laws_toKidRunS_ok (N : Nat) : chkBody Try.f194 (T_laws_toKidRunS_sg N).ps = true := by kernel_rfl

theorem T_laws_toKidRunS_callable : Callable Try.prog 194 := callable_of Try.func194 (show chkFn Try.f194 = true by kernel_rfl)

theorem T_laws_toKidRunS_good (N : Nat) : Good Try.prog 194 (T_laws_toKidRunS_sg N) :=
  good_body mixedOk tabOk (ctx_cons (T_laws_toKidRun_good N) T_laws_toKidRun_callable ctx_nil) Try.func194 (T_laws_toKidRunS_ok N) (fun d _ h => ⟨N, (T_laws_toKidRunS_den N d.1).trans h⟩)

noncomputable def T_laws_toFamily_sg (N : Nat) : Sig := Sig.of [.v (TY_Family) true] [.v (.prod (.int .i64) (.prod (.int .i64) (.prod (.int .i64) (.prod (.bool) (.prod (.own (.int .i64)) (.prod (.own (.prod (.int .i64) (.int .i64))) (.prod (.own (.prod (.int .i64) (.prod (.int .i64) (.int .i64)))) (.prod (.own (.int .i64)) (.prod (.own (.prod (.int .i64) (.int .i64))) (.own (TY_KidRun))))))))))) true] (fun d => T_laws_toFamily N d.1)

def T_laws_toFamily_ann : Nat → List Ghost
  | _ => []

noncomputable def T_laws_toFamily_ctx (N : Nat) : Ctx := [(11, T_laws_toIntS_sg N), (161, T_laws_toRowS_sg N), (193, T_laws_toEntryS_sg N), (194, T_laws_toKidRunS_sg N)]

theorem T_laws_toFamily_den (N : Nat) (a1 : Y_Family) :
    den (R := ODen (T_laws_toFamily_sg N).ps × RDen (T_laws_toFamily_sg N).rs) tab (T_laws_toFamily_ctx N) T_laws_toFamily_ann N (T_laws_toFamily_sg N) Try.f166 (a1, ()) some =
    ((T_laws_toIntS N a1.2.2.2.2.1).bind fun o2 =>
    ((T_laws_toRowS N a1.2.2.2.2.2.1).bind fun o3 =>
      ((T_laws_toEntryS N a1.2.2.2.2.2.2.1).bind fun o4 =>
        ((T_laws_toIntS N a1.2.2.2.2.2.2.2.1).bind fun o5 =>
          ((T_laws_toRowS N a1.2.2.2.2.2.2.2.2.1).bind fun o6 =>
            ((T_laws_toKidRunS N a1.2.2.2.2.2.2.2.2.2).bind fun o7 =>
              (some (α := ODen (T_laws_toFamily_sg N).ps × RDen (T_laws_toFamily_sg N).rs) ((), ((a1.1, (a1.2.1, (a1.2.2.1, (a1.2.2.2.1, (o2.2.1, (o3.2.1, (o4.2.1, (o5.2.1, (o6.2.1, o7.2.1))))))))), ()))))))))) := by kernel_rfl

theorem T_laws_toFamily_ok (N : Nat) : chkBody Try.f166 (T_laws_toFamily_sg N).ps = true := by kernel_rfl

theorem T_laws_toFamily_callable : Callable Try.prog 166 := callable_of Try.func166 (show chkFn Try.f166 = true by kernel_rfl)

theorem T_laws_toFamily_good (N : Nat) : Good Try.prog 166 (T_laws_toFamily_sg N) :=
  good_body mixedOk tabOk (ctx_cons (T_laws_toIntS_good N) T_laws_toIntS_callable (ctx_cons (T_laws_toRowS_good N) T_laws_toRowS_callable (ctx_cons (T_laws_toEntryS_good N) T_laws_toEntryS_callable (ctx_cons (T_laws_toKidRunS_good N) T_laws_toKidRunS_callable ctx_nil)))) Try.func166 (T_laws_toFamily_ok N) (fun d _ h => ⟨N, (T_laws_toFamily_den N d.1).trans h⟩)

noncomputable def T_laws_toRoot_sg (N : Nat) : Sig := Sig.of [.v (TY_Root) true] [.v (.prod (.int .i64) (.prod (.int .i64) (.prod (.int .i64) (.prod (.int .i64) (.prod (.int .i64) (.prod (.int .i64) (.prod (.int .i64) (.prod (.int .i64) (.prod (.int .i64) (.prod (.int .i64) (.prod (.int .i64) (.prod (.bool) (.prod (.own (.int .i64)) (.prod (.own (.prod (.int .i64) (.int .i64))) (.prod (.own (.prod (.int .i64) (.int .i64))) (.prod (.own (.prod (.int .i64) (.prod (.int .i64) (.prod (.int .i64) (.prod (.int .i64) (.slice (.int .i64))))))) (.prod (.own (.prod (.int .i64) (.prod (.int .i64) (.int .i64)))) (.prod (.own (.int .i64)) (.prod (.bool) (.prod (.prod (.int .i64) (.prod (.int .i64) (.prod (.int .i64) (.int .i64)))) (.prod (.prod (.int .i64) (.prod (.int .i64) (.prod (.int .i64) (.prod (.int .i64) (.prod (.int .i64) (.prod (.own (.prod (.int .i64) (.int .i64))) (.own (.int .i64)))))))) (.prod (.int .i64) (.prod (.int .i64) (.prod (.int .i64) (.prod (.bool) (.prod (.own (.int .i64)) (.prod (.own (.prod (.int .i64) (.int .i64))) (.prod (.own (.prod (.int .i64) (.prod (.int .i64) (.int .i64)))) (.prod (.own (.int .i64)) (.prod (.own (.prod (.int .i64) (.int .i64))) (.own (TY_KidRun)))))))))))))))))))))))))))))))) true] (fun d => T_laws_toRoot N d.1)

def T_laws_toRoot_ann : Nat → List Ghost
  | _ => []

noncomputable def T_laws_toRoot_ctx (N : Nat) : Ctx := [(11, T_laws_toIntS_sg N), (161, T_laws_toRowS_sg N), (162, T_laws_toMarkS_sg N), (163, T_laws_toUndoS_sg N), (164, T_laws_toProbe_sg N), (165, T_laws_toCommit_sg N), (166, T_laws_toFamily_sg N)]

theorem T_laws_toRoot_den (N : Nat) (a1 : Y_Root) :
    den (R := ODen (T_laws_toRoot_sg N).ps × RDen (T_laws_toRoot_sg N).rs) tab (T_laws_toRoot_ctx N) T_laws_toRoot_ann N (T_laws_toRoot_sg N) Try.f119 (a1, ()) some =
    ((T_laws_toIntS N a1.2.2.2.2.2.2.2.2.2.2.2.2.1).bind fun o2 =>
    ((T_laws_toRowS N a1.2.2.2.2.2.2.2.2.2.2.2.2.2.1).bind fun o3 =>
      ((T_laws_toRowS N a1.2.2.2.2.2.2.2.2.2.2.2.2.2.2.1).bind fun o4 =>
        ((T_laws_toMarkS N a1.2.2.2.2.2.2.2.2.2.2.2.2.2.2.2.1).bind fun o5 =>
          ((T_laws_toUndoS N a1.2.2.2.2.2.2.2.2.2.2.2.2.2.2.2.2.1).bind fun o6 =>
            ((T_laws_toIntS N a1.2.2.2.2.2.2.2.2.2.2.2.2.2.2.2.2.2.1).bind fun o7 =>
              ((T_laws_toProbe N a1.2.2.2.2.2.2.2.2.2.2.2.2.2.2.2.2.2.2.2.1).bind fun o8 =>
                ((T_laws_toCommit N a1.2.2.2.2.2.2.2.2.2.2.2.2.2.2.2.2.2.2.2.2.1).bind fun o9 =>
                  ((T_laws_toFamily N a1.2.2.2.2.2.2.2.2.2.2.2.2.2.2.2.2.2.2.2.2.2).bind fun o10 =>
                    (some (α := ODen (T_laws_toRoot_sg N).ps × RDen (T_laws_toRoot_sg N).rs) ((), ((a1.1, (a1.2.1, (a1.2.2.1, (a1.2.2.2.1, (a1.2.2.2.2.1, (a1.2.2.2.2.2.1, (a1.2.2.2.2.2.2.1, (a1.2.2.2.2.2.2.2.1, (a1.2.2.2.2.2.2.2.2.1, (a1.2.2.2.2.2.2.2.2.2.1, (a1.2.2.2.2.2.2.2.2.2.2.1, (a1.2.2.2.2.2.2.2.2.2.2.2.1, (o2.2.1, (o3.2.1, (o4.2.1, (o5.2.1, (o6.2.1, (o7.2.1, (a1.2.2.2.2.2.2.2.2.2.2.2.2.2.2.2.2.2.2.1, (o8.2.1, (o9.2.1, o10.2.1))))))))))))))))))))), ())))))))))))) := by kernel_rfl

theorem T_laws_toRoot_ok (N : Nat) : chkBody Try.f119 (T_laws_toRoot_sg N).ps = true := by kernel_rfl

theorem T_laws_toRoot_callable : Callable Try.prog 119 := callable_of Try.func119 (show chkFn Try.f119 = true by kernel_rfl)

theorem T_laws_toRoot_good (N : Nat) : Good Try.prog 119 (T_laws_toRoot_sg N) :=
  good_body mixedOk tabOk (ctx_cons (T_laws_toIntS_good N) T_laws_toIntS_callable (ctx_cons (T_laws_toRowS_good N) T_laws_toRowS_callable (ctx_cons (T_laws_toMarkS_good N) T_laws_toMarkS_callable (ctx_cons (T_laws_toUndoS_good N) T_laws_toUndoS_callable (ctx_cons (T_laws_toProbe_good N) T_laws_toProbe_callable (ctx_cons (T_laws_toCommit_good N) T_laws_toCommit_callable (ctx_cons (T_laws_toFamily_good N) T_laws_toFamily_callable ctx_nil))))))) Try.func119 (T_laws_toRoot_ok N) (fun d _ h => ⟨N, (T_laws_toRoot_den N d.1).trans h⟩)

noncomputable def T_laws_toRootS_sg (N : Nat) : Sig := Sig.of [.v (.slice (TY_Root)) false] [.v (.own (TY_Root)) false] (fun d => T_laws_toRootS N d.1)

def T_laws_toRootS_ann : Nat → List Ghost
  | 3 => [.canon [0, 3, 4, 11]]
  | 4 => [.canon [0, 3, 4]]
  | 5 => [.canon [0, 3, 4]]
  | 100003 => [.canon [0, 3, 4]]
  | _ => []

noncomputable def T_laws_toRootS_ctx (N : Nat) : Ctx := [(119, T_laws_toRoot_sg N)]

def T_laws_toRootS_lp0_sh (a2 : List Y_Root) (i3 : Int) (l4 : List Y_Root) : St := { env := [(0, .s (.one (.val (.slice (TY_Root)) (a2 : List Y_Root)))), (3, .s (.one (.own 0))), (4, .s (.one (.val (.int .i64) (i3 : Int))))], objs := [(0, .arr (TY_Root) (l4 : List Y_Root))], nx := 1 }

def T_laws_toRootS_lp0_e0 (a2 : List Y_Root) (i6 : Int) (t7 : Bool) (l8 : List Y_Root) : St := { env := [(0, .s (.one (.val (.slice (TY_Root)) (a2 : List Y_Root)))), (3, .s (.one (.own 0))), (4, .s (.one (.val (.int .i64) (i6 : Int)))), (11, .s (.one (.val (.bool) (t7 : Bool))))], objs := [(0, .arr (TY_Root) (l8 : List Y_Root))], nx := 1 }

noncomputable def T_laws_toRootS_lp0_m (N : Nat) {R : Type} (n : Nat) (st : St) (K : Ex → St → Option R) : Option R := loopN (roundG (T_laws_toRootS_ann 100003) fun st k => sx tab (T_laws_toRootS_ctx N) T_laws_toRootS_ann N (nthLoop Try.f76 0) st k) n st K

theorem T_laws_toRootS_lp0_step (N : Nat) {R : Type} (n : Nat) (K : Ex → St → Option R) (a2 : List Y_Root) (i3 : Int) (l4 : List Y_Root) :
    T_laws_toRootS_lp0_m N (n + 1) (T_laws_toRootS_lp0_sh a2 i3 l4) K =
    (bif decide (i3 < (ilen a2)) then
    (bif inb i3 (List.length a2) then
      ((T_laws_toRoot N (List.getD a2 (Int.toNat i3) d_Root)).bind fun o9 =>
        (bif inb i3 (List.length l4) then
          (T_laws_toRootS_lp0_m N n (T_laws_toRootS_lp0_sh a2 (iadd .i64 i3 (1 : Int)) (List.set l4 (Int.toNat i3) o9.2.1)) K) else none)) else none)
    else
    (K (.exit 0) (T_laws_toRootS_lp0_e0 a2 i3 (decide (i3 < (ilen a2))) l4))) := by kernel_rfl

theorem T_laws_toRootS_lp0_eq (N : Nat) {R : Type} (a2 : List Y_Root) (K : Ex → St → Option R) : ∀ (n : Nat) (i3 : Int) (l4 : List Y_Root), T_laws_toRootS_lp0_m N n (T_laws_toRootS_lp0_sh a2 i3 l4) K = T_laws_toRootS_lp0 N a2 (fun i6 t7 l8 => (K (.exit 0) (T_laws_toRootS_lp0_e0 a2 i6 t7 l8))) n i3 l4
  | 0, _, _ => rfl
  | n + 1, i3, l4 => by rw [T_laws_toRootS_lp0_step, T_laws_toRootS_lp0]; (try simp only [T_laws_toRootS_lp0_eq N a2 K n])

theorem T_laws_toRootS_c1 (N : Nat) (a1 : List Y_Root) (i10 : Int) (t11 : Bool) (l12 : List Y_Root) :
    ((ctxK (R := ODen (T_laws_toRootS_sg N).ps × RDen (T_laws_toRootS_sg N).rs) tab (T_laws_toRootS_ctx N) T_laws_toRootS_ann N (theCode Try.f76) [1, 1, 0, 1, 0] (retK tab (T_laws_toRootS_sg N) Try.f76.results.toList some)) (.exit 0) (T_laws_toRootS_lp0_e0 a1 i10 t11 l12)) =
    (some (α := ODen (T_laws_toRootS_sg N).ps × RDen (T_laws_toRootS_sg N).rs) ((), (l12, ()))) := by kernel_rfl

theorem T_laws_toRootS_den (N : Nat) (a1 : List Y_Root) :
    den (R := ODen (T_laws_toRootS_sg N).ps × RDen (T_laws_toRootS_sg N).rs) tab (T_laws_toRootS_ctx N) T_laws_toRootS_ann N (T_laws_toRootS_sg N) Try.f76 (a1, ()) some =
    (bif ((decide ((0 : Int) ≤ (ilen a1))) && (decide ((ilen a1) ≤ (ilen a1)))) && (room (Int.toNat (ilen a1))) then
    (T_laws_toRootS_lp0 N a1
      (fun i10 t11 l12 =>
        (some (α := ODen (T_laws_toRootS_sg N).ps × RDen (T_laws_toRootS_sg N).rs) ((), (l12, ()))))
       N (0 : Int) (List.replicate (Int.toNat (ilen a1)) d_Root)) else none) := by
  have h : den (R := ODen (T_laws_toRootS_sg N).ps × RDen (T_laws_toRootS_sg N).rs) tab (T_laws_toRootS_ctx N) T_laws_toRootS_ann N (T_laws_toRootS_sg N) Try.f76 (a1, ()) some =
    (bif ((decide ((0 : Int) ≤ (ilen a1))) && (decide ((ilen a1) ≤ (ilen a1)))) && (room (Int.toNat (ilen a1))) then
    (T_laws_toRootS_lp0_m N N (T_laws_toRootS_lp0_sh a1 (0 : Int) (List.replicate (Int.toNat (ilen a1)) d_Root)) (ctxK (R := ODen (T_laws_toRootS_sg N).ps × RDen (T_laws_toRootS_sg N).rs) tab (T_laws_toRootS_ctx N) T_laws_toRootS_ann N (theCode Try.f76) [1, 1, 0, 1, 0] (retK tab (T_laws_toRootS_sg N) Try.f76.results.toList some))) else none) := by kernel_rfl
  rw [h]
  (try simp only [T_laws_toRootS_lp0_eq, T_laws_toRootS_c1]) <;> rfl

theorem T_laws_toRootS_ok (N : Nat) : chkBody Try.f76 (T_laws_toRootS_sg N).ps = true := by kernel_rfl

theorem T_laws_toRootS_callable : Callable Try.prog 76 := callable_of Try.func76 (show chkFn Try.f76 = true by kernel_rfl)

theorem T_laws_toRootS_good (N : Nat) : Good Try.prog 76 (T_laws_toRootS_sg N) :=
  good_body mixedOk tabOk (ctx_cons (T_laws_toRoot_good N) T_laws_toRoot_callable ctx_nil) Try.func76 (T_laws_toRootS_ok N) (fun d _ h => ⟨N, (T_laws_toRootS_den N d.1).trans h⟩)

noncomputable def T_laws_toWrote_sg (N : Nat) : Sig := Sig.of [.v (.prod (.int .i64) (.prod (.int .i64) (.slice (.prod (.int .i64) (.int .i64))))) true] [.v (.prod (.int .i64) (.prod (.int .i64) (.own (.prod (.int .i64) (.int .i64))))) true] (fun d => T_laws_toWrote N d.1)

def T_laws_toWrote_ann : Nat → List Ghost
  | _ => []

noncomputable def T_laws_toWrote_ctx (N : Nat) : Ctx := [(161, T_laws_toRowS_sg N)]

theorem T_laws_toWrote_den (N : Nat) (a1 : Int × Int × List (Int × Int)) :
    den (R := ODen (T_laws_toWrote_sg N).ps × RDen (T_laws_toWrote_sg N).rs) tab (T_laws_toWrote_ctx N) T_laws_toWrote_ann N (T_laws_toWrote_sg N) Try.f120 (a1, ()) some =
    ((T_laws_toRowS N a1.2.2).bind fun o2 =>
    (some (α := ODen (T_laws_toWrote_sg N).ps × RDen (T_laws_toWrote_sg N).rs) ((), ((a1.1, (a1.2.1, o2.2.1)), ())))) := by kernel_rfl

theorem T_laws_toWrote_ok (N : Nat) : chkBody Try.f120 (T_laws_toWrote_sg N).ps = true := by kernel_rfl

theorem T_laws_toWrote_callable : Callable Try.prog 120 := callable_of Try.func120 (show chkFn Try.f120 = true by kernel_rfl)

theorem T_laws_toWrote_good (N : Nat) : Good Try.prog 120 (T_laws_toWrote_sg N) :=
  good_body mixedOk tabOk (ctx_cons (T_laws_toRowS_good N) T_laws_toRowS_callable ctx_nil) Try.func120 (T_laws_toWrote_ok N) (fun d _ h => ⟨N, (T_laws_toWrote_den N d.1).trans h⟩)

noncomputable def T_laws_toWroteS_sg (N : Nat) : Sig := Sig.of [.v (.slice (.prod (.int .i64) (.prod (.int .i64) (.slice (.prod (.int .i64) (.int .i64)))))) false] [.v (.own (.prod (.int .i64) (.prod (.int .i64) (.slice (.prod (.int .i64) (.int .i64)))))) false] (fun d => T_laws_toWroteS N d.1)

def T_laws_toWroteS_ann : Nat → List Ghost
  | 3 => [.canon [0, 3, 4, 11]]
  | 4 => [.canon [0, 3, 4]]
  | 5 => [.canon [0, 3, 4]]
  | 100003 => [.canon [0, 3, 4]]
  | _ => []

noncomputable def T_laws_toWroteS_ctx (N : Nat) : Ctx := [(120, T_laws_toWrote_sg N)]

def T_laws_toWroteS_lp0_sh (a2 : List (Int × Int × List (Int × Int))) (i3 : Int) (l4 : List (Int × Int × List (Int × Int))) : St := { env := [(0, .s (.one (.val (.slice (.prod (.int .i64) (.prod (.int .i64) (.slice (.prod (.int .i64) (.int .i64)))))) (a2 : List (Int × Int × List (Int × Int)))))), (3, .s (.one (.own 0))), (4, .s (.one (.val (.int .i64) (i3 : Int))))], objs := [(0, .arr (.prod (.int .i64) (.prod (.int .i64) (.slice (.prod (.int .i64) (.int .i64))))) (l4 : List (Int × Int × List (Int × Int))))], nx := 1 }

def T_laws_toWroteS_lp0_e0 (a2 : List (Int × Int × List (Int × Int))) (i6 : Int) (t7 : Bool) (l8 : List (Int × Int × List (Int × Int))) : St := { env := [(0, .s (.one (.val (.slice (.prod (.int .i64) (.prod (.int .i64) (.slice (.prod (.int .i64) (.int .i64)))))) (a2 : List (Int × Int × List (Int × Int)))))), (3, .s (.one (.own 0))), (4, .s (.one (.val (.int .i64) (i6 : Int)))), (11, .s (.one (.val (.bool) (t7 : Bool))))], objs := [(0, .arr (.prod (.int .i64) (.prod (.int .i64) (.slice (.prod (.int .i64) (.int .i64))))) (l8 : List (Int × Int × List (Int × Int))))], nx := 1 }

noncomputable def T_laws_toWroteS_lp0_m (N : Nat) {R : Type} (n : Nat) (st : St) (K : Ex → St → Option R) : Option R := loopN (roundG (T_laws_toWroteS_ann 100003) fun st k => sx tab (T_laws_toWroteS_ctx N) T_laws_toWroteS_ann N (nthLoop Try.f77 0) st k) n st K

theorem T_laws_toWroteS_lp0_step (N : Nat) {R : Type} (n : Nat) (K : Ex → St → Option R) (a2 : List (Int × Int × List (Int × Int))) (i3 : Int) (l4 : List (Int × Int × List (Int × Int))) :
    T_laws_toWroteS_lp0_m N (n + 1) (T_laws_toWroteS_lp0_sh a2 i3 l4) K =
    (bif decide (i3 < (ilen a2)) then
    (bif inb i3 (List.length a2) then
      ((T_laws_toWrote N (List.getD a2 (Int.toNat i3) ((0 : Int), ((0 : Int), ([] : List (Int × Int)))))).bind fun o9 =>
        (bif inb i3 (List.length l4) then
          (T_laws_toWroteS_lp0_m N n (T_laws_toWroteS_lp0_sh a2 (iadd .i64 i3 (1 : Int)) (List.set l4 (Int.toNat i3) o9.2.1)) K) else none)) else none)
    else
    (K (.exit 0) (T_laws_toWroteS_lp0_e0 a2 i3 (decide (i3 < (ilen a2))) l4))) := by kernel_rfl

theorem T_laws_toWroteS_lp0_eq (N : Nat) {R : Type} (a2 : List (Int × Int × List (Int × Int))) (K : Ex → St → Option R) : ∀ (n : Nat) (i3 : Int) (l4 : List (Int × Int × List (Int × Int))), T_laws_toWroteS_lp0_m N n (T_laws_toWroteS_lp0_sh a2 i3 l4) K = T_laws_toWroteS_lp0 N a2 (fun i6 t7 l8 => (K (.exit 0) (T_laws_toWroteS_lp0_e0 a2 i6 t7 l8))) n i3 l4
  | 0, _, _ => rfl
  | n + 1, i3, l4 => by rw [T_laws_toWroteS_lp0_step, T_laws_toWroteS_lp0]; (try simp only [T_laws_toWroteS_lp0_eq N a2 K n])

theorem T_laws_toWroteS_c1 (N : Nat) (a1 : List (Int × Int × List (Int × Int))) (i10 : Int) (t11 : Bool) (l12 : List (Int × Int × List (Int × Int))) :
    ((ctxK (R := ODen (T_laws_toWroteS_sg N).ps × RDen (T_laws_toWroteS_sg N).rs) tab (T_laws_toWroteS_ctx N) T_laws_toWroteS_ann N (theCode Try.f77) [1, 1, 0, 1, 0] (retK tab (T_laws_toWroteS_sg N) Try.f77.results.toList some)) (.exit 0) (T_laws_toWroteS_lp0_e0 a1 i10 t11 l12)) =
    (some (α := ODen (T_laws_toWroteS_sg N).ps × RDen (T_laws_toWroteS_sg N).rs) ((), (l12, ()))) := by kernel_rfl

theorem T_laws_toWroteS_den (N : Nat) (a1 : List (Int × Int × List (Int × Int))) :
    den (R := ODen (T_laws_toWroteS_sg N).ps × RDen (T_laws_toWroteS_sg N).rs) tab (T_laws_toWroteS_ctx N) T_laws_toWroteS_ann N (T_laws_toWroteS_sg N) Try.f77 (a1, ()) some =
    (bif ((decide ((0 : Int) ≤ (ilen a1))) && (decide ((ilen a1) ≤ (ilen a1)))) && (room (Int.toNat (ilen a1))) then
    (T_laws_toWroteS_lp0 N a1
      (fun i10 t11 l12 =>
        (some (α := ODen (T_laws_toWroteS_sg N).ps × RDen (T_laws_toWroteS_sg N).rs) ((), (l12, ()))))
       N (0 : Int) (List.replicate (Int.toNat (ilen a1)) ((0 : Int), ((0 : Int), ([] : List (Int × Int)))))) else none) := by
  have h : den (R := ODen (T_laws_toWroteS_sg N).ps × RDen (T_laws_toWroteS_sg N).rs) tab (T_laws_toWroteS_ctx N) T_laws_toWroteS_ann N (T_laws_toWroteS_sg N) Try.f77 (a1, ()) some =
    (bif ((decide ((0 : Int) ≤ (ilen a1))) && (decide ((ilen a1) ≤ (ilen a1)))) && (room (Int.toNat (ilen a1))) then
    (T_laws_toWroteS_lp0_m N N (T_laws_toWroteS_lp0_sh a1 (0 : Int) (List.replicate (Int.toNat (ilen a1)) ((0 : Int), ((0 : Int), ([] : List (Int × Int)))))) (ctxK (R := ODen (T_laws_toWroteS_sg N).ps × RDen (T_laws_toWroteS_sg N).rs) tab (T_laws_toWroteS_ctx N) T_laws_toWroteS_ann N (theCode Try.f77) [1, 1, 0, 1, 0] (retK tab (T_laws_toWroteS_sg N) Try.f77.results.toList some))) else none) := by kernel_rfl
  rw [h]
  (try simp only [T_laws_toWroteS_lp0_eq, T_laws_toWroteS_c1]) <;> rfl

theorem T_laws_toWroteS_ok (N : Nat) : chkBody Try.f77 (T_laws_toWroteS_sg N).ps = true := by kernel_rfl

theorem T_laws_toWroteS_callable : Callable Try.prog 77 := callable_of Try.func77 (show chkFn Try.f77 = true by kernel_rfl)

theorem T_laws_toWroteS_good (N : Nat) : Good Try.prog 77 (T_laws_toWroteS_sg N) :=
  good_body mixedOk tabOk (ctx_cons (T_laws_toWrote_good N) T_laws_toWrote_callable ctx_nil) Try.func77 (T_laws_toWroteS_ok N) (fun d _ h => ⟨N, (T_laws_toWroteS_den N d.1).trans h⟩)

noncomputable def T_laws_toWorld_sg (N : Nat) : Sig := Sig.of [.v (TY_World) true] [.v (.prod (.int .i64) (.prod (.int .i64) (.prod (.prod (.int .i64) (.own (.prod (.int .i64) (.prod (.int .i64) (.int .i64))))) (.prod (.prod (.own (.int .i64)) (.int .i64)) (.prod (.own (.prod (.int .i64) (.prod (.int .i64) (.int .i64)))) (.prod (.own (TY_Root)) (.own (.prod (.int .i64) (.prod (.int .i64) (.slice (.prod (.int .i64) (.int .i64)))))))))))) true] (fun d => T_laws_toWorld N d.1)

def T_laws_toWorld_ann : Nat → List Ghost
  | _ => []

noncomputable def T_laws_toWorld_ctx (N : Nat) : Ctx := [(73, T_laws_toMem_sg N), (74, T_laws_toShelf_sg N), (75, T_laws_toHoldS_sg N), (76, T_laws_toRootS_sg N), (77, T_laws_toWroteS_sg N)]

theorem T_laws_toWorld_den (N : Nat) (a1 : Y_World) :
    den (R := ODen (T_laws_toWorld_sg N).ps × RDen (T_laws_toWorld_sg N).rs) tab (T_laws_toWorld_ctx N) T_laws_toWorld_ann N (T_laws_toWorld_sg N) Try.f32 (a1, ()) some =
    ((T_laws_toMem N a1.2.2.1).bind fun o2 =>
    ((T_laws_toShelf N a1.2.2.2.1).bind fun o3 =>
      ((T_laws_toHoldS N a1.2.2.2.2.1).bind fun o4 =>
        ((T_laws_toRootS N a1.2.2.2.2.2.1).bind fun o5 =>
          ((T_laws_toWroteS N a1.2.2.2.2.2.2).bind fun o6 =>
            (some (α := ODen (T_laws_toWorld_sg N).ps × RDen (T_laws_toWorld_sg N).rs) ((), ((a1.1, (a1.2.1, (o2.2.1, (o3.2.1, (o4.2.1, (o5.2.1, o6.2.1)))))), ())))))))) := by kernel_rfl

theorem T_laws_toWorld_ok (N : Nat) : chkBody Try.f32 (T_laws_toWorld_sg N).ps = true := by kernel_rfl

theorem T_laws_toWorld_callable : Callable Try.prog 32 := callable_of Try.func32 (show chkFn Try.f32 = true by kernel_rfl)

theorem T_laws_toWorld_good (N : Nat) : Good Try.prog 32 (T_laws_toWorld_sg N) :=
  good_body mixedOk tabOk (ctx_cons (T_laws_toMem_good N) T_laws_toMem_callable (ctx_cons (T_laws_toShelf_good N) T_laws_toShelf_callable (ctx_cons (T_laws_toHoldS_good N) T_laws_toHoldS_callable (ctx_cons (T_laws_toRootS_good N) T_laws_toRootS_callable (ctx_cons (T_laws_toWroteS_good N) T_laws_toWroteS_callable ctx_nil))))) Try.func32 (T_laws_toWorld_ok N) (fun d _ h => ⟨N, (T_laws_toWorld_den N d.1).trans h⟩)

noncomputable def T_spec_l1In_sg (N : Nat) : Sig := Sig.of [.v (.int .i64) false, .v (.int .i64) false, .v (.int .i64) false] [.v (.bool) false] (fun d => T_spec_l1In N d.1 d.2.1 d.2.2.1)

def T_spec_l1In_ann : Nat → List Ghost
  | _ => []

noncomputable def T_spec_l1In_ctx (N : Nat) : Ctx := []

theorem T_spec_l1In_den (N : Nat) (x1 : Int) (low2 : Int) (high3 : Int) :
    den (R := ODen (T_spec_l1In_sg N).ps × RDen (T_spec_l1In_sg N).rs) tab (T_spec_l1In_ctx N) T_spec_l1In_ann N (T_spec_l1In_sg N) Try.f72 (x1, low2, high3, ()) some =
    (bif decide (x1 ≥ low2) then
    (some (α := ODen (T_spec_l1In_sg N).ps × RDen (T_spec_l1In_sg N).rs) ((), (decide (x1 ≤ high3), ())))
    else
    (some (α := ODen (T_spec_l1In_sg N).ps × RDen (T_spec_l1In_sg N).rs) ((), (false, ())))) := by kernel_rfl

theorem T_spec_l1In_ok (N : Nat) : chkBody Try.f72 (T_spec_l1In_sg N).ps = true := by kernel_rfl

theorem T_spec_l1In_callable : Callable Try.prog 72 := callable_of Try.func72 (show chkFn Try.f72 = true by kernel_rfl)

theorem T_spec_l1In_good (N : Nat) : Good Try.prog 72 (T_spec_l1In_sg N) :=
  good_body mixedOk tabOk ctx_nil Try.func72 (T_spec_l1In_ok N) (fun d _ h => ⟨N, (T_spec_l1In_den N d.1 d.2.1 d.2.2.1).trans h⟩)

noncomputable def T_spec_TallyOf_sg (N : Nat) : Sig := Sig.of [.v (TY_World) true] [.v (.prod (.int .i64) (.prod (.int .i64) (.prod (.int .i64) (.prod (.int .i64) (.prod (.int .i64) (.prod (.int .i64) (.int .i64))))))) true] (fun d => T_spec_TallyOf N d.1)

def T_spec_TallyOf_ann : Nat → List Ghost
  | 3 => [.canon [1, 2, 3, 4, 15]]
  | 4 => [.canon [1, 2, 3, 4]]
  | 5 => [.canon [1, 2, 3, 4, 5]]
  | 6 => [.canon [1, 2, 3, 4, 5]]
  | 7 => [.canon [1, 2, 3, 4, 5, 27]]
  | 8 => [.canon [1, 2, 3, 4, 5]]
  | 9 => [.canon [1, 2, 3, 4, 5, 35]]
  | 10 => [.canon [1, 2, 3, 4, 5]]
  | 11 => [.canon [1, 2, 3, 4, 5, 43]]
  | 12 => [.canon [1, 2, 3, 4, 5]]
  | 13 => [.canon [1, 2, 3, 4, 5, 53]]
  | 14 => [.canon [1, 2, 3, 4]]
  | 16 => [.canon [1, 2, 3, 6, 65]]
  | 17 => [.canon [1, 2, 3, 6]]
  | 18 => [.canon [1, 2, 3, 6, 75]]
  | 19 => [.canon [1, 2, 3, 6]]
  | 100003 => [.canon [1, 2, 3, 4]]
  | 100016 => [.canon [1, 2, 3, 6]]
  | _ => []

noncomputable def T_spec_TallyOf_ctx (N : Nat) : Ctx := [(72, T_spec_l1In_sg N)]

def T_spec_TallyOf_lp0_sh (i2 : Int) (b3 : Y_World) (b11 : Int) (b12 : Int) (b13 : Int) (b14 : Int) (b15 : Int) : St := { env := [(1, .s (.one (.ptr 0 0))), (2, .s (.one (.ptr 1 0))), (3, .s (.one (.ptr 2 0))), (4, .s (.one (.val (.int .i64) (i2 : Int))))], objs := [(0, .box [.val (.int .i64) (b3.1 : Int), .val (.int .i64) (b3.2.1 : Int), .val (.int .i64) (b3.2.2.1.1 : Int), .val (.slice (.prod (.int .i64) (.prod (.int .i64) (.int .i64)))) (b3.2.2.1.2 : List (Int × Int × Int)), .val (.slice (.int .i64)) (b3.2.2.2.1.1 : List Int), .val (.int .i64) (b3.2.2.2.1.2 : Int), .val (.slice (.prod (.int .i64) (.prod (.int .i64) (.int .i64)))) (b3.2.2.2.2.1 : List (Int × Int × Int)), .val (.slice (TY_Root)) (b3.2.2.2.2.2.1 : List Y_Root), .val (.slice (.prod (.int .i64) (.prod (.int .i64) (.slice (.prod (.int .i64) (.int .i64)))))) (b3.2.2.2.2.2.2 : List (Int × Int × List (Int × Int)))]), (1, .box [.val (.int .i64) ((0 : Int) : Int), .val (.int .i64) ((0 : Int) : Int), .val (.int .i64) ((0 : Int) : Int), .val (.int .i64) ((0 : Int) : Int), .val (.int .i64) ((0 : Int) : Int), .val (.int .i64) ((0 : Int) : Int), .val (.int .i64) ((0 : Int) : Int)]), (2, .box [.val (.int .i64) (b11 : Int), .val (.int .i64) (b12 : Int), .val (.int .i64) (b13 : Int), .val (.int .i64) (b14 : Int), .val (.int .i64) (b15 : Int), .val (.int .i64) ((0 : Int) : Int), .val (.int .i64) (ilen b3.2.2.2.2.1 : Int)])], nx := 3 }

def T_spec_TallyOf_lp0_e0 (b3 : Y_World) (i26 : Int) (t27 : Bool) (b28 : Int) (b29 : Int) (b30 : Int) (b31 : Int) (b32 : Int) : St := { env := [(1, .s (.one (.ptr 0 0))), (2, .s (.one (.ptr 1 0))), (3, .s (.one (.ptr 2 0))), (4, .s (.one (.val (.int .i64) (i26 : Int)))), (15, .s (.one (.val (.bool) (t27 : Bool))))], objs := [(0, .box [.val (.int .i64) (b3.1 : Int), .val (.int .i64) (b3.2.1 : Int), .val (.int .i64) (b3.2.2.1.1 : Int), .val (.slice (.prod (.int .i64) (.prod (.int .i64) (.int .i64)))) (b3.2.2.1.2 : List (Int × Int × Int)), .val (.slice (.int .i64)) (b3.2.2.2.1.1 : List Int), .val (.int .i64) (b3.2.2.2.1.2 : Int), .val (.slice (.prod (.int .i64) (.prod (.int .i64) (.int .i64)))) (b3.2.2.2.2.1 : List (Int × Int × Int)), .val (.slice (TY_Root)) (b3.2.2.2.2.2.1 : List Y_Root), .val (.slice (.prod (.int .i64) (.prod (.int .i64) (.slice (.prod (.int .i64) (.int .i64)))))) (b3.2.2.2.2.2.2 : List (Int × Int × List (Int × Int)))]), (1, .box [.val (.int .i64) ((0 : Int) : Int), .val (.int .i64) ((0 : Int) : Int), .val (.int .i64) ((0 : Int) : Int), .val (.int .i64) ((0 : Int) : Int), .val (.int .i64) ((0 : Int) : Int), .val (.int .i64) ((0 : Int) : Int), .val (.int .i64) ((0 : Int) : Int)]), (2, .box [.val (.int .i64) (b28 : Int), .val (.int .i64) (b29 : Int), .val (.int .i64) (b30 : Int), .val (.int .i64) (b31 : Int), .val (.int .i64) (b32 : Int), .val (.int .i64) ((0 : Int) : Int), .val (.int .i64) (ilen b3.2.2.2.2.1 : Int)])], nx := 3 }

noncomputable def T_spec_TallyOf_lp0_m (N : Nat) {R : Type} (n : Nat) (st : St) (K : Ex → St → Option R) : Option R := loopN (roundG (T_spec_TallyOf_ann 100003) fun st k => sx tab (T_spec_TallyOf_ctx N) T_spec_TallyOf_ann N (nthLoop Try.f31 0) st k) n st K

theorem T_spec_TallyOf_lp0_step (N : Nat) {R : Type} (n : Nat) (K : Ex → St → Option R) (i2 : Int) (b3 : Y_World) (b11 : Int) (b12 : Int) (b13 : Int) (b14 : Int) (b15 : Int) :
    T_spec_TallyOf_lp0_m N (n + 1) (T_spec_TallyOf_lp0_sh i2 b3 b11 b12 b13 b14 b15) K =
    (bif decide (i2 < (ilen b3.2.2.2.2.2.1)) then
    (bif inb i2 (List.length b3.2.2.2.2.2.1) then
      (bif (List.getD b3.2.2.2.2.2.1 (Int.toNat i2) d_Root).1 == (0 : Int) then
        ((T_spec_l1In N (List.getD b3.2.2.2.2.2.1 (Int.toNat i2) d_Root).2.1 (1 : Int) (400 : Int)).bind fun o33 =>
          (bif o33.2.1 then
            (T_spec_TallyOf_lp0_m N n (T_spec_TallyOf_lp0_sh (iadd .i64 i2 (1 : Int)) b3 (iadd .i64 b11 (1 : Int)) b12 b13 b14 (iadd .i64 b15 (List.getD b3.2.2.2.2.2.1 (Int.toNat i2) d_Root).2.1)) K)
            else
            (T_spec_TallyOf_lp0_m N n (T_spec_TallyOf_lp0_sh (iadd .i64 i2 (1 : Int)) b3 (iadd .i64 b11 (1 : Int)) b12 b13 b14 b15) K)))
        else
        (bif (List.getD b3.2.2.2.2.2.1 (Int.toNat i2) d_Root).1 != (8 : Int) then
          ((T_spec_l1In N (List.getD b3.2.2.2.2.2.1 (Int.toNat i2) d_Root).2.1 (1 : Int) (400 : Int)).bind fun o34 =>
            (bif o34.2.1 then
              (T_spec_TallyOf_lp0_m N n (T_spec_TallyOf_lp0_sh (iadd .i64 i2 (1 : Int)) b3 b11 (iadd .i64 b12 (1 : Int)) b13 b14 (iadd .i64 b15 (List.getD b3.2.2.2.2.2.1 (Int.toNat i2) d_Root).2.1)) K)
              else
              (T_spec_TallyOf_lp0_m N n (T_spec_TallyOf_lp0_sh (iadd .i64 i2 (1 : Int)) b3 b11 (iadd .i64 b12 (1 : Int)) b13 b14 b15) K)))
          else
          (bif (List.getD b3.2.2.2.2.2.1 (Int.toNat i2) d_Root).2.2.2.2.2.2.2.1 == (1 : Int) then
            ((T_spec_l1In N (List.getD b3.2.2.2.2.2.1 (Int.toNat i2) d_Root).2.1 (1 : Int) (400 : Int)).bind fun o35 =>
              (bif o35.2.1 then
                (T_spec_TallyOf_lp0_m N n (T_spec_TallyOf_lp0_sh (iadd .i64 i2 (1 : Int)) b3 b11 b12 (iadd .i64 b13 (1 : Int)) b14 (iadd .i64 b15 (List.getD b3.2.2.2.2.2.1 (Int.toNat i2) d_Root).2.1)) K)
                else
                (T_spec_TallyOf_lp0_m N n (T_spec_TallyOf_lp0_sh (iadd .i64 i2 (1 : Int)) b3 b11 b12 (iadd .i64 b13 (1 : Int)) b14 b15) K)))
            else
            ((T_spec_l1In N (List.getD b3.2.2.2.2.2.1 (Int.toNat i2) d_Root).2.1 (1 : Int) (400 : Int)).bind fun o36 =>
              (bif o36.2.1 then
                (T_spec_TallyOf_lp0_m N n (T_spec_TallyOf_lp0_sh (iadd .i64 i2 (1 : Int)) b3 b11 b12 b13 (iadd .i64 b14 (1 : Int)) (iadd .i64 b15 (List.getD b3.2.2.2.2.2.1 (Int.toNat i2) d_Root).2.1)) K)
                else
                (T_spec_TallyOf_lp0_m N n (T_spec_TallyOf_lp0_sh (iadd .i64 i2 (1 : Int)) b3 b11 b12 b13 (iadd .i64 b14 (1 : Int)) b15) K)))))) else none)
    else
    (K (.exit 0) (T_spec_TallyOf_lp0_e0 b3 i2 (decide (i2 < (ilen b3.2.2.2.2.2.1))) b11 b12 b13 b14 b15))) := by kernel_rfl

theorem T_spec_TallyOf_lp0_eq (N : Nat) {R : Type} (b3 : Y_World) (K : Ex → St → Option R) : ∀ (n : Nat) (i2 : Int) (b11 : Int) (b12 : Int) (b13 : Int) (b14 : Int) (b15 : Int), T_spec_TallyOf_lp0_m N n (T_spec_TallyOf_lp0_sh i2 b3 b11 b12 b13 b14 b15) K = T_spec_TallyOf_lp0 N b3 (fun i26 t27 b28 b29 b30 b31 b32 => (K (.exit 0) (T_spec_TallyOf_lp0_e0 b3 i26 t27 b28 b29 b30 b31 b32))) n i2 b11 b12 b13 b14 b15
  | 0, _, _, _, _, _, _ => rfl
  | n + 1, i2, b11, b12, b13, b14, b15 => by rw [T_spec_TallyOf_lp0_step, T_spec_TallyOf_lp0]; (try simp only [T_spec_TallyOf_lp0_eq N b3 K n])

def T_spec_TallyOf_lp1_sh (i44 : Int) (b45 : Y_World) (b53 : Int) (b54 : Int) (b55 : Int) (b56 : Int) (b57 : Int) (b58 : Int) : St := { env := [(1, .s (.one (.ptr 0 0))), (2, .s (.one (.ptr 1 0))), (3, .s (.one (.ptr 2 0))), (6, .s (.one (.val (.int .i64) (i44 : Int))))], objs := [(0, .box [.val (.int .i64) (b45.1 : Int), .val (.int .i64) (b45.2.1 : Int), .val (.int .i64) (b45.2.2.1.1 : Int), .val (.slice (.prod (.int .i64) (.prod (.int .i64) (.int .i64)))) (b45.2.2.1.2 : List (Int × Int × Int)), .val (.slice (.int .i64)) (b45.2.2.2.1.1 : List Int), .val (.int .i64) (b45.2.2.2.1.2 : Int), .val (.slice (.prod (.int .i64) (.prod (.int .i64) (.int .i64)))) (b45.2.2.2.2.1 : List (Int × Int × Int)), .val (.slice (TY_Root)) (b45.2.2.2.2.2.1 : List Y_Root), .val (.slice (.prod (.int .i64) (.prod (.int .i64) (.slice (.prod (.int .i64) (.int .i64)))))) (b45.2.2.2.2.2.2 : List (Int × Int × List (Int × Int)))]), (1, .box [.val (.int .i64) ((0 : Int) : Int), .val (.int .i64) ((0 : Int) : Int), .val (.int .i64) ((0 : Int) : Int), .val (.int .i64) ((0 : Int) : Int), .val (.int .i64) ((0 : Int) : Int), .val (.int .i64) ((0 : Int) : Int), .val (.int .i64) ((0 : Int) : Int)]), (2, .box [.val (.int .i64) (b53 : Int), .val (.int .i64) (b54 : Int), .val (.int .i64) (b55 : Int), .val (.int .i64) (b56 : Int), .val (.int .i64) (b57 : Int), .val (.int .i64) (b58 : Int), .val (.int .i64) (ilen b45.2.2.2.2.1 : Int)])], nx := 3 }

def T_spec_TallyOf_lp1_e0 (b45 : Y_World) (b53 : Int) (b54 : Int) (b55 : Int) (b56 : Int) (b57 : Int) (i60 : Int) (t61 : Bool) (b62 : Int) : St := { env := [(1, .s (.one (.ptr 0 0))), (2, .s (.one (.ptr 1 0))), (3, .s (.one (.ptr 2 0))), (6, .s (.one (.val (.int .i64) (i60 : Int)))), (65, .s (.one (.val (.bool) (t61 : Bool))))], objs := [(0, .box [.val (.int .i64) (b45.1 : Int), .val (.int .i64) (b45.2.1 : Int), .val (.int .i64) (b45.2.2.1.1 : Int), .val (.slice (.prod (.int .i64) (.prod (.int .i64) (.int .i64)))) (b45.2.2.1.2 : List (Int × Int × Int)), .val (.slice (.int .i64)) (b45.2.2.2.1.1 : List Int), .val (.int .i64) (b45.2.2.2.1.2 : Int), .val (.slice (.prod (.int .i64) (.prod (.int .i64) (.int .i64)))) (b45.2.2.2.2.1 : List (Int × Int × Int)), .val (.slice (TY_Root)) (b45.2.2.2.2.2.1 : List Y_Root), .val (.slice (.prod (.int .i64) (.prod (.int .i64) (.slice (.prod (.int .i64) (.int .i64)))))) (b45.2.2.2.2.2.2 : List (Int × Int × List (Int × Int)))]), (1, .box [.val (.int .i64) ((0 : Int) : Int), .val (.int .i64) ((0 : Int) : Int), .val (.int .i64) ((0 : Int) : Int), .val (.int .i64) ((0 : Int) : Int), .val (.int .i64) ((0 : Int) : Int), .val (.int .i64) ((0 : Int) : Int), .val (.int .i64) ((0 : Int) : Int)]), (2, .box [.val (.int .i64) (b53 : Int), .val (.int .i64) (b54 : Int), .val (.int .i64) (b55 : Int), .val (.int .i64) (b56 : Int), .val (.int .i64) (b57 : Int), .val (.int .i64) (b62 : Int), .val (.int .i64) (ilen b45.2.2.2.2.1 : Int)])], nx := 3 }

noncomputable def T_spec_TallyOf_lp1_m (N : Nat) {R : Type} (n : Nat) (st : St) (K : Ex → St → Option R) : Option R := loopN (roundG (T_spec_TallyOf_ann 100016) fun st k => sx tab (T_spec_TallyOf_ctx N) T_spec_TallyOf_ann N (nthLoop Try.f31 1) st k) n st K

theorem T_spec_TallyOf_lp1_step (N : Nat) {R : Type} (n : Nat) (K : Ex → St → Option R) (i44 : Int) (b45 : Y_World) (b53 : Int) (b54 : Int) (b55 : Int) (b56 : Int) (b57 : Int) (b58 : Int) :
    T_spec_TallyOf_lp1_m N (n + 1) (T_spec_TallyOf_lp1_sh i44 b45 b53 b54 b55 b56 b57 b58) K =
    (bif decide (i44 < (ilen b45.2.2.1.2)) then
    (bif inb i44 (List.length b45.2.2.1.2) then
      (bif (List.getD b45.2.2.1.2 (Int.toNat i44) ((0 : Int), ((0 : Int), (0 : Int)))).2.2 != (0 : Int) then
        (T_spec_TallyOf_lp1_m N n (T_spec_TallyOf_lp1_sh (iadd .i64 i44 (1 : Int)) b45 b53 b54 b55 b56 b57 (iadd .i64 b58 (1 : Int))) K)
        else
        (T_spec_TallyOf_lp1_m N n (T_spec_TallyOf_lp1_sh (iadd .i64 i44 (1 : Int)) b45 b53 b54 b55 b56 b57 b58) K)) else none)
    else
    (K (.exit 3) (T_spec_TallyOf_lp1_e0 b45 b53 b54 b55 b56 b57 i44 (decide (i44 < (ilen b45.2.2.1.2))) b58))) := by kernel_rfl

theorem T_spec_TallyOf_lp1_eq (N : Nat) {R : Type} (b45 : Y_World) (b53 : Int) (b54 : Int) (b55 : Int) (b56 : Int) (b57 : Int) (K : Ex → St → Option R) : ∀ (n : Nat) (i44 : Int) (b58 : Int), T_spec_TallyOf_lp1_m N n (T_spec_TallyOf_lp1_sh i44 b45 b53 b54 b55 b56 b57 b58) K = T_spec_TallyOf_lp1 N b45 b53 b54 b55 b56 b57 (fun i60 t61 b62 => (K (.exit 3) (T_spec_TallyOf_lp1_e0 b45 b53 b54 b55 b56 b57 i60 t61 b62))) n i44 b58
  | 0, _, _ => rfl
  | n + 1, i44, b58 => by rw [T_spec_TallyOf_lp1_step, T_spec_TallyOf_lp1]; (try simp only [T_spec_TallyOf_lp1_eq N b45 b53 b54 b55 b56 b57 K n])

theorem T_spec_TallyOf_c2 (N : Nat) (w1 : Y_World) (b39 : Int) (b40 : Int) (b41 : Int) (b42 : Int) (b43 : Int) (i63 : Int) (t64 : Bool) (b65 : Int) :
    ((ctxK (R := ODen (T_spec_TallyOf_sg N).ps × RDen (T_spec_TallyOf_sg N).rs) tab (T_spec_TallyOf_ctx N) T_spec_TallyOf_ann N (theCode Try.f31) [1, 1, 1, 0, 1, 0] (retK tab (T_spec_TallyOf_sg N) Try.f31.results.toList some)) (.exit 3) (T_spec_TallyOf_lp1_e0 w1 b39 b40 b41 b42 b43 i63 t64 b65)) =
    (some (α := ODen (T_spec_TallyOf_sg N).ps × RDen (T_spec_TallyOf_sg N).rs) ((), ((b39, (b40, (b41, (b42, (b43, (b65, ilen w1.2.2.2.2.1)))))), ()))) := by kernel_rfl

theorem T_spec_TallyOf_c1 (N : Nat) (w1 : Y_World) (i37 : Int) (t38 : Bool) (b39 : Int) (b40 : Int) (b41 : Int) (b42 : Int) (b43 : Int) :
    ((ctxK (R := ODen (T_spec_TallyOf_sg N).ps × RDen (T_spec_TallyOf_sg N).rs) tab (T_spec_TallyOf_ctx N) T_spec_TallyOf_ann N (theCode Try.f31) [1, 1, 0, 1, 0] (retK tab (T_spec_TallyOf_sg N) Try.f31.results.toList some)) (.exit 0) (T_spec_TallyOf_lp0_e0 w1 i37 t38 b39 b40 b41 b42 b43)) =
    (T_spec_TallyOf_lp1 N w1 b39 b40 b41 b42 b43
    (fun i63 t64 b65 =>
      (some (α := ODen (T_spec_TallyOf_sg N).ps × RDen (T_spec_TallyOf_sg N).rs) ((), ((b39, (b40, (b41, (b42, (b43, (b65, ilen w1.2.2.2.2.1)))))), ()))))
     N (0 : Int) (0 : Int)) := by
  have h : ((ctxK (R := ODen (T_spec_TallyOf_sg N).ps × RDen (T_spec_TallyOf_sg N).rs) tab (T_spec_TallyOf_ctx N) T_spec_TallyOf_ann N (theCode Try.f31) [1, 1, 0, 1, 0] (retK tab (T_spec_TallyOf_sg N) Try.f31.results.toList some)) (.exit 0) (T_spec_TallyOf_lp0_e0 w1 i37 t38 b39 b40 b41 b42 b43)) =
    (T_spec_TallyOf_lp1_m N N (T_spec_TallyOf_lp1_sh (0 : Int) w1 b39 b40 b41 b42 b43 (0 : Int)) (ctxK (R := ODen (T_spec_TallyOf_sg N).ps × RDen (T_spec_TallyOf_sg N).rs) tab (T_spec_TallyOf_ctx N) T_spec_TallyOf_ann N (theCode Try.f31) [1, 1, 1, 0, 1, 0] (retK tab (T_spec_TallyOf_sg N) Try.f31.results.toList some))) := by kernel_rfl
  rw [h]
  (try simp only [T_spec_TallyOf_lp1_eq, T_spec_TallyOf_c2]) <;> rfl

theorem T_spec_TallyOf_den (N : Nat) (w1 : Y_World) :
    den (R := ODen (T_spec_TallyOf_sg N).ps × RDen (T_spec_TallyOf_sg N).rs) tab (T_spec_TallyOf_ctx N) T_spec_TallyOf_ann N (T_spec_TallyOf_sg N) Try.f31 (w1, ()) some =
    (T_spec_TallyOf_lp0 N w1
    (fun i37 t38 b39 b40 b41 b42 b43 =>
      (T_spec_TallyOf_lp1 N w1 b39 b40 b41 b42 b43
        (fun i63 t64 b65 =>
          (some (α := ODen (T_spec_TallyOf_sg N).ps × RDen (T_spec_TallyOf_sg N).rs) ((), ((b39, (b40, (b41, (b42, (b43, (b65, ilen w1.2.2.2.2.1)))))), ()))))
         N (0 : Int) (0 : Int)))
     N (0 : Int) (0 : Int) (0 : Int) (0 : Int) (0 : Int) (0 : Int)) := by
  have h : den (R := ODen (T_spec_TallyOf_sg N).ps × RDen (T_spec_TallyOf_sg N).rs) tab (T_spec_TallyOf_ctx N) T_spec_TallyOf_ann N (T_spec_TallyOf_sg N) Try.f31 (w1, ()) some =
    (T_spec_TallyOf_lp0_m N N (T_spec_TallyOf_lp0_sh (0 : Int) w1 (0 : Int) (0 : Int) (0 : Int) (0 : Int) (0 : Int)) (ctxK (R := ODen (T_spec_TallyOf_sg N).ps × RDen (T_spec_TallyOf_sg N).rs) tab (T_spec_TallyOf_ctx N) T_spec_TallyOf_ann N (theCode Try.f31) [1, 1, 0, 1, 0] (retK tab (T_spec_TallyOf_sg N) Try.f31.results.toList some))) := by kernel_rfl
  rw [h]
  (try simp only [T_spec_TallyOf_lp0_eq, T_spec_TallyOf_c1]) <;> rfl

theorem T_spec_TallyOf_ok (N : Nat) : chkBody Try.f31 (T_spec_TallyOf_sg N).ps = true := by kernel_rfl

theorem T_spec_TallyOf_callable : Callable Try.prog 31 := callable_of Try.func31 (show chkFn Try.f31 = true by kernel_rfl)

theorem T_spec_TallyOf_good (N : Nat) : Good Try.prog 31 (T_spec_TallyOf_sg N) :=
  good_body mixedOk tabOk (ctx_cons (T_spec_l1In_good N) T_spec_l1In_callable ctx_nil) Try.func31 (T_spec_TallyOf_ok N) (fun d _ h => ⟨N, (T_spec_TallyOf_den N d.1).trans h⟩)

noncomputable def T_impl_Live_sg (N : Nat) : Sig := Sig.of [.v (TY_World) true] [.v (.own (.int .i64)) false] (fun d => T_impl_Live N d.1)

def T_impl_Live_ann : Nat → List Ghost
  | 3 => [.canon [3, 8, 9, 10, 11]]
  | 4 => [.canon [3, 4, 5, 8, 9, 10]]
  | 5 => [.canon [3, 4, 8, 9, 10, 22]]
  | 6 => [.canon [3, 8, 9, 10]]
  | 7 => [.canon [3, 8, 9, 10]]
  | 100003 => [.canon [3, 8, 9, 10]]
  | _ => []

noncomputable def T_impl_Live_ctx (N : Nat) : Ctx := []

def T_impl_Live_lp0_sh (t2 : List Y_Root) (t3 : Int) (t4 : Int) (l5 : List Int) : St := { env := [(3, .s (.one (.own 0))), (8, .s (.one (.val (.slice (TY_Root)) (t2 : List Y_Root)))), (9, .s (.one (.val (.int .i64) (t3 : Int)))), (10, .s (.one (.val (.int .i64) (t4 : Int))))], objs := [(0, .arr (.int .i64) (l5 : List Int))], nx := 1 }

def T_impl_Live_lp0_e0 (t2 : List Y_Root) (t3 : Int) (t6 : Int) (t7 : Bool) (l8 : List Int) : St := { env := [(3, .s (.one (.own 0))), (8, .s (.one (.val (.slice (TY_Root)) (t2 : List Y_Root)))), (9, .s (.one (.val (.int .i64) (t3 : Int)))), (10, .s (.one (.val (.int .i64) (t6 : Int)))), (11, .s (.one (.val (.bool) (t7 : Bool))))], objs := [(0, .arr (.int .i64) (l8 : List Int))], nx := 1 }

noncomputable def T_impl_Live_lp0_m (N : Nat) {R : Type} (n : Nat) (st : St) (K : Ex → St → Option R) : Option R := loopN (roundG (T_impl_Live_ann 100003) fun st k => sx tab (T_impl_Live_ctx N) T_impl_Live_ann N (nthLoop Try.f78 0) st k) n st K

theorem T_impl_Live_lp0_step (N : Nat) {R : Type} (n : Nat) (K : Ex → St → Option R) (t2 : List Y_Root) (t3 : Int) (t4 : Int) (l5 : List Int) :
    T_impl_Live_lp0_m N (n + 1) (T_impl_Live_lp0_sh t2 t3 t4 l5) K =
    (bif decide (t4 < t3) then
    (bif inb t4 (List.length t2) then
      (bif (List.getD t2 (Int.toNat t4) d_Root).1 != (0 : Int) then
        (bif (List.getD t2 (Int.toNat t4) d_Root).1 != (8 : Int) then
          (bif room ((List.length l5) + (List.length ([t4]))) then
            (T_impl_Live_lp0_m N n (T_impl_Live_lp0_sh t2 t3 (iadd .i64 t4 (1 : Int)) (List.append l5 ([t4]))) K) else none)
          else
          (T_impl_Live_lp0_m N n (T_impl_Live_lp0_sh t2 t3 (iadd .i64 t4 (1 : Int)) l5) K))
        else
        (T_impl_Live_lp0_m N n (T_impl_Live_lp0_sh t2 t3 (iadd .i64 t4 (1 : Int)) l5) K)) else none)
    else
    (K (.exit 0) (T_impl_Live_lp0_e0 t2 t3 t4 (decide (t4 < t3)) l5))) := by kernel_rfl

theorem T_impl_Live_lp0_eq (N : Nat) {R : Type} (t2 : List Y_Root) (t3 : Int) (K : Ex → St → Option R) : ∀ (n : Nat) (t4 : Int) (l5 : List Int), T_impl_Live_lp0_m N n (T_impl_Live_lp0_sh t2 t3 t4 l5) K = T_impl_Live_lp0 N t2 t3 (fun t6 t7 l8 => (K (.exit 0) (T_impl_Live_lp0_e0 t2 t3 t6 t7 l8))) n t4 l5
  | 0, _, _ => rfl
  | n + 1, t4, l5 => by rw [T_impl_Live_lp0_step, T_impl_Live_lp0]; (try simp only [T_impl_Live_lp0_eq N t2 t3 K n])

theorem T_impl_Live_c1 (N : Nat) (w1 : Y_World) (t9 : Int) (t10 : Bool) (l11 : List Int) :
    ((ctxK (R := ODen (T_impl_Live_sg N).ps × RDen (T_impl_Live_sg N).rs) tab (T_impl_Live_ctx N) T_impl_Live_ann N (theCode Try.f78) [1, 1, 0, 1, 0] (retK tab (T_impl_Live_sg N) Try.f78.results.toList some)) (.exit 0) (T_impl_Live_lp0_e0 w1.2.2.2.2.2.1 (ilen w1.2.2.2.2.2.1) t9 t10 l11)) =
    (some (α := ODen (T_impl_Live_sg N).ps × RDen (T_impl_Live_sg N).rs) ((), (l11, ()))) := by kernel_rfl

theorem T_impl_Live_den (N : Nat) (w1 : Y_World) :
    den (R := ODen (T_impl_Live_sg N).ps × RDen (T_impl_Live_sg N).rs) tab (T_impl_Live_ctx N) T_impl_Live_ann N (T_impl_Live_sg N) Try.f78 (w1, ()) some =
    (T_impl_Live_lp0 N w1.2.2.2.2.2.1 (ilen w1.2.2.2.2.2.1)
    (fun t9 t10 l11 =>
      (some (α := ODen (T_impl_Live_sg N).ps × RDen (T_impl_Live_sg N).rs) ((), (l11, ()))))
     N (0 : Int) ([] : List Int)) := by
  have h : den (R := ODen (T_impl_Live_sg N).ps × RDen (T_impl_Live_sg N).rs) tab (T_impl_Live_ctx N) T_impl_Live_ann N (T_impl_Live_sg N) Try.f78 (w1, ()) some =
    (T_impl_Live_lp0_m N N (T_impl_Live_lp0_sh w1.2.2.2.2.2.1 (ilen w1.2.2.2.2.2.1) (0 : Int) ([] : List Int)) (ctxK (R := ODen (T_impl_Live_sg N).ps × RDen (T_impl_Live_sg N).rs) tab (T_impl_Live_ctx N) T_impl_Live_ann N (theCode Try.f78) [1, 1, 0, 1, 0] (retK tab (T_impl_Live_sg N) Try.f78.results.toList some))) := by kernel_rfl
  rw [h]
  (try simp only [T_impl_Live_lp0_eq, T_impl_Live_c1]) <;> rfl

theorem T_impl_Live_ok (N : Nat) : chkBody Try.f78 (T_impl_Live_sg N).ps = true := by kernel_rfl

theorem T_impl_Live_callable : Callable Try.prog 78 := callable_of Try.func78 (show chkFn Try.f78 = true by kernel_rfl)

theorem T_impl_Live_good (N : Nat) : Good Try.prog 78 (T_impl_Live_sg N) :=
  good_body mixedOk tabOk ctx_nil Try.func78 (T_impl_Live_ok N) (fun d _ h => ⟨N, (T_impl_Live_den N d.1).trans h⟩)

noncomputable def T_impl_within_sg (N : Nat) : Sig := Sig.of [.v (.int .i64) false, .v (.int .i64) false, .v (.int .i64) false] [.v (.bool) false] (fun d => T_impl_within N d.1 d.2.1 d.2.2.1)

def T_impl_within_ann : Nat → List Ghost
  | _ => []

noncomputable def T_impl_within_ctx (N : Nat) : Ctx := []

theorem T_impl_within_den (N : Nat) (x1 : Int) (lo2 : Int) (hi3 : Int) :
    den (R := ODen (T_impl_within_sg N).ps × RDen (T_impl_within_sg N).rs) tab (T_impl_within_ctx N) T_impl_within_ann N (T_impl_within_sg N) Try.f79 (x1, lo2, hi3, ()) some =
    (bif decide (x1 ≥ lo2) then
    (some (α := ODen (T_impl_within_sg N).ps × RDen (T_impl_within_sg N).rs) ((), (decide (x1 ≤ hi3), ())))
    else
    (some (α := ODen (T_impl_within_sg N).ps × RDen (T_impl_within_sg N).rs) ((), (false, ())))) := by kernel_rfl

theorem T_impl_within_ok (N : Nat) : chkBody Try.f79 (T_impl_within_sg N).ps = true := by kernel_rfl

theorem T_impl_within_callable : Callable Try.prog 79 := callable_of Try.func79 (show chkFn Try.f79 = true by kernel_rfl)

theorem T_impl_within_good (N : Nat) : Good Try.prog 79 (T_impl_within_sg N) :=
  good_body mixedOk tabOk ctx_nil Try.func79 (T_impl_within_ok N) (fun d _ h => ⟨N, (T_impl_within_den N d.1 d.2.1 d.2.2.1).trans h⟩)

noncomputable def T_impl_TallyOf_sg (N : Nat) : Sig := Sig.of [.v (TY_World) true] [.v (.prod (.int .i64) (.prod (.int .i64) (.prod (.int .i64) (.prod (.int .i64) (.prod (.int .i64) (.prod (.int .i64) (.int .i64))))))) true] (fun d => T_impl_TallyOf N d.1)

def T_impl_TallyOf_ann : Nat → List Ghost
  | 3 => [.canon [1, 2, 3, 16, 17, 18, 19]]
  | 4 => [.canon [1, 2, 3, 5, 16, 17, 18]]
  | 5 => [.canon [1, 2, 3, 5, 16, 17, 18, 22]]
  | 6 => [.canon [1, 2, 3, 5, 16, 17, 18]]
  | 7 => [.canon [1, 2, 3, 5, 16, 17, 18, 30]]
  | 8 => [.canon [1, 2, 3, 5, 16, 17, 18]]
  | 9 => [.canon [1, 2, 3, 5, 16, 17, 18, 43]]
  | 10 => [.canon [1, 2, 3, 5, 16, 17, 18]]
  | 11 => [.canon [1, 2, 3, 5, 16, 17, 18, 53]]
  | 12 => [.canon [1, 2, 3, 16, 17, 18]]
  | 13 => [.canon [1, 2, 3, 16, 17, 18]]
  | 15 => [.canon [2, 3, 63, 64, 65, 66]]
  | 16 => [.canon [2, 3, 7, 63, 64, 65]]
  | 17 => [.canon [2, 3, 63, 64, 65, 71]]
  | 18 => [.canon [2, 3, 63, 64, 65]]
  | 19 => [.canon [2, 3, 63, 64, 65]]
  | 100003 => [.canon [1, 2, 3, 16, 17, 18]]
  | 100015 => [.canon [2, 3, 63, 64, 65]]
  | _ => []

noncomputable def T_impl_TallyOf_ctx (N : Nat) : Ctx := [(78, T_impl_Live_sg N), (79, T_impl_within_sg N)]

def T_impl_TallyOf_lp0_sh (t3 : List Y_Root) (t5 : Int) (b6 : Y_World) (b14 : Int) (b15 : Int) (b16 : Int) (b17 : Int) (b18 : Int) : St := { env := [(1, .s (.one (.ptr 0 0))), (2, .s (.one (.ptr 1 0))), (3, .s (.one (.ptr 2 0))), (16, .s (.one (.val (.slice (TY_Root)) (t3 : List Y_Root)))), (17, .s (.one (.val (.int .i64) (ilen b6.2.2.2.2.2.1 : Int)))), (18, .s (.one (.val (.int .i64) (t5 : Int))))], objs := [(0, .box [.val (.int .i64) (b6.1 : Int), .val (.int .i64) (b6.2.1 : Int), .val (.int .i64) (b6.2.2.1.1 : Int), .val (.slice (.prod (.int .i64) (.prod (.int .i64) (.int .i64)))) (b6.2.2.1.2 : List (Int × Int × Int)), .val (.slice (.int .i64)) (b6.2.2.2.1.1 : List Int), .val (.int .i64) (b6.2.2.2.1.2 : Int), .val (.slice (.prod (.int .i64) (.prod (.int .i64) (.int .i64)))) (b6.2.2.2.2.1 : List (Int × Int × Int)), .val (.slice (TY_Root)) (b6.2.2.2.2.2.1 : List Y_Root), .val (.slice (.prod (.int .i64) (.prod (.int .i64) (.slice (.prod (.int .i64) (.int .i64)))))) (b6.2.2.2.2.2.2 : List (Int × Int × List (Int × Int)))]), (1, .box [.val (.int .i64) ((0 : Int) : Int), .val (.int .i64) ((0 : Int) : Int), .val (.int .i64) ((0 : Int) : Int), .val (.int .i64) ((0 : Int) : Int), .val (.int .i64) ((0 : Int) : Int), .val (.int .i64) ((0 : Int) : Int), .val (.int .i64) ((0 : Int) : Int)]), (2, .box [.val (.int .i64) (b14 : Int), .val (.int .i64) (b15 : Int), .val (.int .i64) (b16 : Int), .val (.int .i64) (b17 : Int), .val (.int .i64) (b18 : Int), .val (.int .i64) ((0 : Int) : Int), .val (.int .i64) (ilen b6.2.2.2.2.1 : Int)])], nx := 3 }

def T_impl_TallyOf_lp0_e0 (t3 : List Y_Root) (b6 : Y_World) (b15 : Int) (t33 : Int) (t34 : Bool) (b35 : Int) (b36 : Int) (b37 : Int) (b38 : Int) : St := { env := [(1, .s (.one (.ptr 0 0))), (2, .s (.one (.ptr 1 0))), (3, .s (.one (.ptr 2 0))), (16, .s (.one (.val (.slice (TY_Root)) (t3 : List Y_Root)))), (17, .s (.one (.val (.int .i64) (ilen b6.2.2.2.2.2.1 : Int)))), (18, .s (.one (.val (.int .i64) (t33 : Int)))), (19, .s (.one (.val (.bool) (t34 : Bool))))], objs := [(0, .box [.val (.int .i64) (b6.1 : Int), .val (.int .i64) (b6.2.1 : Int), .val (.int .i64) (b6.2.2.1.1 : Int), .val (.slice (.prod (.int .i64) (.prod (.int .i64) (.int .i64)))) (b6.2.2.1.2 : List (Int × Int × Int)), .val (.slice (.int .i64)) (b6.2.2.2.1.1 : List Int), .val (.int .i64) (b6.2.2.2.1.2 : Int), .val (.slice (.prod (.int .i64) (.prod (.int .i64) (.int .i64)))) (b6.2.2.2.2.1 : List (Int × Int × Int)), .val (.slice (TY_Root)) (b6.2.2.2.2.2.1 : List Y_Root), .val (.slice (.prod (.int .i64) (.prod (.int .i64) (.slice (.prod (.int .i64) (.int .i64)))))) (b6.2.2.2.2.2.2 : List (Int × Int × List (Int × Int)))]), (1, .box [.val (.int .i64) ((0 : Int) : Int), .val (.int .i64) ((0 : Int) : Int), .val (.int .i64) ((0 : Int) : Int), .val (.int .i64) ((0 : Int) : Int), .val (.int .i64) ((0 : Int) : Int), .val (.int .i64) ((0 : Int) : Int), .val (.int .i64) ((0 : Int) : Int)]), (2, .box [.val (.int .i64) (b35 : Int), .val (.int .i64) (b15 : Int), .val (.int .i64) (b36 : Int), .val (.int .i64) (b37 : Int), .val (.int .i64) (b38 : Int), .val (.int .i64) ((0 : Int) : Int), .val (.int .i64) (ilen b6.2.2.2.2.1 : Int)])], nx := 3 }

noncomputable def T_impl_TallyOf_lp0_m (N : Nat) {R : Type} (n : Nat) (st : St) (K : Ex → St → Option R) : Option R := loopN (roundG (T_impl_TallyOf_ann 100003) fun st k => sx tab (T_impl_TallyOf_ctx N) T_impl_TallyOf_ann N (nthLoop Try.f33 0) st k) n st K

theorem T_impl_TallyOf_lp0_step (N : Nat) {R : Type} (n : Nat) (K : Ex → St → Option R) (t3 : List Y_Root) (t5 : Int) (b6 : Y_World) (b14 : Int) (b15 : Int) (b16 : Int) (b17 : Int) (b18 : Int) :
    T_impl_TallyOf_lp0_m N (n + 1) (T_impl_TallyOf_lp0_sh t3 t5 b6 b14 b15 b16 b17 b18) K =
    (bif decide (t5 < (ilen b6.2.2.2.2.2.1)) then
    (bif inb t5 (List.length t3) then
      (bif (List.getD t3 (Int.toNat t5) d_Root).1 == (0 : Int) then
        ((T_impl_within N (List.getD t3 (Int.toNat t5) d_Root).2.1 (1 : Int) (400 : Int)).bind fun o39 =>
          (bif o39.2.1 then
            (T_impl_TallyOf_lp0_m N n (T_impl_TallyOf_lp0_sh t3 (iadd .i64 t5 (1 : Int)) b6 (iadd .i64 b14 (1 : Int)) b15 b16 b17 (iadd .i64 b18 (List.getD t3 (Int.toNat t5) d_Root).2.1)) K)
            else
            (T_impl_TallyOf_lp0_m N n (T_impl_TallyOf_lp0_sh t3 (iadd .i64 t5 (1 : Int)) b6 (iadd .i64 b14 (1 : Int)) b15 b16 b17 b18) K)))
        else
        (bif (List.getD t3 (Int.toNat t5) d_Root).1 == (8 : Int) then
          (bif (List.getD t3 (Int.toNat t5) d_Root).2.2.2.2.2.2.2.1 == (1 : Int) then
            ((T_impl_within N (List.getD t3 (Int.toNat t5) d_Root).2.1 (1 : Int) (400 : Int)).bind fun o40 =>
              (bif o40.2.1 then
                (T_impl_TallyOf_lp0_m N n (T_impl_TallyOf_lp0_sh t3 (iadd .i64 t5 (1 : Int)) b6 b14 b15 (iadd .i64 b16 (1 : Int)) b17 (iadd .i64 b18 (List.getD t3 (Int.toNat t5) d_Root).2.1)) K)
                else
                (T_impl_TallyOf_lp0_m N n (T_impl_TallyOf_lp0_sh t3 (iadd .i64 t5 (1 : Int)) b6 b14 b15 (iadd .i64 b16 (1 : Int)) b17 b18) K)))
            else
            (bif (List.getD t3 (Int.toNat t5) d_Root).1 == (8 : Int) then
              ((T_impl_within N (List.getD t3 (Int.toNat t5) d_Root).2.1 (1 : Int) (400 : Int)).bind fun o41 =>
                (bif o41.2.1 then
                  (T_impl_TallyOf_lp0_m N n (T_impl_TallyOf_lp0_sh t3 (iadd .i64 t5 (1 : Int)) b6 b14 b15 b16 (iadd .i64 b17 (1 : Int)) (iadd .i64 b18 (List.getD t3 (Int.toNat t5) d_Root).2.1)) K)
                  else
                  (T_impl_TallyOf_lp0_m N n (T_impl_TallyOf_lp0_sh t3 (iadd .i64 t5 (1 : Int)) b6 b14 b15 b16 (iadd .i64 b17 (1 : Int)) b18) K)))
              else
              ((T_impl_within N (List.getD t3 (Int.toNat t5) d_Root).2.1 (1 : Int) (400 : Int)).bind fun o42 =>
                (bif o42.2.1 then
                  (T_impl_TallyOf_lp0_m N n (T_impl_TallyOf_lp0_sh t3 (iadd .i64 t5 (1 : Int)) b6 b14 b15 b16 b17 (iadd .i64 b18 (List.getD t3 (Int.toNat t5) d_Root).2.1)) K)
                  else
                  (T_impl_TallyOf_lp0_m N n (T_impl_TallyOf_lp0_sh t3 (iadd .i64 t5 (1 : Int)) b6 b14 b15 b16 b17 b18) K)))))
          else
          (bif (List.getD t3 (Int.toNat t5) d_Root).1 == (8 : Int) then
            ((T_impl_within N (List.getD t3 (Int.toNat t5) d_Root).2.1 (1 : Int) (400 : Int)).bind fun o43 =>
              (bif o43.2.1 then
                (T_impl_TallyOf_lp0_m N n (T_impl_TallyOf_lp0_sh t3 (iadd .i64 t5 (1 : Int)) b6 b14 b15 b16 (iadd .i64 b17 (1 : Int)) (iadd .i64 b18 (List.getD t3 (Int.toNat t5) d_Root).2.1)) K)
                else
                (T_impl_TallyOf_lp0_m N n (T_impl_TallyOf_lp0_sh t3 (iadd .i64 t5 (1 : Int)) b6 b14 b15 b16 (iadd .i64 b17 (1 : Int)) b18) K)))
            else
            ((T_impl_within N (List.getD t3 (Int.toNat t5) d_Root).2.1 (1 : Int) (400 : Int)).bind fun o44 =>
              (bif o44.2.1 then
                (T_impl_TallyOf_lp0_m N n (T_impl_TallyOf_lp0_sh t3 (iadd .i64 t5 (1 : Int)) b6 b14 b15 b16 b17 (iadd .i64 b18 (List.getD t3 (Int.toNat t5) d_Root).2.1)) K)
                else
                (T_impl_TallyOf_lp0_m N n (T_impl_TallyOf_lp0_sh t3 (iadd .i64 t5 (1 : Int)) b6 b14 b15 b16 b17 b18) K)))))) else none)
    else
    (K (.exit 0) (T_impl_TallyOf_lp0_e0 t3 b6 b15 t5 (decide (t5 < (ilen b6.2.2.2.2.2.1))) b14 b16 b17 b18))) := by kernel_rfl

theorem T_impl_TallyOf_lp0_eq (N : Nat) {R : Type} (t3 : List Y_Root) (b6 : Y_World) (b15 : Int) (K : Ex → St → Option R) : ∀ (n : Nat) (t5 : Int) (b14 : Int) (b16 : Int) (b17 : Int) (b18 : Int), T_impl_TallyOf_lp0_m N n (T_impl_TallyOf_lp0_sh t3 t5 b6 b14 b15 b16 b17 b18) K = T_impl_TallyOf_lp0 N t3 b6 b15 (fun t33 t34 b35 b36 b37 b38 => (K (.exit 0) (T_impl_TallyOf_lp0_e0 t3 b6 b15 t33 t34 b35 b36 b37 b38))) n t5 b14 b16 b17 b18
  | 0, _, _, _, _, _ => rfl
  | n + 1, t5, b14, b16, b17, b18 => by rw [T_impl_TallyOf_lp0_step, T_impl_TallyOf_lp0]; (try simp only [T_impl_TallyOf_lp0_eq N t3 b6 b15 K n])

def T_impl_TallyOf_lp1_sh (t51 : List (Int × Int × Int)) (t52 : Int) (t53 : Int) (b61 : Int) (b62 : Int) (b63 : Int) (b64 : Int) (b65 : Int) (b66 : Int) (b67 : Int) : St := { env := [(2, .s (.one (.ptr 0 0))), (3, .s (.one (.ptr 1 0))), (63, .s (.one (.val (.slice (.prod (.int .i64) (.prod (.int .i64) (.int .i64)))) (t51 : List (Int × Int × Int))))), (64, .s (.one (.val (.int .i64) (t52 : Int)))), (65, .s (.one (.val (.int .i64) (t53 : Int))))], objs := [(0, .box [.val (.int .i64) ((0 : Int) : Int), .val (.int .i64) ((0 : Int) : Int), .val (.int .i64) ((0 : Int) : Int), .val (.int .i64) ((0 : Int) : Int), .val (.int .i64) ((0 : Int) : Int), .val (.int .i64) ((0 : Int) : Int), .val (.int .i64) ((0 : Int) : Int)]), (1, .box [.val (.int .i64) (b61 : Int), .val (.int .i64) (b62 : Int), .val (.int .i64) (b63 : Int), .val (.int .i64) (b64 : Int), .val (.int .i64) (b65 : Int), .val (.int .i64) (b66 : Int), .val (.int .i64) (b67 : Int)])], nx := 2 }

def T_impl_TallyOf_lp1_e0 (t51 : List (Int × Int × Int)) (t52 : Int) (b61 : Int) (b62 : Int) (b63 : Int) (b64 : Int) (b65 : Int) (b67 : Int) (t68 : Int) (t69 : Bool) (b70 : Int) : St := { env := [(2, .s (.one (.ptr 0 0))), (3, .s (.one (.ptr 1 0))), (63, .s (.one (.val (.slice (.prod (.int .i64) (.prod (.int .i64) (.int .i64)))) (t51 : List (Int × Int × Int))))), (64, .s (.one (.val (.int .i64) (t52 : Int)))), (65, .s (.one (.val (.int .i64) (t68 : Int)))), (66, .s (.one (.val (.bool) (t69 : Bool))))], objs := [(0, .box [.val (.int .i64) ((0 : Int) : Int), .val (.int .i64) ((0 : Int) : Int), .val (.int .i64) ((0 : Int) : Int), .val (.int .i64) ((0 : Int) : Int), .val (.int .i64) ((0 : Int) : Int), .val (.int .i64) ((0 : Int) : Int), .val (.int .i64) ((0 : Int) : Int)]), (1, .box [.val (.int .i64) (b61 : Int), .val (.int .i64) (b62 : Int), .val (.int .i64) (b63 : Int), .val (.int .i64) (b64 : Int), .val (.int .i64) (b65 : Int), .val (.int .i64) (b70 : Int), .val (.int .i64) (b67 : Int)])], nx := 2 }

noncomputable def T_impl_TallyOf_lp1_m (N : Nat) {R : Type} (n : Nat) (st : St) (K : Ex → St → Option R) : Option R := loopN (roundG (T_impl_TallyOf_ann 100015) fun st k => sx tab (T_impl_TallyOf_ctx N) T_impl_TallyOf_ann N (nthLoop Try.f33 1) st k) n st K

theorem T_impl_TallyOf_lp1_step (N : Nat) {R : Type} (n : Nat) (K : Ex → St → Option R) (t51 : List (Int × Int × Int)) (t52 : Int) (t53 : Int) (b61 : Int) (b62 : Int) (b63 : Int) (b64 : Int) (b65 : Int) (b66 : Int) (b67 : Int) :
    T_impl_TallyOf_lp1_m N (n + 1) (T_impl_TallyOf_lp1_sh t51 t52 t53 b61 b62 b63 b64 b65 b66 b67) K =
    (bif decide (t53 < t52) then
    (bif inb t53 (List.length t51) then
      (bif (List.getD t51 (Int.toNat t53) ((0 : Int), ((0 : Int), (0 : Int)))).2.2 != (0 : Int) then
        (T_impl_TallyOf_lp1_m N n (T_impl_TallyOf_lp1_sh t51 t52 (iadd .i64 t53 (1 : Int)) b61 b62 b63 b64 b65 (iadd .i64 b66 (1 : Int)) b67) K)
        else
        (T_impl_TallyOf_lp1_m N n (T_impl_TallyOf_lp1_sh t51 t52 (iadd .i64 t53 (1 : Int)) b61 b62 b63 b64 b65 b66 b67) K)) else none)
    else
    (K (.exit 3) (T_impl_TallyOf_lp1_e0 t51 t52 b61 b62 b63 b64 b65 b67 t53 (decide (t53 < t52)) b66))) := by kernel_rfl

theorem T_impl_TallyOf_lp1_eq (N : Nat) {R : Type} (t51 : List (Int × Int × Int)) (t52 : Int) (b61 : Int) (b62 : Int) (b63 : Int) (b64 : Int) (b65 : Int) (b67 : Int) (K : Ex → St → Option R) : ∀ (n : Nat) (t53 : Int) (b66 : Int), T_impl_TallyOf_lp1_m N n (T_impl_TallyOf_lp1_sh t51 t52 t53 b61 b62 b63 b64 b65 b66 b67) K = T_impl_TallyOf_lp1 N t51 t52 b61 b62 b63 b64 b65 b67 (fun t68 t69 b70 => (K (.exit 3) (T_impl_TallyOf_lp1_e0 t51 t52 b61 b62 b63 b64 b65 b67 t68 t69 b70))) n t53 b66
  | 0, _, _ => rfl
  | n + 1, t53, b66 => by rw [T_impl_TallyOf_lp1_step, T_impl_TallyOf_lp1]; (try simp only [T_impl_TallyOf_lp1_eq N t51 t52 b61 b62 b63 b64 b65 b67 K n])

theorem T_impl_TallyOf_c2 (N : Nat) (w1 : Y_World) (b47 : Int) (o2 : Unit × List Int × Unit) (b48 : Int) (b49 : Int) (b50 : Int) (t71 : Int) (t72 : Bool) (b73 : Int) :
    ((ctxK (R := ODen (T_impl_TallyOf_sg N).ps × RDen (T_impl_TallyOf_sg N).rs) tab (T_impl_TallyOf_ctx N) T_impl_TallyOf_ann N (theCode Try.f33) [1, 1, 1, 0, 1, 0] (retK tab (T_impl_TallyOf_sg N) Try.f33.results.toList some)) (.exit 3) (T_impl_TallyOf_lp1_e0 w1.2.2.1.2 (ilen w1.2.2.1.2) b47 (ilen o2.2.1) b48 b49 b50 (ilen w1.2.2.2.2.1) t71 t72 b73)) =
    (some (α := ODen (T_impl_TallyOf_sg N).ps × RDen (T_impl_TallyOf_sg N).rs) ((), ((b47, (ilen o2.2.1, (b48, (b49, (b50, (b73, ilen w1.2.2.2.2.1)))))), ()))) := by kernel_rfl

theorem T_impl_TallyOf_c1 (N : Nat) (w1 : Y_World) (o2 : Unit × List Int × Unit) (t45 : Int) (t46 : Bool) (b47 : Int) (b48 : Int) (b49 : Int) (b50 : Int) :
    ((ctxK (R := ODen (T_impl_TallyOf_sg N).ps × RDen (T_impl_TallyOf_sg N).rs) tab (T_impl_TallyOf_ctx N) T_impl_TallyOf_ann N (theCode Try.f33) [1, 1, 0, 1, 0] (retK tab (T_impl_TallyOf_sg N) Try.f33.results.toList some)) (.exit 0) (T_impl_TallyOf_lp0_e0 w1.2.2.2.2.2.1 w1 (ilen o2.2.1) t45 t46 b47 b48 b49 b50)) =
    (T_impl_TallyOf_lp1 N w1.2.2.1.2 (ilen w1.2.2.1.2) b47 (ilen o2.2.1) b48 b49 b50 (ilen w1.2.2.2.2.1)
    (fun t71 t72 b73 =>
      (some (α := ODen (T_impl_TallyOf_sg N).ps × RDen (T_impl_TallyOf_sg N).rs) ((), ((b47, (ilen o2.2.1, (b48, (b49, (b50, (b73, ilen w1.2.2.2.2.1)))))), ()))))
     N (0 : Int) (0 : Int)) := by
  have h : ((ctxK (R := ODen (T_impl_TallyOf_sg N).ps × RDen (T_impl_TallyOf_sg N).rs) tab (T_impl_TallyOf_ctx N) T_impl_TallyOf_ann N (theCode Try.f33) [1, 1, 0, 1, 0] (retK tab (T_impl_TallyOf_sg N) Try.f33.results.toList some)) (.exit 0) (T_impl_TallyOf_lp0_e0 w1.2.2.2.2.2.1 w1 (ilen o2.2.1) t45 t46 b47 b48 b49 b50)) =
    (T_impl_TallyOf_lp1_m N N (T_impl_TallyOf_lp1_sh w1.2.2.1.2 (ilen w1.2.2.1.2) (0 : Int) b47 (ilen o2.2.1) b48 b49 b50 (0 : Int) (ilen w1.2.2.2.2.1)) (ctxK (R := ODen (T_impl_TallyOf_sg N).ps × RDen (T_impl_TallyOf_sg N).rs) tab (T_impl_TallyOf_ctx N) T_impl_TallyOf_ann N (theCode Try.f33) [1, 1, 1, 0, 1, 0] (retK tab (T_impl_TallyOf_sg N) Try.f33.results.toList some))) := by kernel_rfl
  rw [h]
  (try simp only [T_impl_TallyOf_lp1_eq, T_impl_TallyOf_c2]) <;> rfl

theorem T_impl_TallyOf_c4 (N : Nat) (w1 : Y_World) (b77 : Int) (o74 : Unit × List Int × Unit) (b78 : Int) (b79 : Int) (b80 : Int) (t81 : Int) (t82 : Bool) (b83 : Int) :
    ((ctxK (R := ODen (T_impl_TallyOf_sg N).ps × RDen (T_impl_TallyOf_sg N).rs) tab (T_impl_TallyOf_ctx N) T_impl_TallyOf_ann N (theCode Try.f33) [1, 1, 1, 0, 1, 0] (retK tab (T_impl_TallyOf_sg N) Try.f33.results.toList some)) (.exit 3) (T_impl_TallyOf_lp1_e0 w1.2.2.1.2 (ilen w1.2.2.1.2) b77 (ilen o74.2.1) b78 b79 b80 (ilen w1.2.2.2.2.1) t81 t82 b83)) =
    (some (α := ODen (T_impl_TallyOf_sg N).ps × RDen (T_impl_TallyOf_sg N).rs) ((), ((b77, (ilen o74.2.1, (b78, (b79, (b80, (b83, ilen w1.2.2.2.2.1)))))), ()))) := by kernel_rfl

theorem T_impl_TallyOf_c3 (N : Nat) (w1 : Y_World) (o74 : Unit × List Int × Unit) (t75 : Int) (t76 : Bool) (b77 : Int) (b78 : Int) (b79 : Int) (b80 : Int) :
    ((ctxK (R := ODen (T_impl_TallyOf_sg N).ps × RDen (T_impl_TallyOf_sg N).rs) tab (T_impl_TallyOf_ctx N) T_impl_TallyOf_ann N (theCode Try.f33) [1, 1, 0, 1, 0] (retK tab (T_impl_TallyOf_sg N) Try.f33.results.toList some)) (.exit 0) (T_impl_TallyOf_lp0_e0 w1.2.2.2.2.2.1 w1 (ilen o74.2.1) t75 t76 b77 b78 b79 b80)) =
    (T_impl_TallyOf_lp1 N w1.2.2.1.2 (ilen w1.2.2.1.2) b77 (ilen o74.2.1) b78 b79 b80 (ilen w1.2.2.2.2.1)
    (fun t81 t82 b83 =>
      (some (α := ODen (T_impl_TallyOf_sg N).ps × RDen (T_impl_TallyOf_sg N).rs) ((), ((b77, (ilen o74.2.1, (b78, (b79, (b80, (b83, ilen w1.2.2.2.2.1)))))), ()))))
     N (0 : Int) (0 : Int)) := by
  have h : ((ctxK (R := ODen (T_impl_TallyOf_sg N).ps × RDen (T_impl_TallyOf_sg N).rs) tab (T_impl_TallyOf_ctx N) T_impl_TallyOf_ann N (theCode Try.f33) [1, 1, 0, 1, 0] (retK tab (T_impl_TallyOf_sg N) Try.f33.results.toList some)) (.exit 0) (T_impl_TallyOf_lp0_e0 w1.2.2.2.2.2.1 w1 (ilen o74.2.1) t75 t76 b77 b78 b79 b80)) =
    (T_impl_TallyOf_lp1_m N N (T_impl_TallyOf_lp1_sh w1.2.2.1.2 (ilen w1.2.2.1.2) (0 : Int) b77 (ilen o74.2.1) b78 b79 b80 (0 : Int) (ilen w1.2.2.2.2.1)) (ctxK (R := ODen (T_impl_TallyOf_sg N).ps × RDen (T_impl_TallyOf_sg N).rs) tab (T_impl_TallyOf_ctx N) T_impl_TallyOf_ann N (theCode Try.f33) [1, 1, 1, 0, 1, 0] (retK tab (T_impl_TallyOf_sg N) Try.f33.results.toList some))) := by kernel_rfl
  rw [h]
  (try simp only [T_impl_TallyOf_lp1_eq, T_impl_TallyOf_c4]) <;> rfl

theorem T_impl_TallyOf_den (N : Nat) (w1 : Y_World) :
    den (R := ODen (T_impl_TallyOf_sg N).ps × RDen (T_impl_TallyOf_sg N).rs) tab (T_impl_TallyOf_ctx N) T_impl_TallyOf_ann N (T_impl_TallyOf_sg N) Try.f33 (w1, ()) some =
    (both
    ((T_impl_Live N w1).bind fun o2 =>
      (T_impl_TallyOf_lp0 N w1.2.2.2.2.2.1 w1 (ilen o2.2.1)
        (fun t45 t46 b47 b48 b49 b50 =>
          (T_impl_TallyOf_lp1 N w1.2.2.1.2 (ilen w1.2.2.1.2) b47 (ilen o2.2.1) b48 b49 b50 (ilen w1.2.2.2.2.1)
            (fun t71 t72 b73 =>
              (some (α := ODen (T_impl_TallyOf_sg N).ps × RDen (T_impl_TallyOf_sg N).rs) ((), ((b47, (ilen o2.2.1, (b48, (b49, (b50, (b73, ilen w1.2.2.2.2.1)))))), ()))))
             N (0 : Int) (0 : Int)))
         N (0 : Int) (0 : Int) (0 : Int) (0 : Int) (0 : Int)))
    ((T_impl_Live N w1).bind fun o74 =>
      (T_impl_TallyOf_lp0 N w1.2.2.2.2.2.1 w1 (ilen o74.2.1)
        (fun t75 t76 b77 b78 b79 b80 =>
          (T_impl_TallyOf_lp1 N w1.2.2.1.2 (ilen w1.2.2.1.2) b77 (ilen o74.2.1) b78 b79 b80 (ilen w1.2.2.2.2.1)
            (fun t81 t82 b83 =>
              (some (α := ODen (T_impl_TallyOf_sg N).ps × RDen (T_impl_TallyOf_sg N).rs) ((), ((b77, (ilen o74.2.1, (b78, (b79, (b80, (b83, ilen w1.2.2.2.2.1)))))), ()))))
             N (0 : Int) (0 : Int)))
         N (0 : Int) (0 : Int) (0 : Int) (0 : Int) (0 : Int)))) := by
  have h : den (R := ODen (T_impl_TallyOf_sg N).ps × RDen (T_impl_TallyOf_sg N).rs) tab (T_impl_TallyOf_ctx N) T_impl_TallyOf_ann N (T_impl_TallyOf_sg N) Try.f33 (w1, ()) some =
    (both
    ((T_impl_Live N w1).bind fun o2 =>
      (T_impl_TallyOf_lp0_m N N (T_impl_TallyOf_lp0_sh w1.2.2.2.2.2.1 (0 : Int) w1 (0 : Int) (ilen o2.2.1) (0 : Int) (0 : Int) (0 : Int)) (ctxK (R := ODen (T_impl_TallyOf_sg N).ps × RDen (T_impl_TallyOf_sg N).rs) tab (T_impl_TallyOf_ctx N) T_impl_TallyOf_ann N (theCode Try.f33) [1, 1, 0, 1, 0] (retK tab (T_impl_TallyOf_sg N) Try.f33.results.toList some))))
    ((T_impl_Live N w1).bind fun o74 =>
      (T_impl_TallyOf_lp0_m N N (T_impl_TallyOf_lp0_sh w1.2.2.2.2.2.1 (0 : Int) w1 (0 : Int) (ilen o74.2.1) (0 : Int) (0 : Int) (0 : Int)) (ctxK (R := ODen (T_impl_TallyOf_sg N).ps × RDen (T_impl_TallyOf_sg N).rs) tab (T_impl_TallyOf_ctx N) T_impl_TallyOf_ann N (theCode Try.f33) [1, 1, 0, 1, 0] (retK tab (T_impl_TallyOf_sg N) Try.f33.results.toList some))))) := by kernel_rfl
  rw [h]
  (try simp only [T_impl_TallyOf_lp0_eq, T_impl_TallyOf_c1, T_impl_TallyOf_c3]) <;> rfl

theorem T_impl_TallyOf_ok (N : Nat) : chkBody Try.f33 (T_impl_TallyOf_sg N).ps = true := by kernel_rfl

theorem T_impl_TallyOf_callable : Callable Try.prog 33 := callable_of Try.func33 (show chkFn Try.f33 = true by kernel_rfl)

theorem T_impl_TallyOf_good (N : Nat) : Good Try.prog 33 (T_impl_TallyOf_sg N) :=
  good_body mixedOk tabOk (ctx_cons (T_impl_Live_good N) T_impl_Live_callable (ctx_cons (T_impl_within_good N) T_impl_within_callable ctx_nil)) Try.func33 (T_impl_TallyOf_ok N) (fun d _ h => ⟨N, (T_impl_TallyOf_den N d.1).trans h⟩)

noncomputable def T_laws_eqTally_sg (N : Nat) : Sig := Sig.of [.v (.prod (.int .i64) (.prod (.int .i64) (.prod (.int .i64) (.prod (.int .i64) (.prod (.int .i64) (.prod (.int .i64) (.int .i64))))))) true, .v (.prod (.int .i64) (.prod (.int .i64) (.prod (.int .i64) (.prod (.int .i64) (.prod (.int .i64) (.prod (.int .i64) (.int .i64))))))) true] [.v (.bool) false] (fun d => T_laws_eqTally N d.1 d.2.1)

def T_laws_eqTally_ann : Nat → List Ghost
  | _ => []

noncomputable def T_laws_eqTally_ctx (N : Nat) : Ctx := []

theorem T_laws_eqTally_den (N : Nat) (a1 : Int × Int × Int × Int × Int × Int × Int) (b2 : Int × Int × Int × Int × Int × Int × Int) :
    den (R := ODen (T_laws_eqTally_sg N).ps × RDen (T_laws_eqTally_sg N).rs) tab (T_laws_eqTally_ctx N) T_laws_eqTally_ann N (T_laws_eqTally_sg N) Try.f34 (a1, b2, ()) some =
    (bif a1.1 != b2.1 then
    (some (α := ODen (T_laws_eqTally_sg N).ps × RDen (T_laws_eqTally_sg N).rs) ((), (false, ())))
    else
    (bif a1.2.1 != b2.2.1 then
      (some (α := ODen (T_laws_eqTally_sg N).ps × RDen (T_laws_eqTally_sg N).rs) ((), (false, ())))
      else
      (bif a1.2.2.1 != b2.2.2.1 then
        (some (α := ODen (T_laws_eqTally_sg N).ps × RDen (T_laws_eqTally_sg N).rs) ((), (false, ())))
        else
        (bif a1.2.2.2.1 != b2.2.2.2.1 then
          (some (α := ODen (T_laws_eqTally_sg N).ps × RDen (T_laws_eqTally_sg N).rs) ((), (false, ())))
          else
          (bif a1.2.2.2.2.1 != b2.2.2.2.2.1 then
            (some (α := ODen (T_laws_eqTally_sg N).ps × RDen (T_laws_eqTally_sg N).rs) ((), (false, ())))
            else
            (bif a1.2.2.2.2.2.1 != b2.2.2.2.2.2.1 then
              (some (α := ODen (T_laws_eqTally_sg N).ps × RDen (T_laws_eqTally_sg N).rs) ((), (false, ())))
              else
              (bif a1.2.2.2.2.2.2 != b2.2.2.2.2.2.2 then
                (some (α := ODen (T_laws_eqTally_sg N).ps × RDen (T_laws_eqTally_sg N).rs) ((), (false, ())))
                else
                (some (α := ODen (T_laws_eqTally_sg N).ps × RDen (T_laws_eqTally_sg N).rs) ((), (true, ())))))))))) := by kernel_rfl

theorem T_laws_eqTally_ok (N : Nat) : chkBody Try.f34 (T_laws_eqTally_sg N).ps = true := by kernel_rfl

theorem T_laws_eqTally_callable : Callable Try.prog 34 := callable_of Try.func34 (show chkFn Try.f34 = true by kernel_rfl)

theorem T_laws_eqTally_good (N : Nat) : Good Try.prog 34 (T_laws_eqTally_sg N) :=
  good_body mixedOk tabOk ctx_nil Try.func34 (T_laws_eqTally_ok N) (fun d _ h => ⟨N, (T_laws_eqTally_den N d.1 d.2.1).trans h⟩)

noncomputable def T_laws_eqWord_sg (N : Nat) : Sig := Sig.of [.v (.prod (.int .i64) (.prod (.int .i64) (.int .i64))) true, .v (.prod (.int .i64) (.prod (.int .i64) (.int .i64))) true] [.v (.bool) false] (fun d => T_laws_eqWord N d.1 d.2.1)

def T_laws_eqWord_ann : Nat → List Ghost
  | _ => []

noncomputable def T_laws_eqWord_ctx (N : Nat) : Ctx := []

theorem T_laws_eqWord_den (N : Nat) (a1 : Int × Int × Int) (b2 : Int × Int × Int) :
    den (R := ODen (T_laws_eqWord_sg N).ps × RDen (T_laws_eqWord_sg N).rs) tab (T_laws_eqWord_ctx N) T_laws_eqWord_ann N (T_laws_eqWord_sg N) Try.f167 (a1, b2, ()) some =
    (bif a1.1 != b2.1 then
    (some (α := ODen (T_laws_eqWord_sg N).ps × RDen (T_laws_eqWord_sg N).rs) ((), (false, ())))
    else
    (bif a1.2.1 != b2.2.1 then
      (some (α := ODen (T_laws_eqWord_sg N).ps × RDen (T_laws_eqWord_sg N).rs) ((), (false, ())))
      else
      (bif a1.2.2 != b2.2.2 then
        (some (α := ODen (T_laws_eqWord_sg N).ps × RDen (T_laws_eqWord_sg N).rs) ((), (false, ())))
        else
        (some (α := ODen (T_laws_eqWord_sg N).ps × RDen (T_laws_eqWord_sg N).rs) ((), (true, ())))))) := by kernel_rfl

theorem T_laws_eqWord_ok (N : Nat) : chkBody Try.f167 (T_laws_eqWord_sg N).ps = true := by kernel_rfl

theorem T_laws_eqWord_callable : Callable Try.prog 167 := callable_of Try.func167 (show chkFn Try.f167 = true by kernel_rfl)

theorem T_laws_eqWord_good (N : Nat) : Good Try.prog 167 (T_laws_eqWord_sg N) :=
  good_body mixedOk tabOk ctx_nil Try.func167 (T_laws_eqWord_ok N) (fun d _ h => ⟨N, (T_laws_eqWord_den N d.1 d.2.1).trans h⟩)

noncomputable def T_laws_eqWordS_sg (N : Nat) : Sig := Sig.of [.v (.slice (.prod (.int .i64) (.prod (.int .i64) (.int .i64)))) false, .v (.slice (.prod (.int .i64) (.prod (.int .i64) (.int .i64)))) false] [.v (.bool) false] (fun d => T_laws_eqWordS N d.1 d.2.1)

def T_laws_eqWordS_ann : Nat → List Ghost
  | 4 => [.canon [0, 1, 5, 14]]
  | 5 => [.canon [0, 1, 5]]
  | 6 => [.canon [0, 1, 5, 26]]
  | 7 => [.canon [4]]
  | 100004 => [.canon [0, 1, 5]]
  | _ => []

noncomputable def T_laws_eqWordS_ctx (N : Nat) : Ctx := [(167, T_laws_eqWord_sg N)]

def T_laws_eqWordS_lp0_sh (a3 : List (Int × Int × Int)) (b4 : List (Int × Int × Int)) (i5 : Int) : St := { env := [(0, .s (.one (.val (.slice (.prod (.int .i64) (.prod (.int .i64) (.int .i64)))) (a3 : List (Int × Int × Int))))), (1, .s (.one (.val (.slice (.prod (.int .i64) (.prod (.int .i64) (.int .i64)))) (b4 : List (Int × Int × Int))))), (5, .s (.one (.val (.int .i64) (i5 : Int))))], objs := [], nx := 0 }

def T_laws_eqWordS_lp0_e0 (a3 : List (Int × Int × Int)) (b4 : List (Int × Int × Int)) : St := { env := [(4, .s (.one (.val (.bool) (false : Bool))))], objs := [], nx := 0 }

def T_laws_eqWordS_lp0_e1 (a3 : List (Int × Int × Int)) (b4 : List (Int × Int × Int)) (i7 : Int) (t8 : Bool) : St := { env := [(0, .s (.one (.val (.slice (.prod (.int .i64) (.prod (.int .i64) (.int .i64)))) (a3 : List (Int × Int × Int))))), (1, .s (.one (.val (.slice (.prod (.int .i64) (.prod (.int .i64) (.int .i64)))) (b4 : List (Int × Int × Int))))), (5, .s (.one (.val (.int .i64) (i7 : Int)))), (14, .s (.one (.val (.bool) (t8 : Bool))))], objs := [], nx := 0 }

noncomputable def T_laws_eqWordS_lp0_m (N : Nat) {R : Type} (n : Nat) (st : St) (K : Ex → St → Option R) : Option R := loopN (roundG (T_laws_eqWordS_ann 100004) fun st k => sx tab (T_laws_eqWordS_ctx N) T_laws_eqWordS_ann N (nthLoop Try.f121 0) st k) n st K

theorem T_laws_eqWordS_lp0_step (N : Nat) {R : Type} (n : Nat) (K : Ex → St → Option R) (a3 : List (Int × Int × Int)) (b4 : List (Int × Int × Int)) (i5 : Int) :
    T_laws_eqWordS_lp0_m N (n + 1) (T_laws_eqWordS_lp0_sh a3 b4 i5) K =
    (bif decide (i5 < (ilen a3)) then
    (bif inb i5 (List.length a3) then
      (bif inb i5 (List.length b4) then
        ((T_laws_eqWord N (List.getD a3 (Int.toNat i5) ((0 : Int), ((0 : Int), (0 : Int)))) (List.getD b4 (Int.toNat i5) ((0 : Int), ((0 : Int), (0 : Int))))).bind fun o9 =>
          (bif !o9.2.1 then
            (K .ret (T_laws_eqWordS_lp0_e0 a3 b4))
            else
            (T_laws_eqWordS_lp0_m N n (T_laws_eqWordS_lp0_sh a3 b4 (iadd .i64 i5 (1 : Int))) K))) else none) else none)
    else
    (K (.exit 0) (T_laws_eqWordS_lp0_e1 a3 b4 i5 (decide (i5 < (ilen a3)))))) := by kernel_rfl

theorem T_laws_eqWordS_lp0_eq (N : Nat) {R : Type} (a3 : List (Int × Int × Int)) (b4 : List (Int × Int × Int)) (K : Ex → St → Option R) : ∀ (n : Nat) (i5 : Int), T_laws_eqWordS_lp0_m N n (T_laws_eqWordS_lp0_sh a3 b4 i5) K = T_laws_eqWordS_lp0 N a3 b4 (K .ret (T_laws_eqWordS_lp0_e0 a3 b4)) (fun i7 t8 => (K (.exit 0) (T_laws_eqWordS_lp0_e1 a3 b4 i7 t8))) n i5
  | 0, _ => rfl
  | n + 1, i5 => by rw [T_laws_eqWordS_lp0_step, T_laws_eqWordS_lp0]; (try simp only [T_laws_eqWordS_lp0_eq N a3 b4 K n])

theorem T_laws_eqWordS_c1 (N : Nat) (a1 : List (Int × Int × Int)) (b2 : List (Int × Int × Int)) :
    ((ctxK (R := ODen (T_laws_eqWordS_sg N).ps × RDen (T_laws_eqWordS_sg N).rs) tab (T_laws_eqWordS_ctx N) T_laws_eqWordS_ann N (theCode Try.f121) [1, 1, 0, 1, 0] (retK tab (T_laws_eqWordS_sg N) Try.f121.results.toList some)) .ret (T_laws_eqWordS_lp0_e0 a1 b2)) =
    (some (α := ODen (T_laws_eqWordS_sg N).ps × RDen (T_laws_eqWordS_sg N).rs) ((), (false, ()))) := by kernel_rfl

theorem T_laws_eqWordS_c2 (N : Nat) (a1 : List (Int × Int × Int)) (b2 : List (Int × Int × Int)) (i10 : Int) (t11 : Bool) :
    ((ctxK (R := ODen (T_laws_eqWordS_sg N).ps × RDen (T_laws_eqWordS_sg N).rs) tab (T_laws_eqWordS_ctx N) T_laws_eqWordS_ann N (theCode Try.f121) [1, 1, 0, 1, 0] (retK tab (T_laws_eqWordS_sg N) Try.f121.results.toList some)) (.exit 0) (T_laws_eqWordS_lp0_e1 a1 b2 i10 t11)) =
    (some (α := ODen (T_laws_eqWordS_sg N).ps × RDen (T_laws_eqWordS_sg N).rs) ((), (true, ()))) := by kernel_rfl

theorem T_laws_eqWordS_den (N : Nat) (a1 : List (Int × Int × Int)) (b2 : List (Int × Int × Int)) :
    den (R := ODen (T_laws_eqWordS_sg N).ps × RDen (T_laws_eqWordS_sg N).rs) tab (T_laws_eqWordS_ctx N) T_laws_eqWordS_ann N (T_laws_eqWordS_sg N) Try.f121 (a1, b2, ()) some =
    (bif (ilen a1) != (ilen b2) then
    (some (α := ODen (T_laws_eqWordS_sg N).ps × RDen (T_laws_eqWordS_sg N).rs) ((), (false, ())))
    else
    (T_laws_eqWordS_lp0 N a1 b2
      (some (α := ODen (T_laws_eqWordS_sg N).ps × RDen (T_laws_eqWordS_sg N).rs) ((), (false, ())))
      (fun i10 t11 =>
        (some (α := ODen (T_laws_eqWordS_sg N).ps × RDen (T_laws_eqWordS_sg N).rs) ((), (true, ()))))
       N (0 : Int))) := by
  have h : den (R := ODen (T_laws_eqWordS_sg N).ps × RDen (T_laws_eqWordS_sg N).rs) tab (T_laws_eqWordS_ctx N) T_laws_eqWordS_ann N (T_laws_eqWordS_sg N) Try.f121 (a1, b2, ()) some =
    (bif (ilen a1) != (ilen b2) then
    (some (α := ODen (T_laws_eqWordS_sg N).ps × RDen (T_laws_eqWordS_sg N).rs) ((), (false, ())))
    else
    (T_laws_eqWordS_lp0_m N N (T_laws_eqWordS_lp0_sh a1 b2 (0 : Int)) (ctxK (R := ODen (T_laws_eqWordS_sg N).ps × RDen (T_laws_eqWordS_sg N).rs) tab (T_laws_eqWordS_ctx N) T_laws_eqWordS_ann N (theCode Try.f121) [1, 1, 0, 1, 0] (retK tab (T_laws_eqWordS_sg N) Try.f121.results.toList some)))) := by kernel_rfl
  rw [h]
  (try simp only [T_laws_eqWordS_lp0_eq, T_laws_eqWordS_c1, T_laws_eqWordS_c2]) <;> rfl

theorem T_laws_eqWordS_ok (N : Nat) : chkBody Try.f121 (T_laws_eqWordS_sg N).ps = true := by kernel_rfl

theorem T_laws_eqWordS_callable : Callable Try.prog 121 := callable_of Try.func121 (show chkFn Try.f121 = true by kernel_rfl)

theorem T_laws_eqWordS_good (N : Nat) : Good Try.prog 121 (T_laws_eqWordS_sg N) :=
  good_body mixedOk tabOk (ctx_cons (T_laws_eqWord_good N) T_laws_eqWord_callable ctx_nil) Try.func121 (T_laws_eqWordS_ok N) (fun d _ h => ⟨N, (T_laws_eqWordS_den N d.1 d.2.1).trans h⟩)

noncomputable def T_laws_eqMem_sg (N : Nat) : Sig := Sig.of [.v (.prod (.int .i64) (.slice (.prod (.int .i64) (.prod (.int .i64) (.int .i64))))) true, .v (.prod (.int .i64) (.slice (.prod (.int .i64) (.prod (.int .i64) (.int .i64))))) true] [.v (.bool) false] (fun d => T_laws_eqMem N d.1 d.2.1)

def T_laws_eqMem_ann : Nat → List Ghost
  | _ => []

noncomputable def T_laws_eqMem_ctx (N : Nat) : Ctx := [(121, T_laws_eqWordS_sg N)]

theorem T_laws_eqMem_den (N : Nat) (a1 : Int × List (Int × Int × Int)) (b2 : Int × List (Int × Int × Int)) :
    den (R := ODen (T_laws_eqMem_sg N).ps × RDen (T_laws_eqMem_sg N).rs) tab (T_laws_eqMem_ctx N) T_laws_eqMem_ann N (T_laws_eqMem_sg N) Try.f80 (a1, b2, ()) some =
    (bif a1.1 != b2.1 then
    (some (α := ODen (T_laws_eqMem_sg N).ps × RDen (T_laws_eqMem_sg N).rs) ((), (false, ())))
    else
    ((T_laws_eqWordS N a1.2 b2.2).bind fun o3 =>
      (bif !o3.2.1 then
        (some (α := ODen (T_laws_eqMem_sg N).ps × RDen (T_laws_eqMem_sg N).rs) ((), (false, ())))
        else
        (some (α := ODen (T_laws_eqMem_sg N).ps × RDen (T_laws_eqMem_sg N).rs) ((), (true, ())))))) := by kernel_rfl

theorem T_laws_eqMem_ok (N : Nat) : chkBody Try.f80 (T_laws_eqMem_sg N).ps = true := by kernel_rfl

theorem T_laws_eqMem_callable : Callable Try.prog 80 := callable_of Try.func80 (show chkFn Try.f80 = true by kernel_rfl)

theorem T_laws_eqMem_good (N : Nat) : Good Try.prog 80 (T_laws_eqMem_sg N) :=
  good_body mixedOk tabOk (ctx_cons (T_laws_eqWordS_good N) T_laws_eqWordS_callable ctx_nil) Try.func80 (T_laws_eqMem_ok N) (fun d _ h => ⟨N, (T_laws_eqMem_den N d.1 d.2.1).trans h⟩)

noncomputable def T_laws_eqIntS_sg (N : Nat) : Sig := Sig.of [.v (.slice (.int .i64)) false, .v (.slice (.int .i64)) false] [.v (.bool) false] (fun d => T_laws_eqIntS N d.1 d.2.1)

def T_laws_eqIntS_ann : Nat → List Ghost
  | 4 => [.canon [0, 1, 5, 14]]
  | 5 => [.canon [0, 1, 5]]
  | 6 => [.canon [0, 1, 5, 25]]
  | 7 => [.canon [4]]
  | 100004 => [.canon [0, 1, 5]]
  | _ => []

noncomputable def T_laws_eqIntS_ctx (N : Nat) : Ctx := []

def T_laws_eqIntS_lp0_sh (a3 : List Int) (b4 : List Int) (i5 : Int) : St := { env := [(0, .s (.one (.val (.slice (.int .i64)) (a3 : List Int)))), (1, .s (.one (.val (.slice (.int .i64)) (b4 : List Int)))), (5, .s (.one (.val (.int .i64) (i5 : Int))))], objs := [], nx := 0 }

def T_laws_eqIntS_lp0_e0 (a3 : List Int) (b4 : List Int) : St := { env := [(4, .s (.one (.val (.bool) (false : Bool))))], objs := [], nx := 0 }

def T_laws_eqIntS_lp0_e1 (a3 : List Int) (b4 : List Int) (i6 : Int) (t7 : Bool) : St := { env := [(0, .s (.one (.val (.slice (.int .i64)) (a3 : List Int)))), (1, .s (.one (.val (.slice (.int .i64)) (b4 : List Int)))), (5, .s (.one (.val (.int .i64) (i6 : Int)))), (14, .s (.one (.val (.bool) (t7 : Bool))))], objs := [], nx := 0 }

noncomputable def T_laws_eqIntS_lp0_m (N : Nat) {R : Type} (n : Nat) (st : St) (K : Ex → St → Option R) : Option R := loopN (roundG (T_laws_eqIntS_ann 100004) fun st k => sx tab (T_laws_eqIntS_ctx N) T_laws_eqIntS_ann N (nthLoop Try.f15 0) st k) n st K

theorem T_laws_eqIntS_lp0_step (N : Nat) {R : Type} (n : Nat) (K : Ex → St → Option R) (a3 : List Int) (b4 : List Int) (i5 : Int) :
    T_laws_eqIntS_lp0_m N (n + 1) (T_laws_eqIntS_lp0_sh a3 b4 i5) K =
    (bif decide (i5 < (ilen a3)) then
    (bif inb i5 (List.length a3) then
      (bif inb i5 (List.length b4) then
        (bif (List.getD a3 (Int.toNat i5) (0 : Int)) != (List.getD b4 (Int.toNat i5) (0 : Int)) then
          (K .ret (T_laws_eqIntS_lp0_e0 a3 b4))
          else
          (T_laws_eqIntS_lp0_m N n (T_laws_eqIntS_lp0_sh a3 b4 (iadd .i64 i5 (1 : Int))) K)) else none) else none)
    else
    (K (.exit 0) (T_laws_eqIntS_lp0_e1 a3 b4 i5 (decide (i5 < (ilen a3)))))) := by kernel_rfl

theorem T_laws_eqIntS_lp0_eq (N : Nat) {R : Type} (a3 : List Int) (b4 : List Int) (K : Ex → St → Option R) : ∀ (n : Nat) (i5 : Int), T_laws_eqIntS_lp0_m N n (T_laws_eqIntS_lp0_sh a3 b4 i5) K = T_laws_eqIntS_lp0 N a3 b4 (K .ret (T_laws_eqIntS_lp0_e0 a3 b4)) (fun i6 t7 => (K (.exit 0) (T_laws_eqIntS_lp0_e1 a3 b4 i6 t7))) n i5
  | 0, _ => rfl
  | n + 1, i5 => by rw [T_laws_eqIntS_lp0_step, T_laws_eqIntS_lp0]; (try simp only [T_laws_eqIntS_lp0_eq N a3 b4 K n])

theorem T_laws_eqIntS_c1 (N : Nat) (a1 : List Int) (b2 : List Int) :
    ((ctxK (R := ODen (T_laws_eqIntS_sg N).ps × RDen (T_laws_eqIntS_sg N).rs) tab (T_laws_eqIntS_ctx N) T_laws_eqIntS_ann N (theCode Try.f15) [1, 1, 0, 1, 0] (retK tab (T_laws_eqIntS_sg N) Try.f15.results.toList some)) .ret (T_laws_eqIntS_lp0_e0 a1 b2)) =
    (some (α := ODen (T_laws_eqIntS_sg N).ps × RDen (T_laws_eqIntS_sg N).rs) ((), (false, ()))) := by kernel_rfl

theorem T_laws_eqIntS_c2 (N : Nat) (a1 : List Int) (b2 : List Int) (i8 : Int) (t9 : Bool) :
    ((ctxK (R := ODen (T_laws_eqIntS_sg N).ps × RDen (T_laws_eqIntS_sg N).rs) tab (T_laws_eqIntS_ctx N) T_laws_eqIntS_ann N (theCode Try.f15) [1, 1, 0, 1, 0] (retK tab (T_laws_eqIntS_sg N) Try.f15.results.toList some)) (.exit 0) (T_laws_eqIntS_lp0_e1 a1 b2 i8 t9)) =
    (some (α := ODen (T_laws_eqIntS_sg N).ps × RDen (T_laws_eqIntS_sg N).rs) ((), (true, ()))) := by kernel_rfl

theorem T_laws_eqIntS_den (N : Nat) (a1 : List Int) (b2 : List Int) :
    den (R := ODen (T_laws_eqIntS_sg N).ps × RDen (T_laws_eqIntS_sg N).rs) tab (T_laws_eqIntS_ctx N) T_laws_eqIntS_ann N (T_laws_eqIntS_sg N) Try.f15 (a1, b2, ()) some =
    (bif (ilen a1) != (ilen b2) then
    (some (α := ODen (T_laws_eqIntS_sg N).ps × RDen (T_laws_eqIntS_sg N).rs) ((), (false, ())))
    else
    (T_laws_eqIntS_lp0 N a1 b2
      (some (α := ODen (T_laws_eqIntS_sg N).ps × RDen (T_laws_eqIntS_sg N).rs) ((), (false, ())))
      (fun i8 t9 =>
        (some (α := ODen (T_laws_eqIntS_sg N).ps × RDen (T_laws_eqIntS_sg N).rs) ((), (true, ()))))
       N (0 : Int))) := by
  have h : den (R := ODen (T_laws_eqIntS_sg N).ps × RDen (T_laws_eqIntS_sg N).rs) tab (T_laws_eqIntS_ctx N) T_laws_eqIntS_ann N (T_laws_eqIntS_sg N) Try.f15 (a1, b2, ()) some =
    (bif (ilen a1) != (ilen b2) then
    (some (α := ODen (T_laws_eqIntS_sg N).ps × RDen (T_laws_eqIntS_sg N).rs) ((), (false, ())))
    else
    (T_laws_eqIntS_lp0_m N N (T_laws_eqIntS_lp0_sh a1 b2 (0 : Int)) (ctxK (R := ODen (T_laws_eqIntS_sg N).ps × RDen (T_laws_eqIntS_sg N).rs) tab (T_laws_eqIntS_ctx N) T_laws_eqIntS_ann N (theCode Try.f15) [1, 1, 0, 1, 0] (retK tab (T_laws_eqIntS_sg N) Try.f15.results.toList some)))) := by kernel_rfl
  rw [h]
  (try simp only [T_laws_eqIntS_lp0_eq, T_laws_eqIntS_c1, T_laws_eqIntS_c2]) <;> rfl

theorem T_laws_eqIntS_ok (N : Nat) : chkBody Try.f15 (T_laws_eqIntS_sg N).ps = true := by kernel_rfl

theorem T_laws_eqIntS_callable : Callable Try.prog 15 := callable_of Try.func15 (show chkFn Try.f15 = true by kernel_rfl)

theorem T_laws_eqIntS_good (N : Nat) : Good Try.prog 15 (T_laws_eqIntS_sg N) :=
  good_body mixedOk tabOk ctx_nil Try.func15 (T_laws_eqIntS_ok N) (fun d _ h => ⟨N, (T_laws_eqIntS_den N d.1 d.2.1).trans h⟩)

noncomputable def T_laws_eqShelf_sg (N : Nat) : Sig := Sig.of [.v (.prod (.slice (.int .i64)) (.int .i64)) true, .v (.prod (.slice (.int .i64)) (.int .i64)) true] [.v (.bool) false] (fun d => T_laws_eqShelf N d.1 d.2.1)

def T_laws_eqShelf_ann : Nat → List Ghost
  | _ => []

noncomputable def T_laws_eqShelf_ctx (N : Nat) : Ctx := [(15, T_laws_eqIntS_sg N)]

theorem T_laws_eqShelf_den (N : Nat) (a1 : List Int × Int) (b2 : List Int × Int) :
    den (R := ODen (T_laws_eqShelf_sg N).ps × RDen (T_laws_eqShelf_sg N).rs) tab (T_laws_eqShelf_ctx N) T_laws_eqShelf_ann N (T_laws_eqShelf_sg N) Try.f81 (a1, b2, ()) some =
    ((T_laws_eqIntS N a1.1 b2.1).bind fun o3 =>
    (bif !o3.2.1 then
      (some (α := ODen (T_laws_eqShelf_sg N).ps × RDen (T_laws_eqShelf_sg N).rs) ((), (false, ())))
      else
      (bif a1.2 != b2.2 then
        (some (α := ODen (T_laws_eqShelf_sg N).ps × RDen (T_laws_eqShelf_sg N).rs) ((), (false, ())))
        else
        (some (α := ODen (T_laws_eqShelf_sg N).ps × RDen (T_laws_eqShelf_sg N).rs) ((), (true, ())))))) := by kernel_rfl

theorem T_laws_eqShelf_ok (N : Nat) : chkBody Try.f81 (T_laws_eqShelf_sg N).ps = true := by kernel_rfl

theorem T_laws_eqShelf_callable : Callable Try.prog 81 := callable_of Try.func81 (show chkFn Try.f81 = true by kernel_rfl)

theorem T_laws_eqShelf_good (N : Nat) : Good Try.prog 81 (T_laws_eqShelf_sg N) :=
  good_body mixedOk tabOk (ctx_cons (T_laws_eqIntS_good N) T_laws_eqIntS_callable ctx_nil) Try.func81 (T_laws_eqShelf_ok N) (fun d _ h => ⟨N, (T_laws_eqShelf_den N d.1 d.2.1).trans h⟩)

noncomputable def T_laws_eqHold_sg (N : Nat) : Sig := Sig.of [.v (.prod (.int .i64) (.prod (.int .i64) (.int .i64))) true, .v (.prod (.int .i64) (.prod (.int .i64) (.int .i64))) true] [.v (.bool) false] (fun d => T_laws_eqHold N d.1 d.2.1)

def T_laws_eqHold_ann : Nat → List Ghost
  | _ => []

noncomputable def T_laws_eqHold_ctx (N : Nat) : Ctx := []

theorem T_laws_eqHold_den (N : Nat) (a1 : Int × Int × Int) (b2 : Int × Int × Int) :
    den (R := ODen (T_laws_eqHold_sg N).ps × RDen (T_laws_eqHold_sg N).rs) tab (T_laws_eqHold_ctx N) T_laws_eqHold_ann N (T_laws_eqHold_sg N) Try.f122 (a1, b2, ()) some =
    (bif a1.1 != b2.1 then
    (some (α := ODen (T_laws_eqHold_sg N).ps × RDen (T_laws_eqHold_sg N).rs) ((), (false, ())))
    else
    (bif a1.2.1 != b2.2.1 then
      (some (α := ODen (T_laws_eqHold_sg N).ps × RDen (T_laws_eqHold_sg N).rs) ((), (false, ())))
      else
      (bif a1.2.2 != b2.2.2 then
        (some (α := ODen (T_laws_eqHold_sg N).ps × RDen (T_laws_eqHold_sg N).rs) ((), (false, ())))
        else
        (some (α := ODen (T_laws_eqHold_sg N).ps × RDen (T_laws_eqHold_sg N).rs) ((), (true, ())))))) := by kernel_rfl

theorem T_laws_eqHold_ok (N : Nat) : chkBody Try.f122 (T_laws_eqHold_sg N).ps = true := by kernel_rfl

theorem T_laws_eqHold_callable : Callable Try.prog 122 := callable_of Try.func122 (show chkFn Try.f122 = true by kernel_rfl)

theorem T_laws_eqHold_good (N : Nat) : Good Try.prog 122 (T_laws_eqHold_sg N) :=
  good_body mixedOk tabOk ctx_nil Try.func122 (T_laws_eqHold_ok N) (fun d _ h => ⟨N, (T_laws_eqHold_den N d.1 d.2.1).trans h⟩)

noncomputable def T_laws_eqHoldS_sg (N : Nat) : Sig := Sig.of [.v (.slice (.prod (.int .i64) (.prod (.int .i64) (.int .i64)))) false, .v (.slice (.prod (.int .i64) (.prod (.int .i64) (.int .i64)))) false] [.v (.bool) false] (fun d => T_laws_eqHoldS N d.1 d.2.1)

def T_laws_eqHoldS_ann : Nat → List Ghost
  | 4 => [.canon [0, 1, 5, 14]]
  | 5 => [.canon [0, 1, 5]]
  | 6 => [.canon [0, 1, 5, 26]]
  | 7 => [.canon [4]]
  | 100004 => [.canon [0, 1, 5]]
  | _ => []

noncomputable def T_laws_eqHoldS_ctx (N : Nat) : Ctx := [(122, T_laws_eqHold_sg N)]

def T_laws_eqHoldS_lp0_sh (a3 : List (Int × Int × Int)) (b4 : List (Int × Int × Int)) (i5 : Int) : St := { env := [(0, .s (.one (.val (.slice (.prod (.int .i64) (.prod (.int .i64) (.int .i64)))) (a3 : List (Int × Int × Int))))), (1, .s (.one (.val (.slice (.prod (.int .i64) (.prod (.int .i64) (.int .i64)))) (b4 : List (Int × Int × Int))))), (5, .s (.one (.val (.int .i64) (i5 : Int))))], objs := [], nx := 0 }

def T_laws_eqHoldS_lp0_e0 (a3 : List (Int × Int × Int)) (b4 : List (Int × Int × Int)) : St := { env := [(4, .s (.one (.val (.bool) (false : Bool))))], objs := [], nx := 0 }

def T_laws_eqHoldS_lp0_e1 (a3 : List (Int × Int × Int)) (b4 : List (Int × Int × Int)) (i7 : Int) (t8 : Bool) : St := { env := [(0, .s (.one (.val (.slice (.prod (.int .i64) (.prod (.int .i64) (.int .i64)))) (a3 : List (Int × Int × Int))))), (1, .s (.one (.val (.slice (.prod (.int .i64) (.prod (.int .i64) (.int .i64)))) (b4 : List (Int × Int × Int))))), (5, .s (.one (.val (.int .i64) (i7 : Int)))), (14, .s (.one (.val (.bool) (t8 : Bool))))], objs := [], nx := 0 }

noncomputable def T_laws_eqHoldS_lp0_m (N : Nat) {R : Type} (n : Nat) (st : St) (K : Ex → St → Option R) : Option R := loopN (roundG (T_laws_eqHoldS_ann 100004) fun st k => sx tab (T_laws_eqHoldS_ctx N) T_laws_eqHoldS_ann N (nthLoop Try.f82 0) st k) n st K

theorem T_laws_eqHoldS_lp0_step (N : Nat) {R : Type} (n : Nat) (K : Ex → St → Option R) (a3 : List (Int × Int × Int)) (b4 : List (Int × Int × Int)) (i5 : Int) :
    T_laws_eqHoldS_lp0_m N (n + 1) (T_laws_eqHoldS_lp0_sh a3 b4 i5) K =
    (bif decide (i5 < (ilen a3)) then
    (bif inb i5 (List.length a3) then
      (bif inb i5 (List.length b4) then
        ((T_laws_eqHold N (List.getD a3 (Int.toNat i5) ((0 : Int), ((0 : Int), (0 : Int)))) (List.getD b4 (Int.toNat i5) ((0 : Int), ((0 : Int), (0 : Int))))).bind fun o9 =>
          (bif !o9.2.1 then
            (K .ret (T_laws_eqHoldS_lp0_e0 a3 b4))
            else
            (T_laws_eqHoldS_lp0_m N n (T_laws_eqHoldS_lp0_sh a3 b4 (iadd .i64 i5 (1 : Int))) K))) else none) else none)
    else
    (K (.exit 0) (T_laws_eqHoldS_lp0_e1 a3 b4 i5 (decide (i5 < (ilen a3)))))) := by kernel_rfl

theorem T_laws_eqHoldS_lp0_eq (N : Nat) {R : Type} (a3 : List (Int × Int × Int)) (b4 : List (Int × Int × Int)) (K : Ex → St → Option R) : ∀ (n : Nat) (i5 : Int), T_laws_eqHoldS_lp0_m N n (T_laws_eqHoldS_lp0_sh a3 b4 i5) K = T_laws_eqHoldS_lp0 N a3 b4 (K .ret (T_laws_eqHoldS_lp0_e0 a3 b4)) (fun i7 t8 => (K (.exit 0) (T_laws_eqHoldS_lp0_e1 a3 b4 i7 t8))) n i5
  | 0, _ => rfl
  | n + 1, i5 => by rw [T_laws_eqHoldS_lp0_step, T_laws_eqHoldS_lp0]; (try simp only [T_laws_eqHoldS_lp0_eq N a3 b4 K n])

theorem T_laws_eqHoldS_c1 (N : Nat) (a1 : List (Int × Int × Int)) (b2 : List (Int × Int × Int)) :
    ((ctxK (R := ODen (T_laws_eqHoldS_sg N).ps × RDen (T_laws_eqHoldS_sg N).rs) tab (T_laws_eqHoldS_ctx N) T_laws_eqHoldS_ann N (theCode Try.f82) [1, 1, 0, 1, 0] (retK tab (T_laws_eqHoldS_sg N) Try.f82.results.toList some)) .ret (T_laws_eqHoldS_lp0_e0 a1 b2)) =
    (some (α := ODen (T_laws_eqHoldS_sg N).ps × RDen (T_laws_eqHoldS_sg N).rs) ((), (false, ()))) := by kernel_rfl

theorem T_laws_eqHoldS_c2 (N : Nat) (a1 : List (Int × Int × Int)) (b2 : List (Int × Int × Int)) (i10 : Int) (t11 : Bool) :
    ((ctxK (R := ODen (T_laws_eqHoldS_sg N).ps × RDen (T_laws_eqHoldS_sg N).rs) tab (T_laws_eqHoldS_ctx N) T_laws_eqHoldS_ann N (theCode Try.f82) [1, 1, 0, 1, 0] (retK tab (T_laws_eqHoldS_sg N) Try.f82.results.toList some)) (.exit 0) (T_laws_eqHoldS_lp0_e1 a1 b2 i10 t11)) =
    (some (α := ODen (T_laws_eqHoldS_sg N).ps × RDen (T_laws_eqHoldS_sg N).rs) ((), (true, ()))) := by kernel_rfl

theorem T_laws_eqHoldS_den (N : Nat) (a1 : List (Int × Int × Int)) (b2 : List (Int × Int × Int)) :
    den (R := ODen (T_laws_eqHoldS_sg N).ps × RDen (T_laws_eqHoldS_sg N).rs) tab (T_laws_eqHoldS_ctx N) T_laws_eqHoldS_ann N (T_laws_eqHoldS_sg N) Try.f82 (a1, b2, ()) some =
    (bif (ilen a1) != (ilen b2) then
    (some (α := ODen (T_laws_eqHoldS_sg N).ps × RDen (T_laws_eqHoldS_sg N).rs) ((), (false, ())))
    else
    (T_laws_eqHoldS_lp0 N a1 b2
      (some (α := ODen (T_laws_eqHoldS_sg N).ps × RDen (T_laws_eqHoldS_sg N).rs) ((), (false, ())))
      (fun i10 t11 =>
        (some (α := ODen (T_laws_eqHoldS_sg N).ps × RDen (T_laws_eqHoldS_sg N).rs) ((), (true, ()))))
       N (0 : Int))) := by
  have h : den (R := ODen (T_laws_eqHoldS_sg N).ps × RDen (T_laws_eqHoldS_sg N).rs) tab (T_laws_eqHoldS_ctx N) T_laws_eqHoldS_ann N (T_laws_eqHoldS_sg N) Try.f82 (a1, b2, ()) some =
    (bif (ilen a1) != (ilen b2) then
    (some (α := ODen (T_laws_eqHoldS_sg N).ps × RDen (T_laws_eqHoldS_sg N).rs) ((), (false, ())))
    else
    (T_laws_eqHoldS_lp0_m N N (T_laws_eqHoldS_lp0_sh a1 b2 (0 : Int)) (ctxK (R := ODen (T_laws_eqHoldS_sg N).ps × RDen (T_laws_eqHoldS_sg N).rs) tab (T_laws_eqHoldS_ctx N) T_laws_eqHoldS_ann N (theCode Try.f82) [1, 1, 0, 1, 0] (retK tab (T_laws_eqHoldS_sg N) Try.f82.results.toList some)))) := by kernel_rfl
  rw [h]
  (try simp only [T_laws_eqHoldS_lp0_eq, T_laws_eqHoldS_c1, T_laws_eqHoldS_c2]) <;> rfl

theorem T_laws_eqHoldS_ok (N : Nat) : chkBody Try.f82 (T_laws_eqHoldS_sg N).ps = true := by kernel_rfl

theorem T_laws_eqHoldS_callable : Callable Try.prog 82 := callable_of Try.func82 (show chkFn Try.f82 = true by kernel_rfl)

theorem T_laws_eqHoldS_good (N : Nat) : Good Try.prog 82 (T_laws_eqHoldS_sg N) :=
  good_body mixedOk tabOk (ctx_cons (T_laws_eqHold_good N) T_laws_eqHold_callable ctx_nil) Try.func82 (T_laws_eqHoldS_ok N) (fun d _ h => ⟨N, (T_laws_eqHoldS_den N d.1 d.2.1).trans h⟩)

noncomputable def T_laws_eqRow_sg (N : Nat) : Sig := Sig.of [.v (.prod (.int .i64) (.int .i64)) true, .v (.prod (.int .i64) (.int .i64)) true] [.v (.bool) false] (fun d => T_laws_eqRow N d.1 d.2.1)

def T_laws_eqRow_ann : Nat → List Ghost
  | _ => []

noncomputable def T_laws_eqRow_ctx (N : Nat) : Ctx := []

theorem T_laws_eqRow_den (N : Nat) (a1 : Int × Int) (b2 : Int × Int) :
    den (R := ODen (T_laws_eqRow_sg N).ps × RDen (T_laws_eqRow_sg N).rs) tab (T_laws_eqRow_ctx N) T_laws_eqRow_ann N (T_laws_eqRow_sg N) Try.f100 (a1, b2, ()) some =
    (bif a1.1 != b2.1 then
    (some (α := ODen (T_laws_eqRow_sg N).ps × RDen (T_laws_eqRow_sg N).rs) ((), (false, ())))
    else
    (bif a1.2 != b2.2 then
      (some (α := ODen (T_laws_eqRow_sg N).ps × RDen (T_laws_eqRow_sg N).rs) ((), (false, ())))
      else
      (some (α := ODen (T_laws_eqRow_sg N).ps × RDen (T_laws_eqRow_sg N).rs) ((), (true, ()))))) := by kernel_rfl

theorem T_laws_eqRow_ok (N : Nat) : chkBody Try.f100 (T_laws_eqRow_sg N).ps = true := by kernel_rfl

theorem T_laws_eqRow_callable : Callable Try.prog 100 := callable_of Try.func100 (show chkFn Try.f100 = true by kernel_rfl)

theorem T_laws_eqRow_good (N : Nat) : Good Try.prog 100 (T_laws_eqRow_sg N) :=
  good_body mixedOk tabOk ctx_nil Try.func100 (T_laws_eqRow_ok N) (fun d _ h => ⟨N, (T_laws_eqRow_den N d.1 d.2.1).trans h⟩)

noncomputable def T_laws_eqRowS_sg (N : Nat) : Sig := Sig.of [.v (.slice (.prod (.int .i64) (.int .i64))) false, .v (.slice (.prod (.int .i64) (.int .i64))) false] [.v (.bool) false] (fun d => T_laws_eqRowS N d.1 d.2.1)

def T_laws_eqRowS_ann : Nat → List Ghost
  | 4 => [.canon [0, 1, 5, 14]]
  | 5 => [.canon [0, 1, 5]]
  | 6 => [.canon [0, 1, 5, 26]]
  | 7 => [.canon [4]]
  | 100004 => [.canon [0, 1, 5]]
  | _ => []

noncomputable def T_laws_eqRowS_ctx (N : Nat) : Ctx := [(100, T_laws_eqRow_sg N)]

def T_laws_eqRowS_lp0_sh (a3 : List (Int × Int)) (b4 : List (Int × Int)) (i5 : Int) : St := { env := [(0, .s (.one (.val (.slice (.prod (.int .i64) (.int .i64))) (a3 : List (Int × Int))))), (1, .s (.one (.val (.slice (.prod (.int .i64) (.int .i64))) (b4 : List (Int × Int))))), (5, .s (.one (.val (.int .i64) (i5 : Int))))], objs := [], nx := 0 }

def T_laws_eqRowS_lp0_e0 (a3 : List (Int × Int)) (b4 : List (Int × Int)) : St := { env := [(4, .s (.one (.val (.bool) (false : Bool))))], objs := [], nx := 0 }

def T_laws_eqRowS_lp0_e1 (a3 : List (Int × Int)) (b4 : List (Int × Int)) (i7 : Int) (t8 : Bool) : St := { env := [(0, .s (.one (.val (.slice (.prod (.int .i64) (.int .i64))) (a3 : List (Int × Int))))), (1, .s (.one (.val (.slice (.prod (.int .i64) (.int .i64))) (b4 : List (Int × Int))))), (5, .s (.one (.val (.int .i64) (i7 : Int)))), (14, .s (.one (.val (.bool) (t8 : Bool))))], objs := [], nx := 0 }

noncomputable def T_laws_eqRowS_lp0_m (N : Nat) {R : Type} (n : Nat) (st : St) (K : Ex → St → Option R) : Option R := loopN (roundG (T_laws_eqRowS_ann 100004) fun st k => sx tab (T_laws_eqRowS_ctx N) T_laws_eqRowS_ann N (nthLoop Try.f50 0) st k) n st K

theorem T_laws_eqRowS_lp0_step (N : Nat) {R : Type} (n : Nat) (K : Ex → St → Option R) (a3 : List (Int × Int)) (b4 : List (Int × Int)) (i5 : Int) :
    T_laws_eqRowS_lp0_m N (n + 1) (T_laws_eqRowS_lp0_sh a3 b4 i5) K =
    (bif decide (i5 < (ilen a3)) then
    (bif inb i5 (List.length a3) then
      (bif inb i5 (List.length b4) then
        ((T_laws_eqRow N (List.getD a3 (Int.toNat i5) ((0 : Int), (0 : Int))) (List.getD b4 (Int.toNat i5) ((0 : Int), (0 : Int)))).bind fun o9 =>
          (bif !o9.2.1 then
            (K .ret (T_laws_eqRowS_lp0_e0 a3 b4))
            else
            (T_laws_eqRowS_lp0_m N n (T_laws_eqRowS_lp0_sh a3 b4 (iadd .i64 i5 (1 : Int))) K))) else none) else none)
    else
    (K (.exit 0) (T_laws_eqRowS_lp0_e1 a3 b4 i5 (decide (i5 < (ilen a3)))))) := by kernel_rfl

theorem T_laws_eqRowS_lp0_eq (N : Nat) {R : Type} (a3 : List (Int × Int)) (b4 : List (Int × Int)) (K : Ex → St → Option R) : ∀ (n : Nat) (i5 : Int), T_laws_eqRowS_lp0_m N n (T_laws_eqRowS_lp0_sh a3 b4 i5) K = T_laws_eqRowS_lp0 N a3 b4 (K .ret (T_laws_eqRowS_lp0_e0 a3 b4)) (fun i7 t8 => (K (.exit 0) (T_laws_eqRowS_lp0_e1 a3 b4 i7 t8))) n i5
  | 0, _ => rfl
  | n + 1, i5 => by rw [T_laws_eqRowS_lp0_step, T_laws_eqRowS_lp0]; (try simp only [T_laws_eqRowS_lp0_eq N a3 b4 K n])

theorem T_laws_eqRowS_c1 (N : Nat) (a1 : List (Int × Int)) (b2 : List (Int × Int)) :
    ((ctxK (R := ODen (T_laws_eqRowS_sg N).ps × RDen (T_laws_eqRowS_sg N).rs) tab (T_laws_eqRowS_ctx N) T_laws_eqRowS_ann N (theCode Try.f50) [1, 1, 0, 1, 0] (retK tab (T_laws_eqRowS_sg N) Try.f50.results.toList some)) .ret (T_laws_eqRowS_lp0_e0 a1 b2)) =
    (some (α := ODen (T_laws_eqRowS_sg N).ps × RDen (T_laws_eqRowS_sg N).rs) ((), (false, ()))) := by kernel_rfl

theorem T_laws_eqRowS_c2 (N : Nat) (a1 : List (Int × Int)) (b2 : List (Int × Int)) (i10 : Int) (t11 : Bool) :
    ((ctxK (R := ODen (T_laws_eqRowS_sg N).ps × RDen (T_laws_eqRowS_sg N).rs) tab (T_laws_eqRowS_ctx N) T_laws_eqRowS_ann N (theCode Try.f50) [1, 1, 0, 1, 0] (retK tab (T_laws_eqRowS_sg N) Try.f50.results.toList some)) (.exit 0) (T_laws_eqRowS_lp0_e1 a1 b2 i10 t11)) =
    (some (α := ODen (T_laws_eqRowS_sg N).ps × RDen (T_laws_eqRowS_sg N).rs) ((), (true, ()))) := by kernel_rfl

theorem T_laws_eqRowS_den (N : Nat) (a1 : List (Int × Int)) (b2 : List (Int × Int)) :
    den (R := ODen (T_laws_eqRowS_sg N).ps × RDen (T_laws_eqRowS_sg N).rs) tab (T_laws_eqRowS_ctx N) T_laws_eqRowS_ann N (T_laws_eqRowS_sg N) Try.f50 (a1, b2, ()) some =
    (bif (ilen a1) != (ilen b2) then
    (some (α := ODen (T_laws_eqRowS_sg N).ps × RDen (T_laws_eqRowS_sg N).rs) ((), (false, ())))
    else
    (T_laws_eqRowS_lp0 N a1 b2
      (some (α := ODen (T_laws_eqRowS_sg N).ps × RDen (T_laws_eqRowS_sg N).rs) ((), (false, ())))
      (fun i10 t11 =>
        (some (α := ODen (T_laws_eqRowS_sg N).ps × RDen (T_laws_eqRowS_sg N).rs) ((), (true, ()))))
       N (0 : Int))) := by
  have h : den (R := ODen (T_laws_eqRowS_sg N).ps × RDen (T_laws_eqRowS_sg N).rs) tab (T_laws_eqRowS_ctx N) T_laws_eqRowS_ann N (T_laws_eqRowS_sg N) Try.f50 (a1, b2, ()) some =
    (bif (ilen a1) != (ilen b2) then
    (some (α := ODen (T_laws_eqRowS_sg N).ps × RDen (T_laws_eqRowS_sg N).rs) ((), (false, ())))
    else
    (T_laws_eqRowS_lp0_m N N (T_laws_eqRowS_lp0_sh a1 b2 (0 : Int)) (ctxK (R := ODen (T_laws_eqRowS_sg N).ps × RDen (T_laws_eqRowS_sg N).rs) tab (T_laws_eqRowS_ctx N) T_laws_eqRowS_ann N (theCode Try.f50) [1, 1, 0, 1, 0] (retK tab (T_laws_eqRowS_sg N) Try.f50.results.toList some)))) := by kernel_rfl
  rw [h]
  (try simp only [T_laws_eqRowS_lp0_eq, T_laws_eqRowS_c1, T_laws_eqRowS_c2]) <;> rfl

theorem T_laws_eqRowS_ok (N : Nat) : chkBody Try.f50 (T_laws_eqRowS_sg N).ps = true := by kernel_rfl

theorem T_laws_eqRowS_callable : Callable Try.prog 50 := callable_of Try.func50 (show chkFn Try.f50 = true by kernel_rfl)

theorem T_laws_eqRowS_good (N : Nat) : Good Try.prog 50 (T_laws_eqRowS_sg N) :=
  good_body mixedOk tabOk (ctx_cons (T_laws_eqRow_good N) T_laws_eqRow_callable ctx_nil) Try.func50 (T_laws_eqRowS_ok N) (fun d _ h => ⟨N, (T_laws_eqRowS_den N d.1 d.2.1).trans h⟩)

noncomputable def T_laws_eqMark_sg (N : Nat) : Sig := Sig.of [.v (.prod (.int .i64) (.prod (.int .i64) (.prod (.int .i64) (.prod (.int .i64) (.slice (.int .i64)))))) true, .v (.prod (.int .i64) (.prod (.int .i64) (.prod (.int .i64) (.prod (.int .i64) (.slice (.int .i64)))))) true] [.v (.bool) false] (fun d => T_laws_eqMark N d.1 d.2.1)

def T_laws_eqMark_ann : Nat → List Ghost
  | _ => []

noncomputable def T_laws_eqMark_ctx (N : Nat) : Ctx := [(15, T_laws_eqIntS_sg N)]

theorem T_laws_eqMark_den (N : Nat) (a1 : Int × Int × Int × Int × List Int) (b2 : Int × Int × Int × Int × List Int) :
    den (R := ODen (T_laws_eqMark_sg N).ps × RDen (T_laws_eqMark_sg N).rs) tab (T_laws_eqMark_ctx N) T_laws_eqMark_ann N (T_laws_eqMark_sg N) Try.f195 (a1, b2, ()) some =
    (bif a1.1 != b2.1 then
    (some (α := ODen (T_laws_eqMark_sg N).ps × RDen (T_laws_eqMark_sg N).rs) ((), (false, ())))
    else
    (bif a1.2.1 != b2.2.1 then
      (some (α := ODen (T_laws_eqMark_sg N).ps × RDen (T_laws_eqMark_sg N).rs) ((), (false, ())))
      else
      (bif a1.2.2.1 != b2.2.2.1 then
        (some (α := ODen (T_laws_eqMark_sg N).ps × RDen (T_laws_eqMark_sg N).rs) ((), (false, ())))
        else
        (bif a1.2.2.2.1 != b2.2.2.2.1 then
          (some (α := ODen (T_laws_eqMark_sg N).ps × RDen (T_laws_eqMark_sg N).rs) ((), (false, ())))
          else
          ((T_laws_eqIntS N a1.2.2.2.2 b2.2.2.2.2).bind fun o3 =>
            (bif !o3.2.1 then
              (some (α := ODen (T_laws_eqMark_sg N).ps × RDen (T_laws_eqMark_sg N).rs) ((), (false, ())))
              else
              (some (α := ODen (T_laws_eqMark_sg N).ps × RDen (T_laws_eqMark_sg N).rs) ((), (true, ()))))))))) := by kernel_rfl

theorem T_laws_eqMark_ok (N : Nat) : chkBody Try.f195 (T_laws_eqMark_sg N).ps = true := by kernel_rfl

theorem T_laws_eqMark_callable : Callable Try.prog 195 := callable_of Try.func195 (show chkFn Try.f195 = true by kernel_rfl)

theorem T_laws_eqMark_good (N : Nat) : Good Try.prog 195 (T_laws_eqMark_sg N) :=
  good_body mixedOk tabOk (ctx_cons (T_laws_eqIntS_good N) T_laws_eqIntS_callable ctx_nil) Try.func195 (T_laws_eqMark_ok N) (fun d _ h => ⟨N, (T_laws_eqMark_den N d.1 d.2.1).trans h⟩)

noncomputable def T_laws_eqMarkS_sg (N : Nat) : Sig := Sig.of [.v (.slice (.prod (.int .i64) (.prod (.int .i64) (.prod (.int .i64) (.prod (.int .i64) (.slice (.int .i64))))))) false, .v (.slice (.prod (.int .i64) (.prod (.int .i64) (.prod (.int .i64) (.prod (.int .i64) (.slice (.int .i64))))))) false] [.v (.bool) false] (fun d => T_laws_eqMarkS N d.1 d.2.1)

def T_laws_eqMarkS_ann : Nat → List Ghost
  | 4 => [.canon [0, 1, 5, 14]]
  | 5 => [.canon [0, 1, 5]]
  | 6 => [.canon [0, 1, 5, 26]]
  | 7 => [.canon [4]]
  | 100004 => [.canon [0, 1, 5]]
  | _ => []

noncomputable def T_laws_eqMarkS_ctx (N : Nat) : Ctx := [(195, T_laws_eqMark_sg N)]

def T_laws_eqMarkS_lp0_sh (a3 : List (Int × Int × Int × Int × List Int)) (b4 : List (Int × Int × Int × Int × List Int)) (i5 : Int) : St := { env := [(0, .s (.one (.val (.slice (.prod (.int .i64) (.prod (.int .i64) (.prod (.int .i64) (.prod (.int .i64) (.slice (.int .i64))))))) (a3 : List (Int × Int × Int × Int × List Int))))), (1, .s (.one (.val (.slice (.prod (.int .i64) (.prod (.int .i64) (.prod (.int .i64) (.prod (.int .i64) (.slice (.int .i64))))))) (b4 : List (Int × Int × Int × Int × List Int))))), (5, .s (.one (.val (.int .i64) (i5 : Int))))], objs := [], nx := 0 }

def T_laws_eqMarkS_lp0_e0 (a3 : List (Int × Int × Int × Int × List Int)) (b4 : List (Int × Int × Int × Int × List Int)) : St := { env := [(4, .s (.one (.val (.bool) (false : Bool))))], objs := [], nx := 0 }

def T_laws_eqMarkS_lp0_e1 (a3 : List (Int × Int × Int × Int × List Int)) (b4 : List (Int × Int × Int × Int × List Int)) (i7 : Int) (t8 : Bool) : St := { env := [(0, .s (.one (.val (.slice (.prod (.int .i64) (.prod (.int .i64) (.prod (.int .i64) (.prod (.int .i64) (.slice (.int .i64))))))) (a3 : List (Int × Int × Int × Int × List Int))))), (1, .s (.one (.val (.slice (.prod (.int .i64) (.prod (.int .i64) (.prod (.int .i64) (.prod (.int .i64) (.slice (.int .i64))))))) (b4 : List (Int × Int × Int × Int × List Int))))), (5, .s (.one (.val (.int .i64) (i7 : Int)))), (14, .s (.one (.val (.bool) (t8 : Bool))))], objs := [], nx := 0 }

noncomputable def T_laws_eqMarkS_lp0_m (N : Nat) {R : Type} (n : Nat) (st : St) (K : Ex → St → Option R) : Option R := loopN (roundG (T_laws_eqMarkS_ann 100004) fun st k => sx tab (T_laws_eqMarkS_ctx N) T_laws_eqMarkS_ann N (nthLoop Try.f168 0) st k) n st K

theorem T_laws_eqMarkS_lp0_step (N : Nat) {R : Type} (n : Nat) (K : Ex → St → Option R) (a3 : List (Int × Int × Int × Int × List Int)) (b4 : List (Int × Int × Int × Int × List Int)) (i5 : Int) :
    T_laws_eqMarkS_lp0_m N (n + 1) (T_laws_eqMarkS_lp0_sh a3 b4 i5) K =
    (bif decide (i5 < (ilen a3)) then
    (bif inb i5 (List.length a3) then
      (bif inb i5 (List.length b4) then
        ((T_laws_eqMark N (List.getD a3 (Int.toNat i5) ((0 : Int), ((0 : Int), ((0 : Int), ((0 : Int), ([] : List Int)))))) (List.getD b4 (Int.toNat i5) ((0 : Int), ((0 : Int), ((0 : Int), ((0 : Int), ([] : List Int))))))).bind fun o9 =>
          (bif !o9.2.1 then
            (K .ret (T_laws_eqMarkS_lp0_e0 a3 b4))
            else
            (T_laws_eqMarkS_lp0_m N n (T_laws_eqMarkS_lp0_sh a3 b4 (iadd .i64 i5 (1 : Int))) K))) else none) else none)
    else
    (K (.exit 0) (T_laws_eqMarkS_lp0_e1 a3 b4 i5 (decide (i5 < (ilen a3)))))) := by kernel_rfl

theorem T_laws_eqMarkS_lp0_eq (N : Nat) {R : Type} (a3 : List (Int × Int × Int × Int × List Int)) (b4 : List (Int × Int × Int × Int × List Int)) (K : Ex → St → Option R) : ∀ (n : Nat) (i5 : Int), T_laws_eqMarkS_lp0_m N n (T_laws_eqMarkS_lp0_sh a3 b4 i5) K = T_laws_eqMarkS_lp0 N a3 b4 (K .ret (T_laws_eqMarkS_lp0_e0 a3 b4)) (fun i7 t8 => (K (.exit 0) (T_laws_eqMarkS_lp0_e1 a3 b4 i7 t8))) n i5
  | 0, _ => rfl
  | n + 1, i5 => by rw [T_laws_eqMarkS_lp0_step, T_laws_eqMarkS_lp0]; (try simp only [T_laws_eqMarkS_lp0_eq N a3 b4 K n])

theorem T_laws_eqMarkS_c1 (N : Nat) (a1 : List (Int × Int × Int × Int × List Int)) (b2 : List (Int × Int × Int × Int × List Int)) :
    ((ctxK (R := ODen (T_laws_eqMarkS_sg N).ps × RDen (T_laws_eqMarkS_sg N).rs) tab (T_laws_eqMarkS_ctx N) T_laws_eqMarkS_ann N (theCode Try.f168) [1, 1, 0, 1, 0] (retK tab (T_laws_eqMarkS_sg N) Try.f168.results.toList some)) .ret (T_laws_eqMarkS_lp0_e0 a1 b2)) =
    (some (α := ODen (T_laws_eqMarkS_sg N).ps × RDen (T_laws_eqMarkS_sg N).rs) ((), (false, ()))) := by kernel_rfl

theorem T_laws_eqMarkS_c2 (N : Nat) (a1 : List (Int × Int × Int × Int × List Int)) (b2 : List (Int × Int × Int × Int × List Int)) (i10 : Int) (t11 : Bool) :
    ((ctxK (R := ODen (T_laws_eqMarkS_sg N).ps × RDen (T_laws_eqMarkS_sg N).rs) tab (T_laws_eqMarkS_ctx N) T_laws_eqMarkS_ann N (theCode Try.f168) [1, 1, 0, 1, 0] (retK tab (T_laws_eqMarkS_sg N) Try.f168.results.toList some)) (.exit 0) (T_laws_eqMarkS_lp0_e1 a1 b2 i10 t11)) =
    (some (α := ODen (T_laws_eqMarkS_sg N).ps × RDen (T_laws_eqMarkS_sg N).rs) ((), (true, ()))) := by kernel_rfl

theorem T_laws_eqMarkS_den (N : Nat) (a1 : List (Int × Int × Int × Int × List Int)) (b2 : List (Int × Int × Int × Int × List Int)) :
    den (R := ODen (T_laws_eqMarkS_sg N).ps × RDen (T_laws_eqMarkS_sg N).rs) tab (T_laws_eqMarkS_ctx N) T_laws_eqMarkS_ann N (T_laws_eqMarkS_sg N) Try.f168 (a1, b2, ()) some =
    (bif (ilen a1) != (ilen b2) then
    (some (α := ODen (T_laws_eqMarkS_sg N).ps × RDen (T_laws_eqMarkS_sg N).rs) ((), (false, ())))
    else
    (T_laws_eqMarkS_lp0 N a1 b2
      (some (α := ODen (T_laws_eqMarkS_sg N).ps × RDen (T_laws_eqMarkS_sg N).rs) ((), (false, ())))
      (fun i10 t11 =>
        (some (α := ODen (T_laws_eqMarkS_sg N).ps × RDen (T_laws_eqMarkS_sg N).rs) ((), (true, ()))))
       N (0 : Int))) := by
  have h : den (R := ODen (T_laws_eqMarkS_sg N).ps × RDen (T_laws_eqMarkS_sg N).rs) tab (T_laws_eqMarkS_ctx N) T_laws_eqMarkS_ann N (T_laws_eqMarkS_sg N) Try.f168 (a1, b2, ()) some =
    (bif (ilen a1) != (ilen b2) then
    (some (α := ODen (T_laws_eqMarkS_sg N).ps × RDen (T_laws_eqMarkS_sg N).rs) ((), (false, ())))
    else
    (T_laws_eqMarkS_lp0_m N N (T_laws_eqMarkS_lp0_sh a1 b2 (0 : Int)) (ctxK (R := ODen (T_laws_eqMarkS_sg N).ps × RDen (T_laws_eqMarkS_sg N).rs) tab (T_laws_eqMarkS_ctx N) T_laws_eqMarkS_ann N (theCode Try.f168) [1, 1, 0, 1, 0] (retK tab (T_laws_eqMarkS_sg N) Try.f168.results.toList some)))) := by kernel_rfl
  rw [h]
  (try simp only [T_laws_eqMarkS_lp0_eq, T_laws_eqMarkS_c1, T_laws_eqMarkS_c2]) <;> rfl

theorem T_laws_eqMarkS_ok (N : Nat) : chkBody Try.f168 (T_laws_eqMarkS_sg N).ps = true := by kernel_rfl

theorem T_laws_eqMarkS_callable : Callable Try.prog 168 := callable_of Try.func168 (show chkFn Try.f168 = true by kernel_rfl)

theorem T_laws_eqMarkS_good (N : Nat) : Good Try.prog 168 (T_laws_eqMarkS_sg N) :=
  good_body mixedOk tabOk (ctx_cons (T_laws_eqMark_good N) T_laws_eqMark_callable ctx_nil) Try.func168 (T_laws_eqMarkS_ok N) (fun d _ h => ⟨N, (T_laws_eqMarkS_den N d.1 d.2.1).trans h⟩)

noncomputable def T_laws_eqUndo_sg (N : Nat) : Sig := Sig.of [.v (.prod (.int .i64) (.prod (.int .i64) (.int .i64))) true, .v (.prod (.int .i64) (.prod (.int .i64) (.int .i64))) true] [.v (.bool) false] (fun d => T_laws_eqUndo N d.1 d.2.1)

def T_laws_eqUndo_ann : Nat → List Ghost
  | _ => []

noncomputable def T_laws_eqUndo_ctx (N : Nat) : Ctx := []

theorem T_laws_eqUndo_den (N : Nat) (a1 : Int × Int × Int) (b2 : Int × Int × Int) :
    den (R := ODen (T_laws_eqUndo_sg N).ps × RDen (T_laws_eqUndo_sg N).rs) tab (T_laws_eqUndo_ctx N) T_laws_eqUndo_ann N (T_laws_eqUndo_sg N) Try.f196 (a1, b2, ()) some =
    (bif a1.1 != b2.1 then
    (some (α := ODen (T_laws_eqUndo_sg N).ps × RDen (T_laws_eqUndo_sg N).rs) ((), (false, ())))
    else
    (bif a1.2.1 != b2.2.1 then
      (some (α := ODen (T_laws_eqUndo_sg N).ps × RDen (T_laws_eqUndo_sg N).rs) ((), (false, ())))
      else
      (bif a1.2.2 != b2.2.2 then
        (some (α := ODen (T_laws_eqUndo_sg N).ps × RDen (T_laws_eqUndo_sg N).rs) ((), (false, ())))
        else
        (some (α := ODen (T_laws_eqUndo_sg N).ps × RDen (T_laws_eqUndo_sg N).rs) ((), (true, ())))))) := by kernel_rfl

theorem T_laws_eqUndo_ok (N : Nat) : chkBody Try.f196 (T_laws_eqUndo_sg N).ps = true := by kernel_rfl

theorem T_laws_eqUndo_callable : Callable Try.prog 196 := callable_of Try.func196 (show chkFn Try.f196 = true by kernel_rfl)

theorem T_laws_eqUndo_good (N : Nat) : Good Try.prog 196 (T_laws_eqUndo_sg N) :=
  good_body mixedOk tabOk ctx_nil Try.func196 (T_laws_eqUndo_ok N) (fun d _ h => ⟨N, (T_laws_eqUndo_den N d.1 d.2.1).trans h⟩)

noncomputable def T_laws_eqUndoS_sg (N : Nat) : Sig := Sig.of [.v (.slice (.prod (.int .i64) (.prod (.int .i64) (.int .i64)))) false, .v (.slice (.prod (.int .i64) (.prod (.int .i64) (.int .i64)))) false] [.v (.bool) false] (fun d => T_laws_eqUndoS N d.1 d.2.1)

def T_laws_eqUndoS_ann : Nat → List Ghost
  | 4 => [.canon [0, 1, 5, 14]]
  | 5 => [.canon [0, 1, 5]]
  | 6 => [.canon [0, 1, 5, 26]]
  | 7 => [.canon [4]]
  | 100004 => [.canon [0, 1, 5]]
  | _ => []

noncomputable def T_laws_eqUndoS_ctx (N : Nat) : Ctx := [(196, T_laws_eqUndo_sg N)]

def T_laws_eqUndoS_lp0_sh (a3 : List (Int × Int × Int)) (b4 : List (Int × Int × Int)) (i5 : Int) : St := { env := [(0, .s (.one (.val (.slice (.prod (.int .i64) (.prod (.int .i64) (.int .i64)))) (a3 : List (Int × Int × Int))))), (1, .s (.one (.val (.slice (.prod (.int .i64) (.prod (.int .i64) (.int .i64)))) (b4 : List (Int × Int × Int))))), (5, .s (.one (.val (.int .i64) (i5 : Int))))], objs := [], nx := 0 }

def T_laws_eqUndoS_lp0_e0 (a3 : List (Int × Int × Int)) (b4 : List (Int × Int × Int)) : St := { env := [(4, .s (.one (.val (.bool) (false : Bool))))], objs := [], nx := 0 }

def T_laws_eqUndoS_lp0_e1 (a3 : List (Int × Int × Int)) (b4 : List (Int × Int × Int)) (i7 : Int) (t8 : Bool) : St := { env := [(0, .s (.one (.val (.slice (.prod (.int .i64) (.prod (.int .i64) (.int .i64)))) (a3 : List (Int × Int × Int))))), (1, .s (.one (.val (.slice (.prod (.int .i64) (.prod (.int .i64) (.int .i64)))) (b4 : List (Int × Int × Int))))), (5, .s (.one (.val (.int .i64) (i7 : Int)))), (14, .s (.one (.val (.bool) (t8 : Bool))))], objs := [], nx := 0 }

noncomputable def T_laws_eqUndoS_lp0_m (N : Nat) {R : Type} (n : Nat) (st : St) (K : Ex → St → Option R) : Option R := loopN (roundG (T_laws_eqUndoS_ann 100004) fun st k => sx tab (T_laws_eqUndoS_ctx N) T_laws_eqUndoS_ann N (nthLoop Try.f169 0) st k) n st K

theorem T_laws_eqUndoS_lp0_step (N : Nat) {R : Type} (n : Nat) (K : Ex → St → Option R) (a3 : List (Int × Int × Int)) (b4 : List (Int × Int × Int)) (i5 : Int) :
    T_laws_eqUndoS_lp0_m N (n + 1) (T_laws_eqUndoS_lp0_sh a3 b4 i5) K =
    (bif decide (i5 < (ilen a3)) then
    (bif inb i5 (List.length a3) then
      (bif inb i5 (List.length b4) then
        ((T_laws_eqUndo N (List.getD a3 (Int.toNat i5) ((0 : Int), ((0 : Int), (0 : Int)))) (List.getD b4 (Int.toNat i5) ((0 : Int), ((0 : Int), (0 : Int))))).bind fun o9 =>
          (bif !o9.2.1 then
            (K .ret (T_laws_eqUndoS_lp0_e0 a3 b4))
            else
            (T_laws_eqUndoS_lp0_m N n (T_laws_eqUndoS_lp0_sh a3 b4 (iadd .i64 i5 (1 : Int))) K))) else none) else none)
    else
    (K (.exit 0) (T_laws_eqUndoS_lp0_e1 a3 b4 i5 (decide (i5 < (ilen a3)))))) := by kernel_rfl

theorem T_laws_eqUndoS_lp0_eq (N : Nat) {R : Type} (a3 : List (Int × Int × Int)) (b4 : List (Int × Int × Int)) (K : Ex → St → Option R) : ∀ (n : Nat) (i5 : Int), T_laws_eqUndoS_lp0_m N n (T_laws_eqUndoS_lp0_sh a3 b4 i5) K = T_laws_eqUndoS_lp0 N a3 b4 (K .ret (T_laws_eqUndoS_lp0_e0 a3 b4)) (fun i7 t8 => (K (.exit 0) (T_laws_eqUndoS_lp0_e1 a3 b4 i7 t8))) n i5
  | 0, _ => rfl
  | n + 1, i5 => by rw [T_laws_eqUndoS_lp0_step, T_laws_eqUndoS_lp0]; (try simp only [T_laws_eqUndoS_lp0_eq N a3 b4 K n])

theorem T_laws_eqUndoS_c1 (N : Nat) (a1 : List (Int × Int × Int)) (b2 : List (Int × Int × Int)) :
    ((ctxK (R := ODen (T_laws_eqUndoS_sg N).ps × RDen (T_laws_eqUndoS_sg N).rs) tab (T_laws_eqUndoS_ctx N) T_laws_eqUndoS_ann N (theCode Try.f169) [1, 1, 0, 1, 0] (retK tab (T_laws_eqUndoS_sg N) Try.f169.results.toList some)) .ret (T_laws_eqUndoS_lp0_e0 a1 b2)) =
    (some (α := ODen (T_laws_eqUndoS_sg N).ps × RDen (T_laws_eqUndoS_sg N).rs) ((), (false, ()))) := by kernel_rfl

theorem T_laws_eqUndoS_c2 (N : Nat) (a1 : List (Int × Int × Int)) (b2 : List (Int × Int × Int)) (i10 : Int) (t11 : Bool) :
    ((ctxK (R := ODen (T_laws_eqUndoS_sg N).ps × RDen (T_laws_eqUndoS_sg N).rs) tab (T_laws_eqUndoS_ctx N) T_laws_eqUndoS_ann N (theCode Try.f169) [1, 1, 0, 1, 0] (retK tab (T_laws_eqUndoS_sg N) Try.f169.results.toList some)) (.exit 0) (T_laws_eqUndoS_lp0_e1 a1 b2 i10 t11)) =
    (some (α := ODen (T_laws_eqUndoS_sg N).ps × RDen (T_laws_eqUndoS_sg N).rs) ((), (true, ()))) := by kernel_rfl

theorem T_laws_eqUndoS_den (N : Nat) (a1 : List (Int × Int × Int)) (b2 : List (Int × Int × Int)) :
    den (R := ODen (T_laws_eqUndoS_sg N).ps × RDen (T_laws_eqUndoS_sg N).rs) tab (T_laws_eqUndoS_ctx N) T_laws_eqUndoS_ann N (T_laws_eqUndoS_sg N) Try.f169 (a1, b2, ()) some =
    (bif (ilen a1) != (ilen b2) then
    (some (α := ODen (T_laws_eqUndoS_sg N).ps × RDen (T_laws_eqUndoS_sg N).rs) ((), (false, ())))
    else
    (T_laws_eqUndoS_lp0 N a1 b2
      (some (α := ODen (T_laws_eqUndoS_sg N).ps × RDen (T_laws_eqUndoS_sg N).rs) ((), (false, ())))
      (fun i10 t11 =>
        (some (α := ODen (T_laws_eqUndoS_sg N).ps × RDen (T_laws_eqUndoS_sg N).rs) ((), (true, ()))))
       N (0 : Int))) := by
  have h : den (R := ODen (T_laws_eqUndoS_sg N).ps × RDen (T_laws_eqUndoS_sg N).rs) tab (T_laws_eqUndoS_ctx N) T_laws_eqUndoS_ann N (T_laws_eqUndoS_sg N) Try.f169 (a1, b2, ()) some =
    (bif (ilen a1) != (ilen b2) then
    (some (α := ODen (T_laws_eqUndoS_sg N).ps × RDen (T_laws_eqUndoS_sg N).rs) ((), (false, ())))
    else
    (T_laws_eqUndoS_lp0_m N N (T_laws_eqUndoS_lp0_sh a1 b2 (0 : Int)) (ctxK (R := ODen (T_laws_eqUndoS_sg N).ps × RDen (T_laws_eqUndoS_sg N).rs) tab (T_laws_eqUndoS_ctx N) T_laws_eqUndoS_ann N (theCode Try.f169) [1, 1, 0, 1, 0] (retK tab (T_laws_eqUndoS_sg N) Try.f169.results.toList some)))) := by kernel_rfl
  rw [h]
  (try simp only [T_laws_eqUndoS_lp0_eq, T_laws_eqUndoS_c1, T_laws_eqUndoS_c2]) <;> rfl

theorem T_laws_eqUndoS_ok (N : Nat) : chkBody Try.f169 (T_laws_eqUndoS_sg N).ps = true := by kernel_rfl

theorem T_laws_eqUndoS_callable : Callable Try.prog 169 := callable_of Try.func169 (show chkFn Try.f169 = true by kernel_rfl)

theorem T_laws_eqUndoS_good (N : Nat) : Good Try.prog 169 (T_laws_eqUndoS_sg N) :=
  good_body mixedOk tabOk (ctx_cons (T_laws_eqUndo_good N) T_laws_eqUndo_callable ctx_nil) Try.func169 (T_laws_eqUndoS_ok N) (fun d _ h => ⟨N, (T_laws_eqUndoS_den N d.1 d.2.1).trans h⟩)

noncomputable def T_laws_eqProbe_sg (N : Nat) : Sig := Sig.of [.v (.prod (.int .i64) (.prod (.int .i64) (.prod (.int .i64) (.int .i64)))) true, .v (.prod (.int .i64) (.prod (.int .i64) (.prod (.int .i64) (.int .i64)))) true] [.v (.bool) false] (fun d => T_laws_eqProbe N d.1 d.2.1)

def T_laws_eqProbe_ann : Nat → List Ghost
  | _ => []

noncomputable def T_laws_eqProbe_ctx (N : Nat) : Ctx := []

theorem T_laws_eqProbe_den (N : Nat) (a1 : Int × Int × Int × Int) (b2 : Int × Int × Int × Int) :
    den (R := ODen (T_laws_eqProbe_sg N).ps × RDen (T_laws_eqProbe_sg N).rs) tab (T_laws_eqProbe_ctx N) T_laws_eqProbe_ann N (T_laws_eqProbe_sg N) Try.f170 (a1, b2, ()) some =
    (bif a1.1 != b2.1 then
    (some (α := ODen (T_laws_eqProbe_sg N).ps × RDen (T_laws_eqProbe_sg N).rs) ((), (false, ())))
    else
    (bif a1.2.1 != b2.2.1 then
      (some (α := ODen (T_laws_eqProbe_sg N).ps × RDen (T_laws_eqProbe_sg N).rs) ((), (false, ())))
      else
      (bif a1.2.2.1 != b2.2.2.1 then
        (some (α := ODen (T_laws_eqProbe_sg N).ps × RDen (T_laws_eqProbe_sg N).rs) ((), (false, ())))
        else
        (bif a1.2.2.2 != b2.2.2.2 then
          (some (α := ODen (T_laws_eqProbe_sg N).ps × RDen (T_laws_eqProbe_sg N).rs) ((), (false, ())))
          else
          (some (α := ODen (T_laws_eqProbe_sg N).ps × RDen (T_laws_eqProbe_sg N).rs) ((), (true, ()))))))) := by kernel_rfl

theorem T_laws_eqProbe_ok (N : Nat) : chkBody Try.f170 (T_laws_eqProbe_sg N).ps = true := by kernel_rfl

theorem T_laws_eqProbe_callable : Callable Try.prog 170 := callable_of Try.func170 (show chkFn Try.f170 = true by kernel_rfl)

theorem T_laws_eqProbe_good (N : Nat) : Good Try.prog 170 (T_laws_eqProbe_sg N) :=
  good_body mixedOk tabOk ctx_nil Try.func170 (T_laws_eqProbe_ok N) (fun d _ h => ⟨N, (T_laws_eqProbe_den N d.1 d.2.1).trans h⟩)

noncomputable def T_laws_eqCommit_sg (N : Nat) : Sig := Sig.of [.v (.prod (.int .i64) (.prod (.int .i64) (.prod (.int .i64) (.prod (.int .i64) (.prod (.int .i64) (.prod (.slice (.prod (.int .i64) (.int .i64))) (.slice (.int .i64)))))))) true, .v (.prod (.int .i64) (.prod (.int .i64) (.prod (.int .i64) (.prod (.int .i64) (.prod (.int .i64) (.prod (.slice (.prod (.int .i64) (.int .i64))) (.slice (.int .i64)))))))) true] [.v (.bool) false] (fun d => T_laws_eqCommit N d.1 d.2.1)

def T_laws_eqCommit_ann : Nat → List Ghost
  | _ => []

noncomputable def T_laws_eqCommit_ctx (N : Nat) : Ctx := [(50, T_laws_eqRowS_sg N), (15, T_laws_eqIntS_sg N)]

theorem T_laws_eqCommit_den (N : Nat) (a1 : Int × Int × Int × Int × Int × List (Int × Int) × List Int) (b2 : Int × Int × Int × Int × Int × List (Int × Int) × List Int) :
    den (R := ODen (T_laws_eqCommit_sg N).ps × RDen (T_laws_eqCommit_sg N).rs) tab (T_laws_eqCommit_ctx N) T_laws_eqCommit_ann N (T_laws_eqCommit_sg N) Try.f171 (a1, b2, ()) some =
    (bif a1.1 != b2.1 then
    (some (α := ODen (T_laws_eqCommit_sg N).ps × RDen (T_laws_eqCommit_sg N).rs) ((), (false, ())))
    else
    (bif a1.2.1 != b2.2.1 then
      (some (α := ODen (T_laws_eqCommit_sg N).ps × RDen (T_laws_eqCommit_sg N).rs) ((), (false, ())))
      else
      (bif a1.2.2.1 != b2.2.2.1 then
        (some (α := ODen (T_laws_eqCommit_sg N).ps × RDen (T_laws_eqCommit_sg N).rs) ((), (false, ())))
        else
        (bif a1.2.2.2.1 != b2.2.2.2.1 then
          (some (α := ODen (T_laws_eqCommit_sg N).ps × RDen (T_laws_eqCommit_sg N).rs) ((), (false, ())))
          else
          (bif a1.2.2.2.2.1 != b2.2.2.2.2.1 then
            (some (α := ODen (T_laws_eqCommit_sg N).ps × RDen (T_laws_eqCommit_sg N).rs) ((), (false, ())))
            else
            ((T_laws_eqRowS N a1.2.2.2.2.2.1 b2.2.2.2.2.2.1).bind fun o3 =>
              (bif !o3.2.1 then
                (some (α := ODen (T_laws_eqCommit_sg N).ps × RDen (T_laws_eqCommit_sg N).rs) ((), (false, ())))
                else
                ((T_laws_eqIntS N a1.2.2.2.2.2.2 b2.2.2.2.2.2.2).bind fun o4 =>
                  (bif !o4.2.1 then
                    (some (α := ODen (T_laws_eqCommit_sg N).ps × RDen (T_laws_eqCommit_sg N).rs) ((), (false, ())))
                    else
                    (some (α := ODen (T_laws_eqCommit_sg N).ps × RDen (T_laws_eqCommit_sg N).rs) ((), (true, ())))))))))))) := by kernel_rfl

theorem T_laws_eqCommit_ok (N : Nat) : chkBody Try.f171 (T_laws_eqCommit_sg N).ps = true := by kernel_rfl

end Go.Sx
