/- Each Go function does what its Lean function says. -/
import Derived.Test.YtglbfgeahjjnoaaT
import Derived.Test.YtglbfgeahjjnoaaProg
namespace Go.Sx
open Go.Proofs
set_option linter.unusedVariables false
set_option linter.unusedSimpArgs false

def tab : Tab := [(3, ⟨.int .i64, false, .basic⟩), (4, ⟨.bool, false, .basic⟩), (40, ⟨.prod (.int .i64) (.prod (.int .i64) (.int .i64)), true, .struct [(0, 3), (1, 3), (2, 3)]⟩), (41, ⟨.slice (.prod (.int .i64) (.prod (.int .i64) (.int .i64))), false, .slice 40⟩), (44, ⟨.slice (.prod (.int .i64) (.prod (.int .i64) (.prod (.prod (.int .i64) (.prod (.int .i64) (.int .i64))) (.int .i64)))), false, .slice 132⟩), (45, ⟨.slice (.prod (.int .i64) (.prod (.int .i64) (.prod (.int .i64) (.prod (.int .i64) (.int .i64))))), false, .slice 99⟩), (47, ⟨.prod (.int .i64) (.prod (.prod (.int .i64) (.prod (.int .i64) (.int .i64))) (.prod (.int .i64) (.prod (.int .i64) (.prod (.slice (.prod (.int .i64) (.prod (.int .i64) (.prod (.prod (.int .i64) (.prod (.int .i64) (.int .i64))) (.int .i64))))) (.slice (.prod (.int .i64) (.prod (.int .i64) (.prod (.int .i64) (.prod (.int .i64) (.int .i64)))))))))), true, .struct [(0, 3), (1, 40), (4, 3), (5, 3), (6, 44), (7, 45)]⟩), (67, ⟨.prod (.int .i64) (.prod (.int .i64) (.int .i64)), true, .struct [(0, 3), (1, 3), (2, 3)]⟩), (68, ⟨.slice (.prod (.int .i64) (.prod (.int .i64) (.int .i64))), false, .slice 67⟩), (69, ⟨.slice (.prod (.int .i64) (.prod (.int .i64) (.prod (.prod (.int .i64) (.prod (.int .i64) (.int .i64))) (.int .i64)))), false, .slice 142⟩), (70, ⟨.slice (.prod (.int .i64) (.prod (.int .i64) (.prod (.int .i64) (.prod (.int .i64) (.int .i64))))), false, .slice 145⟩), (72, ⟨.prod (.int .i64) (.prod (.prod (.int .i64) (.prod (.int .i64) (.int .i64))) (.prod (.int .i64) (.prod (.int .i64) (.prod (.slice (.prod (.int .i64) (.prod (.int .i64) (.prod (.prod (.int .i64) (.prod (.int .i64) (.int .i64))) (.int .i64))))) (.slice (.prod (.int .i64) (.prod (.int .i64) (.prod (.int .i64) (.prod (.int .i64) (.int .i64)))))))))), true, .struct [(0, 3), (1, 67), (4, 3), (5, 3), (6, 69), (7, 70)]⟩), (99, ⟨.prod (.int .i64) (.prod (.int .i64) (.prod (.int .i64) (.prod (.int .i64) (.int .i64)))), true, .struct [(0, 3), (1, 3), (2, 40)]⟩), (132, ⟨.prod (.int .i64) (.prod (.int .i64) (.prod (.prod (.int .i64) (.prod (.int .i64) (.int .i64))) (.int .i64))), true, .struct [(0, 3), (1, 3), (2, 40), (5, 3)]⟩), (142, ⟨.prod (.int .i64) (.prod (.int .i64) (.prod (.prod (.int .i64) (.prod (.int .i64) (.int .i64))) (.int .i64))), true, .struct [(0, 3), (1, 3), (2, 67), (5, 3)]⟩), (145, ⟨.prod (.int .i64) (.prod (.int .i64) (.prod (.int .i64) (.prod (.int .i64) (.int .i64)))), true, .struct [(0, 3), (1, 3), (2, 67)]⟩)]

theorem mixedOk : Try.prog.follows .mixedOrders = true := by kernel_rfl

theorem tabOk : TabOk Try.prog tab := tab_ok (show chkTab Try.prog tab tab = true by kernel_rfl)

noncomputable def T_laws_szTripleS_sg (N : Nat) : Sig := Sig.of [.v (.slice (.prod (.int .i64) (.prod (.int .i64) (.int .i64)))) false, .v (.int .i64) false] [.v (.int .i64) false] (fun d => T_laws_szTripleS N d.1 d.2.1)

def T_laws_szTripleS_ann : Nat → List Ghost
  | _ => []

noncomputable def T_laws_szTripleS_ctx (N : Nat) : Ctx := []

theorem T_laws_szTripleS_den (N : Nat) (a1 : List (Int × Int × Int)) (left2 : Int) :
    den (R := ODen (T_laws_szTripleS_sg N).ps × RDen (T_laws_szTripleS_sg N).rs) tab (T_laws_szTripleS_ctx N) T_laws_szTripleS_ann N (T_laws_szTripleS_sg N) Try.f34 (a1, left2, ()) some =
    (bif decide ((isub .i64 left2 (ilen a1)) < (0 : Int)) then
    (some (α := ODen (T_laws_szTripleS_sg N).ps × RDen (T_laws_szTripleS_sg N).rs) ((), ((-1 : Int), ())))
    else
    (some (α := ODen (T_laws_szTripleS_sg N).ps × RDen (T_laws_szTripleS_sg N).rs) ((), (isub .i64 left2 (ilen a1), ())))) := by kernel_rfl

theorem T_laws_szTripleS_ok (N : Nat) : chkBody Try.f34 (T_laws_szTripleS_sg N).ps = true := by kernel_rfl

theorem T_laws_szTripleS_callable : Callable Try.prog 34 := callable_of Try.func34 (show chkFn Try.f34 = true by kernel_rfl)

theorem T_laws_szTripleS_good (N : Nat) : Good Try.prog 34 (T_laws_szTripleS_sg N) :=
  good_body mixedOk tabOk ctx_nil Try.func34 (T_laws_szTripleS_ok N) (fun d _ h => ⟨N, (T_laws_szTripleS_den N d.1 d.2.1).trans h⟩)

noncomputable def T_laws_szSeqReaderS_sg (N : Nat) : Sig := Sig.of [.v (.slice (.prod (.int .i64) (.prod (.int .i64) (.prod (.prod (.int .i64) (.prod (.int .i64) (.int .i64))) (.int .i64))))) false, .v (.int .i64) false] [.v (.int .i64) false] (fun d => T_laws_szSeqReaderS N d.1 d.2.1)

def T_laws_szSeqReaderS_ann : Nat → List Ghost
  | _ => []

noncomputable def T_laws_szSeqReaderS_ctx (N : Nat) : Ctx := []

theorem T_laws_szSeqReaderS_den (N : Nat) (a1 : List (Int × Int × (Int × Int × Int) × Int)) (left2 : Int) :
    den (R := ODen (T_laws_szSeqReaderS_sg N).ps × RDen (T_laws_szSeqReaderS_sg N).rs) tab (T_laws_szSeqReaderS_ctx N) T_laws_szSeqReaderS_ann N (T_laws_szSeqReaderS_sg N) Try.f75 (a1, left2, ()) some =
    (bif decide ((isub .i64 left2 (ilen a1)) < (0 : Int)) then
    (some (α := ODen (T_laws_szSeqReaderS_sg N).ps × RDen (T_laws_szSeqReaderS_sg N).rs) ((), ((-1 : Int), ())))
    else
    (some (α := ODen (T_laws_szSeqReaderS_sg N).ps × RDen (T_laws_szSeqReaderS_sg N).rs) ((), (isub .i64 left2 (ilen a1), ())))) := by kernel_rfl

theorem T_laws_szSeqReaderS_ok (N : Nat) : chkBody Try.f75 (T_laws_szSeqReaderS_sg N).ps = true := by kernel_rfl

theorem T_laws_szSeqReaderS_callable : Callable Try.prog 75 := callable_of Try.func75 (show chkFn Try.f75 = true by kernel_rfl)

theorem T_laws_szSeqReaderS_good (N : Nat) : Good Try.prog 75 (T_laws_szSeqReaderS_sg N) :=
  good_body mixedOk tabOk ctx_nil Try.func75 (T_laws_szSeqReaderS_ok N) (fun d _ h => ⟨N, (T_laws_szSeqReaderS_den N d.1 d.2.1).trans h⟩)

noncomputable def T_laws_szSeqReadS_sg (N : Nat) : Sig := Sig.of [.v (.slice (.prod (.int .i64) (.prod (.int .i64) (.prod (.int .i64) (.prod (.int .i64) (.int .i64)))))) false, .v (.int .i64) false] [.v (.int .i64) false] (fun d => T_laws_szSeqReadS N d.1 d.2.1)

def T_laws_szSeqReadS_ann : Nat → List Ghost
  | _ => []

noncomputable def T_laws_szSeqReadS_ctx (N : Nat) : Ctx := []

theorem T_laws_szSeqReadS_den (N : Nat) (a1 : List (Int × Int × Int × Int × Int)) (left2 : Int) :
    den (R := ODen (T_laws_szSeqReadS_sg N).ps × RDen (T_laws_szSeqReadS_sg N).rs) tab (T_laws_szSeqReadS_ctx N) T_laws_szSeqReadS_ann N (T_laws_szSeqReadS_sg N) Try.f76 (a1, left2, ()) some =
    (bif decide ((isub .i64 left2 (ilen a1)) < (0 : Int)) then
    (some (α := ODen (T_laws_szSeqReadS_sg N).ps × RDen (T_laws_szSeqReadS_sg N).rs) ((), ((-1 : Int), ())))
    else
    (some (α := ODen (T_laws_szSeqReadS_sg N).ps × RDen (T_laws_szSeqReadS_sg N).rs) ((), (isub .i64 left2 (ilen a1), ())))) := by kernel_rfl

theorem T_laws_szSeqReadS_ok (N : Nat) : chkBody Try.f76 (T_laws_szSeqReadS_sg N).ps = true := by kernel_rfl

theorem T_laws_szSeqReadS_callable : Callable Try.prog 76 := callable_of Try.func76 (show chkFn Try.f76 = true by kernel_rfl)

theorem T_laws_szSeqReadS_good (N : Nat) : Good Try.prog 76 (T_laws_szSeqReadS_sg N) :=
  good_body mixedOk tabOk ctx_nil Try.func76 (T_laws_szSeqReadS_ok N) (fun d _ h => ⟨N, (T_laws_szSeqReadS_den N d.1 d.2.1).trans h⟩)

noncomputable def T_laws_szSeqWorld_sg (N : Nat) : Sig := Sig.of [.v (.prod (.int .i64) (.prod (.prod (.int .i64) (.prod (.int .i64) (.int .i64))) (.prod (.int .i64) (.prod (.int .i64) (.prod (.slice (.prod (.int .i64) (.prod (.int .i64) (.prod (.prod (.int .i64) (.prod (.int .i64) (.int .i64))) (.int .i64))))) (.slice (.prod (.int .i64) (.prod (.int .i64) (.prod (.int .i64) (.prod (.int .i64) (.int .i64))))))))))) true, .v (.int .i64) false] [.v (.int .i64) false] (fun d => T_laws_szSeqWorld N d.1 d.2.1)

def T_laws_szSeqWorld_ann : Nat → List Ghost
  | _ => []

noncomputable def T_laws_szSeqWorld_ctx (N : Nat) : Ctx := [(75, T_laws_szSeqReaderS_sg N), (76, T_laws_szSeqReadS_sg N)]

theorem T_laws_szSeqWorld_den (N : Nat) (a1 : Int × (Int × Int × Int) × Int × Int × List (Int × Int × (Int × Int × Int) × Int) × List (Int × Int × Int × Int × Int)) (left2 : Int) :
    den (R := ODen (T_laws_szSeqWorld_sg N).ps × RDen (T_laws_szSeqWorld_sg N).rs) tab (T_laws_szSeqWorld_ctx N) T_laws_szSeqWorld_ann N (T_laws_szSeqWorld_sg N) Try.f35 (a1, left2, ()) some =
    ((T_laws_szSeqReaderS N a1.2.2.2.2.1 left2).bind fun o3 =>
    (bif decide (o3.2.1 < (0 : Int)) then
      (some (α := ODen (T_laws_szSeqWorld_sg N).ps × RDen (T_laws_szSeqWorld_sg N).rs) ((), ((-1 : Int), ())))
      else
      ((T_laws_szSeqReadS N a1.2.2.2.2.2 o3.2.1).bind fun o4 =>
        (bif decide (o4.2.1 < (0 : Int)) then
          (some (α := ODen (T_laws_szSeqWorld_sg N).ps × RDen (T_laws_szSeqWorld_sg N).rs) ((), ((-1 : Int), ())))
          else
          (some (α := ODen (T_laws_szSeqWorld_sg N).ps × RDen (T_laws_szSeqWorld_sg N).rs) ((), (o4.2.1, ()))))))) := by kernel_rfl

theorem T_laws_szSeqWorld_ok (N : Nat) : chkBody Try.f35 (T_laws_szSeqWorld_sg N).ps = true := by kernel_rfl

theorem T_laws_szSeqWorld_callable : Callable Try.prog 35 := callable_of Try.func35 (show chkFn Try.f35 = true by kernel_rfl)

theorem T_laws_szSeqWorld_good (N : Nat) : Good Try.prog 35 (T_laws_szSeqWorld_sg N) :=
  good_body mixedOk tabOk (ctx_cons (T_laws_szSeqReaderS_good N) T_laws_szSeqReaderS_callable (ctx_cons (T_laws_szSeqReadS_good N) T_laws_szSeqReadS_callable ctx_nil)) Try.func35 (T_laws_szSeqWorld_ok N) (fun d _ h => ⟨N, (T_laws_szSeqWorld_den N d.1 d.2.1).trans h⟩)

noncomputable def T_laws_toTriple_sg (N : Nat) : Sig := Sig.of [.v (.prod (.int .i64) (.prod (.int .i64) (.int .i64))) true] [.v (.prod (.int .i64) (.prod (.int .i64) (.int .i64))) true] (fun d => T_laws_toTriple N d.1)

def T_laws_toTriple_ann : Nat → List Ghost
  | _ => []

noncomputable def T_laws_toTriple_ctx (N : Nat) : Ctx := []

theorem T_laws_toTriple_den (N : Nat) (a1 : Int × Int × Int) :
    den (R := ODen (T_laws_toTriple_sg N).ps × RDen (T_laws_toTriple_sg N).rs) tab (T_laws_toTriple_ctx N) T_laws_toTriple_ann N (T_laws_toTriple_sg N) Try.f36 (a1, ()) some =
    (some (α := ODen (T_laws_toTriple_sg N).ps × RDen (T_laws_toTriple_sg N).rs) ((), (a1, ()))) := by kernel_rfl

theorem T_laws_toTriple_ok (N : Nat) : chkBody Try.f36 (T_laws_toTriple_sg N).ps = true := by kernel_rfl

theorem T_laws_toTriple_callable : Callable Try.prog 36 := callable_of Try.func36 (show chkFn Try.f36 = true by kernel_rfl)

theorem T_laws_toTriple_good (N : Nat) : Good Try.prog 36 (T_laws_toTriple_sg N) :=
  good_body mixedOk tabOk ctx_nil Try.func36 (T_laws_toTriple_ok N) (fun d _ h => ⟨N, (T_laws_toTriple_den N d.1).trans h⟩)

noncomputable def T_laws_toTripleS_sg (N : Nat) : Sig := Sig.of [.v (.slice (.prod (.int .i64) (.prod (.int .i64) (.int .i64)))) false] [.v (.own (.prod (.int .i64) (.prod (.int .i64) (.int .i64)))) false] (fun d => T_laws_toTripleS N d.1)

def T_laws_toTripleS_ann : Nat → List Ghost
  | 3 => [.canon [0, 3, 4, 11]]
  | 4 => [.canon [0, 3, 4]]
  | 5 => [.canon [0, 3, 4]]
  | 100003 => [.canon [0, 3, 4]]
  | _ => []

noncomputable def T_laws_toTripleS_ctx (N : Nat) : Ctx := [(36, T_laws_toTriple_sg N)]

def T_laws_toTripleS_lp0_sh (a2 : List (Int × Int × Int)) (i3 : Int) (l4 : List (Int × Int × Int)) : St := { env := [(0, .s (.one (.val (.slice (.prod (.int .i64) (.prod (.int .i64) (.int .i64)))) (a2 : List (Int × Int × Int))))), (3, .s (.one (.own 0))), (4, .s (.one (.val (.int .i64) (i3 : Int))))], objs := [(0, .arr (.prod (.int .i64) (.prod (.int .i64) (.int .i64))) (l4 : List (Int × Int × Int)))], nx := 1 }

def T_laws_toTripleS_lp0_e0 (a2 : List (Int × Int × Int)) (i6 : Int) (t7 : Bool) (l8 : List (Int × Int × Int)) : St := { env := [(0, .s (.one (.val (.slice (.prod (.int .i64) (.prod (.int .i64) (.int .i64)))) (a2 : List (Int × Int × Int))))), (3, .s (.one (.own 0))), (4, .s (.one (.val (.int .i64) (i6 : Int)))), (11, .s (.one (.val (.bool) (t7 : Bool))))], objs := [(0, .arr (.prod (.int .i64) (.prod (.int .i64) (.int .i64))) (l8 : List (Int × Int × Int)))], nx := 1 }

noncomputable def T_laws_toTripleS_lp0_m (N : Nat) {R : Type} (n : Nat) (st : St) (K : Ex → St → Option R) : Option R := loopN (roundG (T_laws_toTripleS_ann 100003) fun st k => sx tab (T_laws_toTripleS_ctx N) T_laws_toTripleS_ann N (nthLoop Try.f37 0) st k) n st K

theorem T_laws_toTripleS_lp0_step (N : Nat) {R : Type} (n : Nat) (K : Ex → St → Option R) (a2 : List (Int × Int × Int)) (i3 : Int) (l4 : List (Int × Int × Int)) :
    T_laws_toTripleS_lp0_m N (n + 1) (T_laws_toTripleS_lp0_sh a2 i3 l4) K =
    (bif decide (i3 < (ilen a2)) then
    (bif inb i3 (List.length a2) then
      ((T_laws_toTriple N (List.getD a2 (Int.toNat i3) ((0 : Int), ((0 : Int), (0 : Int))))).bind fun o9 =>
        (bif inb i3 (List.length l4) then
          (T_laws_toTripleS_lp0_m N n (T_laws_toTripleS_lp0_sh a2 (iadd .i64 i3 (1 : Int)) (List.set l4 (Int.toNat i3) o9.2.1)) K) else none)) else none)
    else
    (K (.exit 0) (T_laws_toTripleS_lp0_e0 a2 i3 (decide (i3 < (ilen a2))) l4))) := by kernel_rfl

theorem T_laws_toTripleS_lp0_eq (N : Nat) {R : Type} (a2 : List (Int × Int × Int)) (K : Ex → St → Option R) : ∀ (n : Nat) (i3 : Int) (l4 : List (Int × Int × Int)), T_laws_toTripleS_lp0_m N n (T_laws_toTripleS_lp0_sh a2 i3 l4) K = T_laws_toTripleS_lp0 N a2 (fun i6 t7 l8 => (K (.exit 0) (T_laws_toTripleS_lp0_e0 a2 i6 t7 l8))) n i3 l4
  | 0, _, _ => rfl
  | n + 1, i3, l4 => by rw [T_laws_toTripleS_lp0_step, T_laws_toTripleS_lp0]; (try simp only [T_laws_toTripleS_lp0_eq N a2 K n])

theorem T_laws_toTripleS_c1 (N : Nat) (a1 : List (Int × Int × Int)) (i10 : Int) (t11 : Bool) (l12 : List (Int × Int × Int)) :
    ((ctxK (R := ODen (T_laws_toTripleS_sg N).ps × RDen (T_laws_toTripleS_sg N).rs) tab (T_laws_toTripleS_ctx N) T_laws_toTripleS_ann N (theCode Try.f37) [1, 1, 0, 1, 0] (retK tab (T_laws_toTripleS_sg N) Try.f37.results.toList some)) (.exit 0) (T_laws_toTripleS_lp0_e0 a1 i10 t11 l12)) =
    (some (α := ODen (T_laws_toTripleS_sg N).ps × RDen (T_laws_toTripleS_sg N).rs) ((), (l12, ()))) := by kernel_rfl

theorem T_laws_toTripleS_den (N : Nat) (a1 : List (Int × Int × Int)) :
    den (R := ODen (T_laws_toTripleS_sg N).ps × RDen (T_laws_toTripleS_sg N).rs) tab (T_laws_toTripleS_ctx N) T_laws_toTripleS_ann N (T_laws_toTripleS_sg N) Try.f37 (a1, ()) some =
    (bif ((decide ((0 : Int) ≤ (ilen a1))) && (decide ((ilen a1) ≤ (ilen a1)))) && (room (Int.toNat (ilen a1))) then
    (T_laws_toTripleS_lp0 N a1
      (fun i10 t11 l12 =>
        (some (α := ODen (T_laws_toTripleS_sg N).ps × RDen (T_laws_toTripleS_sg N).rs) ((), (l12, ()))))
       N (0 : Int) (List.replicate (Int.toNat (ilen a1)) ((0 : Int), ((0 : Int), (0 : Int))))) else none) := by
  have h : den (R := ODen (T_laws_toTripleS_sg N).ps × RDen (T_laws_toTripleS_sg N).rs) tab (T_laws_toTripleS_ctx N) T_laws_toTripleS_ann N (T_laws_toTripleS_sg N) Try.f37 (a1, ()) some =
    (bif ((decide ((0 : Int) ≤ (ilen a1))) && (decide ((ilen a1) ≤ (ilen a1)))) && (room (Int.toNat (ilen a1))) then
    (T_laws_toTripleS_lp0_m N N (T_laws_toTripleS_lp0_sh a1 (0 : Int) (List.replicate (Int.toNat (ilen a1)) ((0 : Int), ((0 : Int), (0 : Int))))) (ctxK (R := ODen (T_laws_toTripleS_sg N).ps × RDen (T_laws_toTripleS_sg N).rs) tab (T_laws_toTripleS_ctx N) T_laws_toTripleS_ann N (theCode Try.f37) [1, 1, 0, 1, 0] (retK tab (T_laws_toTripleS_sg N) Try.f37.results.toList some))) else none) := by kernel_rfl
  rw [h]
  (try simp only [T_laws_toTripleS_lp0_eq, T_laws_toTripleS_c1]) <;> rfl

theorem T_laws_toTripleS_ok (N : Nat) : chkBody Try.f37 (T_laws_toTripleS_sg N).ps = true := by kernel_rfl

theorem T_laws_toTripleS_callable : Callable Try.prog 37 := callable_of Try.func37 (show chkFn Try.f37 = true by kernel_rfl)

theorem T_laws_toTripleS_good (N : Nat) : Good Try.prog 37 (T_laws_toTripleS_sg N) :=
  good_body mixedOk tabOk (ctx_cons (T_laws_toTriple_good N) T_laws_toTriple_callable ctx_nil) Try.func37 (T_laws_toTripleS_ok N) (fun d _ h => ⟨N, (T_laws_toTripleS_den N d.1).trans h⟩)

noncomputable def T_laws_toSeqReader_sg (N : Nat) : Sig := Sig.of [.v (.prod (.int .i64) (.prod (.int .i64) (.prod (.prod (.int .i64) (.prod (.int .i64) (.int .i64))) (.int .i64)))) true] [.v (.prod (.int .i64) (.prod (.int .i64) (.prod (.prod (.int .i64) (.prod (.int .i64) (.int .i64))) (.int .i64)))) true] (fun d => T_laws_toSeqReader N d.1)

def T_laws_toSeqReader_ann : Nat → List Ghost
  | _ => []

noncomputable def T_laws_toSeqReader_ctx (N : Nat) : Ctx := [(36, T_laws_toTriple_sg N)]

theorem T_laws_toSeqReader_den (N : Nat) (a1 : Int × Int × (Int × Int × Int) × Int) :
    den (R := ODen (T_laws_toSeqReader_sg N).ps × RDen (T_laws_toSeqReader_sg N).rs) tab (T_laws_toSeqReader_ctx N) T_laws_toSeqReader_ann N (T_laws_toSeqReader_sg N) Try.f96 (a1, ()) some =
    ((T_laws_toTriple N a1.2.2.1).bind fun o2 =>
    (some (α := ODen (T_laws_toSeqReader_sg N).ps × RDen (T_laws_toSeqReader_sg N).rs) ((), ((a1.1, (a1.2.1, (o2.2.1, a1.2.2.2))), ())))) := by kernel_rfl

theorem T_laws_toSeqReader_ok (N : Nat) : chkBody Try.f96 (T_laws_toSeqReader_sg N).ps = true := by kernel_rfl

theorem T_laws_toSeqReader_callable : Callable Try.prog 96 := callable_of Try.func96 (show chkFn Try.f96 = true by kernel_rfl)

theorem T_laws_toSeqReader_good (N : Nat) : Good Try.prog 96 (T_laws_toSeqReader_sg N) :=
  good_body mixedOk tabOk (ctx_cons (T_laws_toTriple_good N) T_laws_toTriple_callable ctx_nil) Try.func96 (T_laws_toSeqReader_ok N) (fun d _ h => ⟨N, (T_laws_toSeqReader_den N d.1).trans h⟩)

noncomputable def T_laws_toSeqReaderS_sg (N : Nat) : Sig := Sig.of [.v (.slice (.prod (.int .i64) (.prod (.int .i64) (.prod (.prod (.int .i64) (.prod (.int .i64) (.int .i64))) (.int .i64))))) false] [.v (.own (.prod (.int .i64) (.prod (.int .i64) (.prod (.prod (.int .i64) (.prod (.int .i64) (.int .i64))) (.int .i64))))) false] (fun d => T_laws_toSeqReaderS N d.1)

def T_laws_toSeqReaderS_ann : Nat → List Ghost
  | 3 => [.canon [0, 3, 4, 11]]
  | 4 => [.canon [0, 3, 4]]
  | 5 => [.canon [0, 3, 4]]
  | 100003 => [.canon [0, 3, 4]]
  | _ => []

noncomputable def T_laws_toSeqReaderS_ctx (N : Nat) : Ctx := [(96, T_laws_toSeqReader_sg N)]

def T_laws_toSeqReaderS_lp0_sh (a2 : List (Int × Int × (Int × Int × Int) × Int)) (i3 : Int) (l4 : List (Int × Int × (Int × Int × Int) × Int)) : St := { env := [(0, .s (.one (.val (.slice (.prod (.int .i64) (.prod (.int .i64) (.prod (.prod (.int .i64) (.prod (.int .i64) (.int .i64))) (.int .i64))))) (a2 : List (Int × Int × (Int × Int × Int) × Int))))), (3, .s (.one (.own 0))), (4, .s (.one (.val (.int .i64) (i3 : Int))))], objs := [(0, .arr (.prod (.int .i64) (.prod (.int .i64) (.prod (.prod (.int .i64) (.prod (.int .i64) (.int .i64))) (.int .i64)))) (l4 : List (Int × Int × (Int × Int × Int) × Int)))], nx := 1 }

def T_laws_toSeqReaderS_lp0_e0 (a2 : List (Int × Int × (Int × Int × Int) × Int)) (i6 : Int) (t7 : Bool) (l8 : List (Int × Int × (Int × Int × Int) × Int)) : St := { env := [(0, .s (.one (.val (.slice (.prod (.int .i64) (.prod (.int .i64) (.prod (.prod (.int .i64) (.prod (.int .i64) (.int .i64))) (.int .i64))))) (a2 : List (Int × Int × (Int × Int × Int) × Int))))), (3, .s (.one (.own 0))), (4, .s (.one (.val (.int .i64) (i6 : Int)))), (11, .s (.one (.val (.bool) (t7 : Bool))))], objs := [(0, .arr (.prod (.int .i64) (.prod (.int .i64) (.prod (.prod (.int .i64) (.prod (.int .i64) (.int .i64))) (.int .i64)))) (l8 : List (Int × Int × (Int × Int × Int) × Int)))], nx := 1 }

noncomputable def T_laws_toSeqReaderS_lp0_m (N : Nat) {R : Type} (n : Nat) (st : St) (K : Ex → St → Option R) : Option R := loopN (roundG (T_laws_toSeqReaderS_ann 100003) fun st k => sx tab (T_laws_toSeqReaderS_ctx N) T_laws_toSeqReaderS_ann N (nthLoop Try.f77 0) st k) n st K

theorem T_laws_toSeqReaderS_lp0_step (N : Nat) {R : Type} (n : Nat) (K : Ex → St → Option R) (a2 : List (Int × Int × (Int × Int × Int) × Int)) (i3 : Int) (l4 : List (Int × Int × (Int × Int × Int) × Int)) :
    T_laws_toSeqReaderS_lp0_m N (n + 1) (T_laws_toSeqReaderS_lp0_sh a2 i3 l4) K =
    (bif decide (i3 < (ilen a2)) then
    (bif inb i3 (List.length a2) then
      ((T_laws_toSeqReader N (List.getD a2 (Int.toNat i3) ((0 : Int), ((0 : Int), (((0 : Int), ((0 : Int), (0 : Int))), (0 : Int)))))).bind fun o9 =>
        (bif inb i3 (List.length l4) then
          (T_laws_toSeqReaderS_lp0_m N n (T_laws_toSeqReaderS_lp0_sh a2 (iadd .i64 i3 (1 : Int)) (List.set l4 (Int.toNat i3) o9.2.1)) K) else none)) else none)
    else
    (K (.exit 0) (T_laws_toSeqReaderS_lp0_e0 a2 i3 (decide (i3 < (ilen a2))) l4))) := by kernel_rfl

theorem T_laws_toSeqReaderS_lp0_eq (N : Nat) {R : Type} (a2 : List (Int × Int × (Int × Int × Int) × Int)) (K : Ex → St → Option R) : ∀ (n : Nat) (i3 : Int) (l4 : List (Int × Int × (Int × Int × Int) × Int)), T_laws_toSeqReaderS_lp0_m N n (T_laws_toSeqReaderS_lp0_sh a2 i3 l4) K = T_laws_toSeqReaderS_lp0 N a2 (fun i6 t7 l8 => (K (.exit 0) (T_laws_toSeqReaderS_lp0_e0 a2 i6 t7 l8))) n i3 l4
  | 0, _, _ => rfl
  | n + 1, i3, l4 => by rw [T_laws_toSeqReaderS_lp0_step, T_laws_toSeqReaderS_lp0]; (try simp only [T_laws_toSeqReaderS_lp0_eq N a2 K n])

theorem T_laws_toSeqReaderS_c1 (N : Nat) (a1 : List (Int × Int × (Int × Int × Int) × Int)) (i10 : Int) (t11 : Bool) (l12 : List (Int × Int × (Int × Int × Int) × Int)) :
    ((ctxK (R := ODen (T_laws_toSeqReaderS_sg N).ps × RDen (T_laws_toSeqReaderS_sg N).rs) tab (T_laws_toSeqReaderS_ctx N) T_laws_toSeqReaderS_ann N (theCode Try.f77) [1, 1, 0, 1, 0] (retK tab (T_laws_toSeqReaderS_sg N) Try.f77.results.toList some)) (.exit 0) (T_laws_toSeqReaderS_lp0_e0 a1 i10 t11 l12)) =
    (some (α := ODen (T_laws_toSeqReaderS_sg N).ps × RDen (T_laws_toSeqReaderS_sg N).rs) ((), (l12, ()))) := by kernel_rfl

theorem T_laws_toSeqReaderS_den (N : Nat) (a1 : List (Int × Int × (Int × Int × Int) × Int)) :
    den (R := ODen (T_laws_toSeqReaderS_sg N).ps × RDen (T_laws_toSeqReaderS_sg N).rs) tab (T_laws_toSeqReaderS_ctx N) T_laws_toSeqReaderS_ann N (T_laws_toSeqReaderS_sg N) Try.f77 (a1, ()) some =
    (bif ((decide ((0 : Int) ≤ (ilen a1))) && (decide ((ilen a1) ≤ (ilen a1)))) && (room (Int.toNat (ilen a1))) then
    (T_laws_toSeqReaderS_lp0 N a1
      (fun i10 t11 l12 =>
        (some (α := ODen (T_laws_toSeqReaderS_sg N).ps × RDen (T_laws_toSeqReaderS_sg N).rs) ((), (l12, ()))))
       N (0 : Int) (List.replicate (Int.toNat (ilen a1)) ((0 : Int), ((0 : Int), (((0 : Int), ((0 : Int), (0 : Int))), (0 : Int)))))) else none) := by
  have h : den (R := ODen (T_laws_toSeqReaderS_sg N).ps × RDen (T_laws_toSeqReaderS_sg N).rs) tab (T_laws_toSeqReaderS_ctx N) T_laws_toSeqReaderS_ann N (T_laws_toSeqReaderS_sg N) Try.f77 (a1, ()) some =
    (bif ((decide ((0 : Int) ≤ (ilen a1))) && (decide ((ilen a1) ≤ (ilen a1)))) && (room (Int.toNat (ilen a1))) then
    (T_laws_toSeqReaderS_lp0_m N N (T_laws_toSeqReaderS_lp0_sh a1 (0 : Int) (List.replicate (Int.toNat (ilen a1)) ((0 : Int), ((0 : Int), (((0 : Int), ((0 : Int), (0 : Int))), (0 : Int)))))) (ctxK (R := ODen (T_laws_toSeqReaderS_sg N).ps × RDen (T_laws_toSeqReaderS_sg N).rs) tab (T_laws_toSeqReaderS_ctx N) T_laws_toSeqReaderS_ann N (theCode Try.f77) [1, 1, 0, 1, 0] (retK tab (T_laws_toSeqReaderS_sg N) Try.f77.results.toList some))) else none) := by kernel_rfl
  rw [h]
  (try simp only [T_laws_toSeqReaderS_lp0_eq, T_laws_toSeqReaderS_c1]) <;> rfl

theorem T_laws_toSeqReaderS_ok (N : Nat) : chkBody Try.f77 (T_laws_toSeqReaderS_sg N).ps = true := by kernel_rfl

theorem T_laws_toSeqReaderS_callable : Callable Try.prog 77 := callable_of Try.func77 (show chkFn Try.f77 = true by kernel_rfl)

theorem T_laws_toSeqReaderS_good (N : Nat) : Good Try.prog 77 (T_laws_toSeqReaderS_sg N) :=
  good_body mixedOk tabOk (ctx_cons (T_laws_toSeqReader_good N) T_laws_toSeqReader_callable ctx_nil) Try.func77 (T_laws_toSeqReaderS_ok N) (fun d _ h => ⟨N, (T_laws_toSeqReaderS_den N d.1).trans h⟩)

noncomputable def T_laws_toSeqRead_sg (N : Nat) : Sig := Sig.of [.v (.prod (.int .i64) (.prod (.int .i64) (.prod (.int .i64) (.prod (.int .i64) (.int .i64))))) true] [.v (.prod (.int .i64) (.prod (.int .i64) (.prod (.int .i64) (.prod (.int .i64) (.int .i64))))) true] (fun d => T_laws_toSeqRead N d.1)

def T_laws_toSeqRead_ann : Nat → List Ghost
  | _ => []

noncomputable def T_laws_toSeqRead_ctx (N : Nat) : Ctx := [(36, T_laws_toTriple_sg N)]

theorem T_laws_toSeqRead_den (N : Nat) (a1 : Int × Int × Int × Int × Int) :
    den (R := ODen (T_laws_toSeqRead_sg N).ps × RDen (T_laws_toSeqRead_sg N).rs) tab (T_laws_toSeqRead_ctx N) T_laws_toSeqRead_ann N (T_laws_toSeqRead_sg N) Try.f97 (a1, ()) some =
    ((T_laws_toTriple N a1.2.2).bind fun o2 =>
    (some (α := ODen (T_laws_toSeqRead_sg N).ps × RDen (T_laws_toSeqRead_sg N).rs) ((), ((a1.1, (a1.2.1, o2.2.1)), ())))) := by kernel_rfl

theorem T_laws_toSeqRead_ok (N : Nat) : chkBody Try.f97 (T_laws_toSeqRead_sg N).ps = true := by kernel_rfl

theorem T_laws_toSeqRead_callable : Callable Try.prog 97 := callable_of Try.func97 (show chkFn Try.f97 = true by kernel_rfl)

theorem T_laws_toSeqRead_good (N : Nat) : Good Try.prog 97 (T_laws_toSeqRead_sg N) :=
  good_body mixedOk tabOk (ctx_cons (T_laws_toTriple_good N) T_laws_toTriple_callable ctx_nil) Try.func97 (T_laws_toSeqRead_ok N) (fun d _ h => ⟨N, (T_laws_toSeqRead_den N d.1).trans h⟩)

noncomputable def T_laws_toSeqReadS_sg (N : Nat) : Sig := Sig.of [.v (.slice (.prod (.int .i64) (.prod (.int .i64) (.prod (.int .i64) (.prod (.int .i64) (.int .i64)))))) false] [.v (.own (.prod (.int .i64) (.prod (.int .i64) (.prod (.int .i64) (.prod (.int .i64) (.int .i64)))))) false] (fun d => T_laws_toSeqReadS N d.1)

def T_laws_toSeqReadS_ann : Nat → List Ghost
  | 3 => [.canon [0, 3, 4, 11]]
  | 4 => [.canon [0, 3, 4]]
  | 5 => [.canon [0, 3, 4]]
  | 100003 => [.canon [0, 3, 4]]
  | _ => []

noncomputable def T_laws_toSeqReadS_ctx (N : Nat) : Ctx := [(97, T_laws_toSeqRead_sg N)]

def T_laws_toSeqReadS_lp0_sh (a2 : List (Int × Int × Int × Int × Int)) (i3 : Int) (l4 : List (Int × Int × Int × Int × Int)) : St := { env := [(0, .s (.one (.val (.slice (.prod (.int .i64) (.prod (.int .i64) (.prod (.int .i64) (.prod (.int .i64) (.int .i64)))))) (a2 : List (Int × Int × Int × Int × Int))))), (3, .s (.one (.own 0))), (4, .s (.one (.val (.int .i64) (i3 : Int))))], objs := [(0, .arr (.prod (.int .i64) (.prod (.int .i64) (.prod (.int .i64) (.prod (.int .i64) (.int .i64))))) (l4 : List (Int × Int × Int × Int × Int)))], nx := 1 }

def T_laws_toSeqReadS_lp0_e0 (a2 : List (Int × Int × Int × Int × Int)) (i6 : Int) (t7 : Bool) (l8 : List (Int × Int × Int × Int × Int)) : St := { env := [(0, .s (.one (.val (.slice (.prod (.int .i64) (.prod (.int .i64) (.prod (.int .i64) (.prod (.int .i64) (.int .i64)))))) (a2 : List (Int × Int × Int × Int × Int))))), (3, .s (.one (.own 0))), (4, .s (.one (.val (.int .i64) (i6 : Int)))), (11, .s (.one (.val (.bool) (t7 : Bool))))], objs := [(0, .arr (.prod (.int .i64) (.prod (.int .i64) (.prod (.int .i64) (.prod (.int .i64) (.int .i64))))) (l8 : List (Int × Int × Int × Int × Int)))], nx := 1 }

noncomputable def T_laws_toSeqReadS_lp0_m (N : Nat) {R : Type} (n : Nat) (st : St) (K : Ex → St → Option R) : Option R := loopN (roundG (T_laws_toSeqReadS_ann 100003) fun st k => sx tab (T_laws_toSeqReadS_ctx N) T_laws_toSeqReadS_ann N (nthLoop Try.f78 0) st k) n st K

theorem T_laws_toSeqReadS_lp0_step (N : Nat) {R : Type} (n : Nat) (K : Ex → St → Option R) (a2 : List (Int × Int × Int × Int × Int)) (i3 : Int) (l4 : List (Int × Int × Int × Int × Int)) :
    T_laws_toSeqReadS_lp0_m N (n + 1) (T_laws_toSeqReadS_lp0_sh a2 i3 l4) K =
    (bif decide (i3 < (ilen a2)) then
    (bif inb i3 (List.length a2) then
      ((T_laws_toSeqRead N (List.getD a2 (Int.toNat i3) ((0 : Int), ((0 : Int), ((0 : Int), ((0 : Int), (0 : Int))))))).bind fun o9 =>
        (bif inb i3 (List.length l4) then
          (T_laws_toSeqReadS_lp0_m N n (T_laws_toSeqReadS_lp0_sh a2 (iadd .i64 i3 (1 : Int)) (List.set l4 (Int.toNat i3) o9.2.1)) K) else none)) else none)
    else
    (K (.exit 0) (T_laws_toSeqReadS_lp0_e0 a2 i3 (decide (i3 < (ilen a2))) l4))) := by kernel_rfl

theorem T_laws_toSeqReadS_lp0_eq (N : Nat) {R : Type} (a2 : List (Int × Int × Int × Int × Int)) (K : Ex → St → Option R) : ∀ (n : Nat) (i3 : Int) (l4 : List (Int × Int × Int × Int × Int)), T_laws_toSeqReadS_lp0_m N n (T_laws_toSeqReadS_lp0_sh a2 i3 l4) K = T_laws_toSeqReadS_lp0 N a2 (fun i6 t7 l8 => (K (.exit 0) (T_laws_toSeqReadS_lp0_e0 a2 i6 t7 l8))) n i3 l4
  | 0, _, _ => rfl
  | n + 1, i3, l4 => by rw [T_laws_toSeqReadS_lp0_step, T_laws_toSeqReadS_lp0]; (try simp only [T_laws_toSeqReadS_lp0_eq N a2 K n])

theorem T_laws_toSeqReadS_c1 (N : Nat) (a1 : List (Int × Int × Int × Int × Int)) (i10 : Int) (t11 : Bool) (l12 : List (Int × Int × Int × Int × Int)) :
    ((ctxK (R := ODen (T_laws_toSeqReadS_sg N).ps × RDen (T_laws_toSeqReadS_sg N).rs) tab (T_laws_toSeqReadS_ctx N) T_laws_toSeqReadS_ann N (theCode Try.f78) [1, 1, 0, 1, 0] (retK tab (T_laws_toSeqReadS_sg N) Try.f78.results.toList some)) (.exit 0) (T_laws_toSeqReadS_lp0_e0 a1 i10 t11 l12)) =
    (some (α := ODen (T_laws_toSeqReadS_sg N).ps × RDen (T_laws_toSeqReadS_sg N).rs) ((), (l12, ()))) := by kernel_rfl

theorem T_laws_toSeqReadS_den (N : Nat) (a1 : List (Int × Int × Int × Int × Int)) :
    den (R := ODen (T_laws_toSeqReadS_sg N).ps × RDen (T_laws_toSeqReadS_sg N).rs) tab (T_laws_toSeqReadS_ctx N) T_laws_toSeqReadS_ann N (T_laws_toSeqReadS_sg N) Try.f78 (a1, ()) some =
    (bif ((decide ((0 : Int) ≤ (ilen a1))) && (decide ((ilen a1) ≤ (ilen a1)))) && (room (Int.toNat (ilen a1))) then
    (T_laws_toSeqReadS_lp0 N a1
      (fun i10 t11 l12 =>
        (some (α := ODen (T_laws_toSeqReadS_sg N).ps × RDen (T_laws_toSeqReadS_sg N).rs) ((), (l12, ()))))
       N (0 : Int) (List.replicate (Int.toNat (ilen a1)) ((0 : Int), ((0 : Int), ((0 : Int), ((0 : Int), (0 : Int))))))) else none) := by
  have h : den (R := ODen (T_laws_toSeqReadS_sg N).ps × RDen (T_laws_toSeqReadS_sg N).rs) tab (T_laws_toSeqReadS_ctx N) T_laws_toSeqReadS_ann N (T_laws_toSeqReadS_sg N) Try.f78 (a1, ()) some =
    (bif ((decide ((0 : Int) ≤ (ilen a1))) && (decide ((ilen a1) ≤ (ilen a1)))) && (room (Int.toNat (ilen a1))) then
    (T_laws_toSeqReadS_lp0_m N N (T_laws_toSeqReadS_lp0_sh a1 (0 : Int) (List.replicate (Int.toNat (ilen a1)) ((0 : Int), ((0 : Int), ((0 : Int), ((0 : Int), (0 : Int))))))) (ctxK (R := ODen (T_laws_toSeqReadS_sg N).ps × RDen (T_laws_toSeqReadS_sg N).rs) tab (T_laws_toSeqReadS_ctx N) T_laws_toSeqReadS_ann N (theCode Try.f78) [1, 1, 0, 1, 0] (retK tab (T_laws_toSeqReadS_sg N) Try.f78.results.toList some))) else none) := by kernel_rfl
  rw [h]
  (try simp only [T_laws_toSeqReadS_lp0_eq, T_laws_toSeqReadS_c1]) <;> rfl

theorem T_laws_toSeqReadS_ok (N : Nat) : chkBody Try.f78 (T_laws_toSeqReadS_sg N).ps = true := by kernel_rfl

theorem T_laws_toSeqReadS_callable : Callable Try.prog 78 := callable_of Try.func78 (show chkFn Try.f78 = true by kernel_rfl)

theorem T_laws_toSeqReadS_good (N : Nat) : Good Try.prog 78 (T_laws_toSeqReadS_sg N) :=
  good_body mixedOk tabOk (ctx_cons (T_laws_toSeqRead_good N) T_laws_toSeqRead_callable ctx_nil) Try.func78 (T_laws_toSeqReadS_ok N) (fun d _ h => ⟨N, (T_laws_toSeqReadS_den N d.1).trans h⟩)

noncomputable def T_laws_toSeqWorld_sg (N : Nat) : Sig := Sig.of [.v (.prod (.int .i64) (.prod (.prod (.int .i64) (.prod (.int .i64) (.int .i64))) (.prod (.int .i64) (.prod (.int .i64) (.prod (.slice (.prod (.int .i64) (.prod (.int .i64) (.prod (.prod (.int .i64) (.prod (.int .i64) (.int .i64))) (.int .i64))))) (.slice (.prod (.int .i64) (.prod (.int .i64) (.prod (.int .i64) (.prod (.int .i64) (.int .i64))))))))))) true] [.v (.prod (.int .i64) (.prod (.prod (.int .i64) (.prod (.int .i64) (.int .i64))) (.prod (.int .i64) (.prod (.int .i64) (.prod (.own (.prod (.int .i64) (.prod (.int .i64) (.prod (.prod (.int .i64) (.prod (.int .i64) (.int .i64))) (.int .i64))))) (.own (.prod (.int .i64) (.prod (.int .i64) (.prod (.int .i64) (.prod (.int .i64) (.int .i64))))))))))) true] (fun d => T_laws_toSeqWorld N d.1)

def T_laws_toSeqWorld_ann : Nat → List Ghost
  | _ => []

noncomputable def T_laws_toSeqWorld_ctx (N : Nat) : Ctx := [(36, T_laws_toTriple_sg N), (77, T_laws_toSeqReaderS_sg N), (78, T_laws_toSeqReadS_sg N)]

theorem T_laws_toSeqWorld_den (N : Nat) (a1 : Int × (Int × Int × Int) × Int × Int × List (Int × Int × (Int × Int × Int) × Int) × List (Int × Int × Int × Int × Int)) :
    den (R := ODen (T_laws_toSeqWorld_sg N).ps × RDen (T_laws_toSeqWorld_sg N).rs) tab (T_laws_toSeqWorld_ctx N) T_laws_toSeqWorld_ann N (T_laws_toSeqWorld_sg N) Try.f38 (a1, ()) some =
    ((T_laws_toTriple N a1.2.1).bind fun o2 =>
    ((T_laws_toSeqReaderS N a1.2.2.2.2.1).bind fun o3 =>
      ((T_laws_toSeqReadS N a1.2.2.2.2.2).bind fun o4 =>
        (some (α := ODen (T_laws_toSeqWorld_sg N).ps × RDen (T_laws_toSeqWorld_sg N).rs) ((), ((a1.1, (o2.2.1, (a1.2.2.1, (a1.2.2.2.1, (o3.2.1, o4.2.1))))), ())))))) := by kernel_rfl

theorem T_laws_toSeqWorld_ok (N : Nat) : chkBody Try.f38 (T_laws_toSeqWorld_sg N).ps = true := by kernel_rfl

theorem T_laws_toSeqWorld_callable : Callable Try.prog 38 := callable_of Try.func38 (show chkFn Try.f38 = true by kernel_rfl)

theorem T_laws_toSeqWorld_good (N : Nat) : Good Try.prog 38 (T_laws_toSeqWorld_sg N) :=
  good_body mixedOk tabOk (ctx_cons (T_laws_toTriple_good N) T_laws_toTriple_callable (ctx_cons (T_laws_toSeqReaderS_good N) T_laws_toSeqReaderS_callable (ctx_cons (T_laws_toSeqReadS_good N) T_laws_toSeqReadS_callable ctx_nil))) Try.func38 (T_laws_toSeqWorld_ok N) (fun d _ h => ⟨N, (T_laws_toSeqWorld_den N d.1).trans h⟩)

noncomputable def T_spec_l1In_sg (N : Nat) : Sig := Sig.of [.v (.int .i64) false, .v (.int .i64) false, .v (.int .i64) false] [.v (.bool) false] (fun d => T_spec_l1In N d.1 d.2.1 d.2.2.1)

def T_spec_l1In_ann : Nat → List Ghost
  | _ => []

noncomputable def T_spec_l1In_ctx (N : Nat) : Ctx := []

theorem T_spec_l1In_den (N : Nat) (x1 : Int) (low2 : Int) (high3 : Int) :
    den (R := ODen (T_spec_l1In_sg N).ps × RDen (T_spec_l1In_sg N).rs) tab (T_spec_l1In_ctx N) T_spec_l1In_ann N (T_spec_l1In_sg N) Try.f82 (x1, low2, high3, ()) some =
    (bif decide (x1 ≥ low2) then
    (some (α := ODen (T_spec_l1In_sg N).ps × RDen (T_spec_l1In_sg N).rs) ((), (decide (x1 ≤ high3), ())))
    else
    (some (α := ODen (T_spec_l1In_sg N).ps × RDen (T_spec_l1In_sg N).rs) ((), (false, ())))) := by kernel_rfl

theorem T_spec_l1In_ok (N : Nat) : chkBody Try.f82 (T_spec_l1In_sg N).ps = true := by kernel_rfl

theorem T_spec_l1In_callable : Callable Try.prog 82 := callable_of Try.func82 (show chkFn Try.f82 = true by kernel_rfl)

theorem T_spec_l1In_good (N : Nat) : Good Try.prog 82 (T_spec_l1In_sg N) :=
  good_body mixedOk tabOk ctx_nil Try.func82 (T_spec_l1In_ok N) (fun d _ h => ⟨N, (T_spec_l1In_den N d.1 d.2.1 d.2.2.1).trans h⟩)

noncomputable def T_spec_l3Val_sg (N : Nat) : Sig := Sig.of [.v (.int .i64) false] [.v (.bool) false] (fun d => T_spec_l3Val N d.1)

def T_spec_l3Val_ann : Nat → List Ghost
  | _ => []

noncomputable def T_spec_l3Val_ctx (N : Nat) : Ctx := [(82, T_spec_l1In_sg N)]

theorem T_spec_l3Val_den (N : Nat) (v1 : Int) :
    den (R := ODen (T_spec_l3Val_sg N).ps × RDen (T_spec_l3Val_sg N).rs) tab (T_spec_l3Val_ctx N) T_spec_l3Val_ann N (T_spec_l3Val_sg N) Try.f83 (v1, ()) some =
    ((T_spec_l1In N v1 (0 : Int) (65535 : Int)).bind fun o2 =>
    (some (α := ODen (T_spec_l3Val_sg N).ps × RDen (T_spec_l3Val_sg N).rs) ((), (o2.2.1, ())))) := by kernel_rfl

theorem T_spec_l3Val_ok (N : Nat) : chkBody Try.f83 (T_spec_l3Val_sg N).ps = true := by kernel_rfl

theorem T_spec_l3Val_callable : Callable Try.prog 83 := callable_of Try.func83 (show chkFn Try.f83 = true by kernel_rfl)

theorem T_spec_l3Val_good (N : Nat) : Good Try.prog 83 (T_spec_l3Val_sg N) :=
  good_body mixedOk tabOk (ctx_cons (T_spec_l1In_good N) T_spec_l1In_callable ctx_nil) Try.func83 (T_spec_l3Val_ok N) (fun d _ h => ⟨N, (T_spec_l3Val_den N d.1).trans h⟩)

noncomputable def T_spec_l25Ok_sg (N : Nat) : Sig := Sig.of [.v (.prod (.int .i64) (.prod (.int .i64) (.int .i64))) true] [.v (.bool) false] (fun d => T_spec_l25Ok N d.1)

def T_spec_l25Ok_ann : Nat → List Ghost
  | _ => []

noncomputable def T_spec_l25Ok_ctx (N : Nat) : Ctx := [(83, T_spec_l3Val_sg N)]

theorem T_spec_l25Ok_den (N : Nat) (t1 : Int × Int × Int) :
    den (R := ODen (T_spec_l25Ok_sg N).ps × RDen (T_spec_l25Ok_sg N).rs) tab (T_spec_l25Ok_ctx N) T_spec_l25Ok_ann N (T_spec_l25Ok_sg N) Try.f60 (t1, ()) some =
    ((T_spec_l3Val N t1.1).bind fun o2 =>
    (bif o2.2.1 then
      ((T_spec_l3Val N t1.2.1).bind fun o3 =>
        (bif o3.2.1 then
          ((T_spec_l3Val N t1.2.2).bind fun o4 =>
            (some (α := ODen (T_spec_l25Ok_sg N).ps × RDen (T_spec_l25Ok_sg N).rs) ((), (o4.2.1, ()))))
          else
          (some (α := ODen (T_spec_l25Ok_sg N).ps × RDen (T_spec_l25Ok_sg N).rs) ((), (false, ())))))
      else
      (some (α := ODen (T_spec_l25Ok_sg N).ps × RDen (T_spec_l25Ok_sg N).rs) ((), (false, ()))))) := by kernel_rfl

theorem T_spec_l25Ok_ok (N : Nat) : chkBody Try.f60 (T_spec_l25Ok_sg N).ps = true := by kernel_rfl

theorem T_spec_l25Ok_callable : Callable Try.prog 60 := callable_of Try.func60 (show chkFn Try.f60 = true by kernel_rfl)

theorem T_spec_l25Ok_good (N : Nat) : Good Try.prog 60 (T_spec_l25Ok_sg N) :=
  good_body mixedOk tabOk (ctx_cons (T_spec_l3Val_good N) T_spec_l3Val_callable ctx_nil) Try.func60 (T_spec_l25Ok_ok N) (fun d _ h => ⟨N, (T_spec_l25Ok_den N d.1).trans h⟩)

noncomputable def T_spec_TriplesOk_sg (N : Nat) : Sig := Sig.of [.v (.slice (.prod (.int .i64) (.prod (.int .i64) (.int .i64)))) false] [.v (.bool) false] (fun d => T_spec_TriplesOk N d.1)

def T_spec_TriplesOk_ann : Nat → List Ghost
  | 4 => [.canon [0, 3, 10]]
  | 5 => [.canon [0, 3]]
  | 6 => [.canon [0, 3, 18]]
  | 7 => [.canon [2]]
  | 100004 => [.canon [0, 3]]
  | _ => []

noncomputable def T_spec_TriplesOk_ctx (N : Nat) : Ctx := [(60, T_spec_l25Ok_sg N)]

def T_spec_TriplesOk_lp0_sh (l2 : List (Int × Int × Int)) (i3 : Int) : St := { env := [(0, .s (.one (.val (.slice (.prod (.int .i64) (.prod (.int .i64) (.int .i64)))) (l2 : List (Int × Int × Int))))), (3, .s (.one (.val (.int .i64) (i3 : Int))))], objs := [], nx := 0 }

def T_spec_TriplesOk_lp0_e0 (l2 : List (Int × Int × Int)) : St := { env := [(2, .s (.one (.val (.bool) (false : Bool))))], objs := [], nx := 0 }

def T_spec_TriplesOk_lp0_e1 (l2 : List (Int × Int × Int)) (i5 : Int) (t6 : Bool) : St := { env := [(0, .s (.one (.val (.slice (.prod (.int .i64) (.prod (.int .i64) (.int .i64)))) (l2 : List (Int × Int × Int))))), (3, .s (.one (.val (.int .i64) (i5 : Int)))), (10, .s (.one (.val (.bool) (t6 : Bool))))], objs := [], nx := 0 }

noncomputable def T_spec_TriplesOk_lp0_m (N : Nat) {R : Type} (n : Nat) (st : St) (K : Ex → St → Option R) : Option R := loopN (roundG (T_spec_TriplesOk_ann 100004) fun st k => sx tab (T_spec_TriplesOk_ctx N) T_spec_TriplesOk_ann N (nthLoop Try.f25 0) st k) n st K

theorem T_spec_TriplesOk_lp0_step (N : Nat) {R : Type} (n : Nat) (K : Ex → St → Option R) (l2 : List (Int × Int × Int)) (i3 : Int) :
    T_spec_TriplesOk_lp0_m N (n + 1) (T_spec_TriplesOk_lp0_sh l2 i3) K =
    (bif decide (i3 < (ilen l2)) then
    (bif inb i3 (List.length l2) then
      ((T_spec_l25Ok N (List.getD l2 (Int.toNat i3) ((0 : Int), ((0 : Int), (0 : Int))))).bind fun o7 =>
        (bif !o7.2.1 then
          (K .ret (T_spec_TriplesOk_lp0_e0 l2))
          else
          (T_spec_TriplesOk_lp0_m N n (T_spec_TriplesOk_lp0_sh l2 (iadd .i64 i3 (1 : Int))) K))) else none)
    else
    (K (.exit 0) (T_spec_TriplesOk_lp0_e1 l2 i3 (decide (i3 < (ilen l2)))))) := by kernel_rfl

theorem T_spec_TriplesOk_lp0_eq (N : Nat) {R : Type} (l2 : List (Int × Int × Int)) (K : Ex → St → Option R) : ∀ (n : Nat) (i3 : Int), T_spec_TriplesOk_lp0_m N n (T_spec_TriplesOk_lp0_sh l2 i3) K = T_spec_TriplesOk_lp0 N l2 (K .ret (T_spec_TriplesOk_lp0_e0 l2)) (fun i5 t6 => (K (.exit 0) (T_spec_TriplesOk_lp0_e1 l2 i5 t6))) n i3
  | 0, _ => rfl
  | n + 1, i3 => by rw [T_spec_TriplesOk_lp0_step, T_spec_TriplesOk_lp0]; (try simp only [T_spec_TriplesOk_lp0_eq N l2 K n])

theorem T_spec_TriplesOk_c1 (N : Nat) (l1 : List (Int × Int × Int)) :
    ((ctxK (R := ODen (T_spec_TriplesOk_sg N).ps × RDen (T_spec_TriplesOk_sg N).rs) tab (T_spec_TriplesOk_ctx N) T_spec_TriplesOk_ann N (theCode Try.f25) [1, 1, 0, 1, 0] (retK tab (T_spec_TriplesOk_sg N) Try.f25.results.toList some)) .ret (T_spec_TriplesOk_lp0_e0 l1)) =
    (some (α := ODen (T_spec_TriplesOk_sg N).ps × RDen (T_spec_TriplesOk_sg N).rs) ((), (false, ()))) := by kernel_rfl

theorem T_spec_TriplesOk_c2 (N : Nat) (l1 : List (Int × Int × Int)) (i8 : Int) (t9 : Bool) :
    ((ctxK (R := ODen (T_spec_TriplesOk_sg N).ps × RDen (T_spec_TriplesOk_sg N).rs) tab (T_spec_TriplesOk_ctx N) T_spec_TriplesOk_ann N (theCode Try.f25) [1, 1, 0, 1, 0] (retK tab (T_spec_TriplesOk_sg N) Try.f25.results.toList some)) (.exit 0) (T_spec_TriplesOk_lp0_e1 l1 i8 t9)) =
    (some (α := ODen (T_spec_TriplesOk_sg N).ps × RDen (T_spec_TriplesOk_sg N).rs) ((), (true, ()))) := by kernel_rfl

theorem T_spec_TriplesOk_den (N : Nat) (l1 : List (Int × Int × Int)) :
    den (R := ODen (T_spec_TriplesOk_sg N).ps × RDen (T_spec_TriplesOk_sg N).rs) tab (T_spec_TriplesOk_ctx N) T_spec_TriplesOk_ann N (T_spec_TriplesOk_sg N) Try.f25 (l1, ()) some =
    (bif decide ((ilen l1) > (20 : Int)) then
    (some (α := ODen (T_spec_TriplesOk_sg N).ps × RDen (T_spec_TriplesOk_sg N).rs) ((), (false, ())))
    else
    (T_spec_TriplesOk_lp0 N l1
      (some (α := ODen (T_spec_TriplesOk_sg N).ps × RDen (T_spec_TriplesOk_sg N).rs) ((), (false, ())))
      (fun i8 t9 =>
        (some (α := ODen (T_spec_TriplesOk_sg N).ps × RDen (T_spec_TriplesOk_sg N).rs) ((), (true, ()))))
       N (0 : Int))) := by
  have h : den (R := ODen (T_spec_TriplesOk_sg N).ps × RDen (T_spec_TriplesOk_sg N).rs) tab (T_spec_TriplesOk_ctx N) T_spec_TriplesOk_ann N (T_spec_TriplesOk_sg N) Try.f25 (l1, ()) some =
    (bif decide ((ilen l1) > (20 : Int)) then
    (some (α := ODen (T_spec_TriplesOk_sg N).ps × RDen (T_spec_TriplesOk_sg N).rs) ((), (false, ())))
    else
    (T_spec_TriplesOk_lp0_m N N (T_spec_TriplesOk_lp0_sh l1 (0 : Int)) (ctxK (R := ODen (T_spec_TriplesOk_sg N).ps × RDen (T_spec_TriplesOk_sg N).rs) tab (T_spec_TriplesOk_ctx N) T_spec_TriplesOk_ann N (theCode Try.f25) [1, 1, 0, 1, 0] (retK tab (T_spec_TriplesOk_sg N) Try.f25.results.toList some)))) := by kernel_rfl
  rw [h]
  (try simp only [T_spec_TriplesOk_lp0_eq, T_spec_TriplesOk_c1, T_spec_TriplesOk_c2]) <;> rfl

theorem T_spec_TriplesOk_ok (N : Nat) : chkBody Try.f25 (T_spec_TriplesOk_sg N).ps = true := by kernel_rfl

theorem T_spec_TriplesOk_callable : Callable Try.prog 25 := callable_of Try.func25 (show chkFn Try.f25 = true by kernel_rfl)

theorem T_spec_TriplesOk_good (N : Nat) : Good Try.prog 25 (T_spec_TriplesOk_sg N) :=
  good_body mixedOk tabOk (ctx_cons (T_spec_l25Ok_good N) T_spec_l25Ok_callable ctx_nil) Try.func25 (T_spec_TriplesOk_ok N) (fun d _ h => ⟨N, (T_spec_TriplesOk_den N d.1).trans h⟩)

noncomputable def T_spec_SeqValue_sg (N : Nat) : Sig := Sig.of [.v (.prod (.int .i64) (.prod (.int .i64) (.int .i64))) true, .v (.slice (.prod (.int .i64) (.prod (.int .i64) (.int .i64)))) false, .v (.int .i64) false] [.v (.prod (.int .i64) (.prod (.int .i64) (.int .i64))) true, .v (.bool) false] (fun d => T_spec_SeqValue N d.1 d.2.1 d.2.2.1)

def T_spec_SeqValue_ann : Nat → List Ghost
  | _ => []

noncomputable def T_spec_SeqValue_ctx (N : Nat) : Ctx := [(60, T_spec_l25Ok_sg N), (25, T_spec_TriplesOk_sg N), (82, T_spec_l1In_sg N)]

theorem T_spec_SeqValue_den (N : Nat) (start1 : Int × Int × Int) (l2 : List (Int × Int × Int)) (seq3 : Int) :
    den (R := ODen (T_spec_SeqValue_sg N).ps × RDen (T_spec_SeqValue_sg N).rs) tab (T_spec_SeqValue_ctx N) T_spec_SeqValue_ann N (T_spec_SeqValue_sg N) Try.f61 (start1, l2, seq3, ()) some =
    ((T_spec_l25Ok N start1).bind fun o4 =>
    (bif !o4.2.1 then
      (some (α := ODen (T_spec_SeqValue_sg N).ps × RDen (T_spec_SeqValue_sg N).rs) ((), (((0 : Int), ((0 : Int), (0 : Int))), (false, ()))))
      else
      ((T_spec_TriplesOk N l2).bind fun o5 =>
        (bif !o5.2.1 then
          (some (α := ODen (T_spec_SeqValue_sg N).ps × RDen (T_spec_SeqValue_sg N).rs) ((), (((0 : Int), ((0 : Int), (0 : Int))), (false, ()))))
          else
          ((T_spec_l1In N seq3 (0 : Int) (imul .i64 (2 : Int) (ilen l2))).bind fun o6 =>
            (bif !o6.2.1 then
              (some (α := ODen (T_spec_SeqValue_sg N).ps × RDen (T_spec_SeqValue_sg N).rs) ((), (((0 : Int), ((0 : Int), (0 : Int))), (false, ()))))
              else
              (bif inz (2 : Int) then
                (bif (irem seq3 (2 : Int)) == (1 : Int) then
                  (some (α := ODen (T_spec_SeqValue_sg N).ps × RDen (T_spec_SeqValue_sg N).rs) ((), (((0 : Int), ((0 : Int), (0 : Int))), (false, ()))))
                  else
                  (bif seq3 == (0 : Int) then
                    (some (α := ODen (T_spec_SeqValue_sg N).ps × RDen (T_spec_SeqValue_sg N).rs) ((), (start1, (true, ()))))
                    else
                    (bif inz (2 : Int) then
                      (bif inb (isub .i64 (iquo .i64 seq3 (2 : Int)) (1 : Int)) (List.length l2) then
                        (some (α := ODen (T_spec_SeqValue_sg N).ps × RDen (T_spec_SeqValue_sg N).rs) ((), (List.getD l2 (Int.toNat (isub .i64 (iquo .i64 seq3 (2 : Int)) (1 : Int))) ((0 : Int), ((0 : Int), (0 : Int))), (true, ())))) else none) else none))) else none))))))) := by kernel_rfl

theorem T_spec_SeqValue_ok (N : Nat) : chkBody Try.f61 (T_spec_SeqValue_sg N).ps = true := by kernel_rfl

theorem T_spec_SeqValue_callable : Callable Try.prog 61 := callable_of Try.func61 (show chkFn Try.f61 = true by kernel_rfl)

theorem T_spec_SeqValue_good (N : Nat) : Good Try.prog 61 (T_spec_SeqValue_sg N) :=
  good_body mixedOk tabOk (ctx_cons (T_spec_l25Ok_good N) T_spec_l25Ok_callable (ctx_cons (T_spec_TriplesOk_good N) T_spec_TriplesOk_callable (ctx_cons (T_spec_l1In_good N) T_spec_l1In_callable ctx_nil))) Try.func61 (T_spec_SeqValue_ok N) (fun d _ h => ⟨N, (T_spec_SeqValue_den N d.1 d.2.1 d.2.2.1).trans h⟩)

noncomputable def T_spec_SeqTrue_sg (N : Nat) : Sig := Sig.of [.v (.prod (.int .i64) (.prod (.int .i64) (.int .i64))) true, .v (.slice (.prod (.int .i64) (.prod (.int .i64) (.int .i64)))) false, .v (.prod (.int .i64) (.prod (.prod (.int .i64) (.prod (.int .i64) (.int .i64))) (.prod (.int .i64) (.prod (.int .i64) (.prod (.slice (.prod (.int .i64) (.prod (.int .i64) (.prod (.prod (.int .i64) (.prod (.int .i64) (.int .i64))) (.int .i64))))) (.slice (.prod (.int .i64) (.prod (.int .i64) (.prod (.int .i64) (.prod (.int .i64) (.int .i64))))))))))) true] [.v (.bool) false] (fun d => T_spec_SeqTrue N d.1 d.2.1 d.2.2.1)

def T_spec_SeqTrue_ann : Nat → List Ghost
  | 2 => [.canon [1, 3, 5, 7, 15]]
  | 3 => [.canon [1, 3, 5, 7]]
  | 4 => [.canon [1, 3, 5, 7, 8, 9]]
  | 5 => [.canon [1, 3, 5, 7, 41]]
  | 6 => [.canon [6]]
  | 7 => [.canon [1, 3, 5, 7, 10]]
  | 8 => [.canon [1, 3, 5, 7, 10, 44]]
  | 9 => [.canon [1, 3, 5, 7, 10]]
  | 10 => [.canon [1, 3, 5, 7, 10, 59]]
  | 11 => [.canon [6]]
  | 100002 => [.canon [1, 3, 5, 7]]
  | 100008 => [.canon [1, 3, 5, 7, 10]]
  | _ => []

noncomputable def T_spec_SeqTrue_ctx (N : Nat) : Ctx := [(61, T_spec_SeqValue_sg N)]

def T_spec_SeqTrue_lp1_sh (l9 : List (Int × Int × Int)) (i10 : Int) (k11 : Int) (b12 : Int × Int × Int) (b13 : Int × (Int × Int × Int) × Int × Int × List (Int × Int × (Int × Int × Int) × Int) × List (Int × Int × Int × Int × Int)) : St := { env := [(1, .s (.one (.val (.slice (.prod (.int .i64) (.prod (.int .i64) (.int .i64)))) (l9 : List (Int × Int × Int))))), (3, .s (.one (.ptr 0 0))), (5, .s (.one (.ptr 1 0))), (7, .s (.one (.val (.int .i64) (i10 : Int)))), (10, .s (.one (.val (.int .i64) (k11 : Int))))], objs := [(0, .box [.val (.int .i64) (b12.1 : Int), .val (.int .i64) (b12.2.1 : Int), .val (.int .i64) (b12.2.2 : Int)]), (1, .box [.val (.int .i64) (b13.1 : Int), .val (.int .i64) (b13.2.1.1 : Int), .val (.int .i64) (b13.2.1.2.1 : Int), .val (.int .i64) (b13.2.1.2.2 : Int), .val (.int .i64) (b13.2.2.1 : Int), .val (.int .i64) (b13.2.2.2.1 : Int), .val (.slice (.prod (.int .i64) (.prod (.int .i64) (.prod (.prod (.int .i64) (.prod (.int .i64) (.int .i64))) (.int .i64))))) (b13.2.2.2.2.1 : List (Int × Int × (Int × Int × Int) × Int)), .val (.slice (.prod (.int .i64) (.prod (.int .i64) (.prod (.int .i64) (.prod (.int .i64) (.int .i64)))))) (b13.2.2.2.2.2 : List (Int × Int × Int × Int × Int))])], nx := 2 }

def T_spec_SeqTrue_lp1_e0 (l9 : List (Int × Int × Int)) (i10 : Int) (b12 : Int × Int × Int) (b13 : Int × (Int × Int × Int) × Int × Int × List (Int × Int × (Int × Int × Int) × Int) × List (Int × Int × Int × Int × Int)) : St := { env := [(6, .s (.one (.val (.bool) (false : Bool))))], objs := [], nx := 0 }

def T_spec_SeqTrue_lp1_e1 (l9 : List (Int × Int × Int)) (i10 : Int) (b12 : Int × Int × Int) (b13 : Int × (Int × Int × Int) × Int × Int × List (Int × Int × (Int × Int × Int) × Int) × List (Int × Int × Int × Int × Int)) (k14 : Int) (t15 : Bool) : St := { env := [(1, .s (.one (.val (.slice (.prod (.int .i64) (.prod (.int .i64) (.int .i64)))) (l9 : List (Int × Int × Int))))), (3, .s (.one (.ptr 0 0))), (5, .s (.one (.ptr 1 0))), (7, .s (.one (.val (.int .i64) (i10 : Int)))), (10, .s (.one (.val (.int .i64) (k14 : Int)))), (44, .s (.one (.val (.bool) (t15 : Bool))))], objs := [(0, .box [.val (.int .i64) (b12.1 : Int), .val (.int .i64) (b12.2.1 : Int), .val (.int .i64) (b12.2.2 : Int)]), (1, .box [.val (.int .i64) (b13.1 : Int), .val (.int .i64) (b13.2.1.1 : Int), .val (.int .i64) (b13.2.1.2.1 : Int), .val (.int .i64) (b13.2.1.2.2 : Int), .val (.int .i64) (b13.2.2.1 : Int), .val (.int .i64) (b13.2.2.2.1 : Int), .val (.slice (.prod (.int .i64) (.prod (.int .i64) (.prod (.prod (.int .i64) (.prod (.int .i64) (.int .i64))) (.int .i64))))) (b13.2.2.2.2.1 : List (Int × Int × (Int × Int × Int) × Int)), .val (.slice (.prod (.int .i64) (.prod (.int .i64) (.prod (.int .i64) (.prod (.int .i64) (.int .i64)))))) (b13.2.2.2.2.2 : List (Int × Int × Int × Int × Int))])], nx := 2 }

noncomputable def T_spec_SeqTrue_lp1_m (N : Nat) {R : Type} (n : Nat) (st : St) (K : Ex → St → Option R) : Option R := loopN (roundG (T_spec_SeqTrue_ann 100008) fun st k => sx tab (T_spec_SeqTrue_ctx N) T_spec_SeqTrue_ann N (nthLoop Try.f26 1) st k) n st K

theorem T_spec_SeqTrue_lp1_step (N : Nat) {R : Type} (n : Nat) (K : Ex → St → Option R) (l9 : List (Int × Int × Int)) (i10 : Int) (k11 : Int) (b12 : Int × Int × Int) (b13 : Int × (Int × Int × Int) × Int × Int × List (Int × Int × (Int × Int × Int) × Int) × List (Int × Int × Int × Int × Int)) :
    T_spec_SeqTrue_lp1_m N (n + 1) (T_spec_SeqTrue_lp1_sh l9 i10 k11 b12 b13) K =
    (bif decide (k11 < i10) then
    (bif inb k11 (List.length b13.2.2.2.2.2) then
      (bif inb i10 (List.length b13.2.2.2.2.2) then
        (bif decide ((List.getD b13.2.2.2.2.2 (Int.toNat k11) ((0 : Int), ((0 : Int), ((0 : Int), ((0 : Int), (0 : Int)))))).2.1 > (List.getD b13.2.2.2.2.2 (Int.toNat i10) ((0 : Int), ((0 : Int), ((0 : Int), ((0 : Int), (0 : Int)))))).2.1) then
          (K .ret (T_spec_SeqTrue_lp1_e0 l9 i10 b12 b13))
          else
          (T_spec_SeqTrue_lp1_m N n (T_spec_SeqTrue_lp1_sh l9 i10 (iadd .i64 k11 (1 : Int)) b12 b13) K)) else none) else none)
    else
    (K (.exit 2) (T_spec_SeqTrue_lp1_e1 l9 i10 b12 b13 k11 (decide (k11 < i10))))) := by kernel_rfl

theorem T_spec_SeqTrue_lp1_eq (N : Nat) {R : Type} (l9 : List (Int × Int × Int)) (i10 : Int) (b12 : Int × Int × Int) (b13 : Int × (Int × Int × Int) × Int × Int × List (Int × Int × (Int × Int × Int) × Int) × List (Int × Int × Int × Int × Int)) (K : Ex → St → Option R) : ∀ (n : Nat) (k11 : Int), T_spec_SeqTrue_lp1_m N n (T_spec_SeqTrue_lp1_sh l9 i10 k11 b12 b13) K = T_spec_SeqTrue_lp1 N l9 i10 b12 b13 (K .ret (T_spec_SeqTrue_lp1_e0 l9 i10 b12 b13)) (fun k14 t15 => (K (.exit 2) (T_spec_SeqTrue_lp1_e1 l9 i10 b12 b13 k14 t15))) n k11
  | 0, _ => rfl
  | n + 1, k11 => by rw [T_spec_SeqTrue_lp1_step, T_spec_SeqTrue_lp1]; (try simp only [T_spec_SeqTrue_lp1_eq N l9 i10 b12 b13 K n])

def T_spec_SeqTrue_lp0_sh (l4 : List (Int × Int × Int)) (i5 : Int) (b6 : Int × Int × Int) (b7 : Int × (Int × Int × Int) × Int × Int × List (Int × Int × (Int × Int × Int) × Int) × List (Int × Int × Int × Int × Int)) : St := { env := [(1, .s (.one (.val (.slice (.prod (.int .i64) (.prod (.int .i64) (.int .i64)))) (l4 : List (Int × Int × Int))))), (3, .s (.one (.ptr 0 0))), (5, .s (.one (.ptr 1 0))), (7, .s (.one (.val (.int .i64) (i5 : Int))))], objs := [(0, .box [.val (.int .i64) (b6.1 : Int), .val (.int .i64) (b6.2.1 : Int), .val (.int .i64) (b6.2.2 : Int)]), (1, .box [.val (.int .i64) (b7.1 : Int), .val (.int .i64) (b7.2.1.1 : Int), .val (.int .i64) (b7.2.1.2.1 : Int), .val (.int .i64) (b7.2.1.2.2 : Int), .val (.int .i64) (b7.2.2.1 : Int), .val (.int .i64) (b7.2.2.2.1 : Int), .val (.slice (.prod (.int .i64) (.prod (.int .i64) (.prod (.prod (.int .i64) (.prod (.int .i64) (.int .i64))) (.int .i64))))) (b7.2.2.2.2.1 : List (Int × Int × (Int × Int × Int) × Int)), .val (.slice (.prod (.int .i64) (.prod (.int .i64) (.prod (.int .i64) (.prod (.int .i64) (.int .i64)))))) (b7.2.2.2.2.2 : List (Int × Int × Int × Int × Int))])], nx := 2 }

def T_spec_SeqTrue_lp0_e0 (l4 : List (Int × Int × Int)) (b6 : Int × Int × Int) (b7 : Int × (Int × Int × Int) × Int × Int × List (Int × Int × (Int × Int × Int) × Int) × List (Int × Int × Int × Int × Int)) : St := { env := [(6, .s (.one (.val (.bool) (false : Bool))))], objs := [], nx := 0 }

def T_spec_SeqTrue_lp0_e1 (l4 : List (Int × Int × Int)) (b6 : Int × Int × Int) (b7 : Int × (Int × Int × Int) × Int × Int × List (Int × Int × (Int × Int × Int) × Int) × List (Int × Int × Int × Int × Int)) (i21 : Int) (t22 : Bool) : St := { env := [(1, .s (.one (.val (.slice (.prod (.int .i64) (.prod (.int .i64) (.int .i64)))) (l4 : List (Int × Int × Int))))), (3, .s (.one (.ptr 0 0))), (5, .s (.one (.ptr 1 0))), (7, .s (.one (.val (.int .i64) (i21 : Int)))), (15, .s (.one (.val (.bool) (t22 : Bool))))], objs := [(0, .box [.val (.int .i64) (b6.1 : Int), .val (.int .i64) (b6.2.1 : Int), .val (.int .i64) (b6.2.2 : Int)]), (1, .box [.val (.int .i64) (b7.1 : Int), .val (.int .i64) (b7.2.1.1 : Int), .val (.int .i64) (b7.2.1.2.1 : Int), .val (.int .i64) (b7.2.1.2.2 : Int), .val (.int .i64) (b7.2.2.1 : Int), .val (.int .i64) (b7.2.2.2.1 : Int), .val (.slice (.prod (.int .i64) (.prod (.int .i64) (.prod (.prod (.int .i64) (.prod (.int .i64) (.int .i64))) (.int .i64))))) (b7.2.2.2.2.1 : List (Int × Int × (Int × Int × Int) × Int)), .val (.slice (.prod (.int .i64) (.prod (.int .i64) (.prod (.int .i64) (.prod (.int .i64) (.int .i64)))))) (b7.2.2.2.2.2 : List (Int × Int × Int × Int × Int))])], nx := 2 }

noncomputable def T_spec_SeqTrue_lp0_m (N : Nat) {R : Type} (n : Nat) (st : St) (K : Ex → St → Option R) : Option R := loopN (roundG (T_spec_SeqTrue_ann 100002) fun st k => sx tab (T_spec_SeqTrue_ctx N) T_spec_SeqTrue_ann N (nthLoop Try.f26 0) st k) n st K

theorem T_spec_SeqTrue_c1 (N : Nat) {R : Type} (n : Nat) (K : Ex → St → Option R) (l4 : List (Int × Int × Int)) (i5 : Int) (b6 : Int × Int × Int) (b7 : Int × (Int × Int × Int) × Int × Int × List (Int × Int × (Int × Int × Int) × Int) × List (Int × Int × Int × Int × Int)) :
    ((ctxK tab (T_spec_SeqTrue_ctx N) T_spec_SeqTrue_ann N (nthLoop Try.f26 0) [1, 0, 0, 1, 1, 1, 0] (backK (T_spec_SeqTrue_ann 100002) (T_spec_SeqTrue_lp0_m N n) K)) .ret (T_spec_SeqTrue_lp1_e0 l4 i5 b6 b7)) =
    (K .ret (T_spec_SeqTrue_lp0_e0 l4 b6 b7)) := by kernel_rfl

theorem T_spec_SeqTrue_c2 (N : Nat) {R : Type} (n : Nat) (K : Ex → St → Option R) (l4 : List (Int × Int × Int)) (i5 : Int) (b6 : Int × Int × Int) (b7 : Int × (Int × Int × Int) × Int × Int × List (Int × Int × (Int × Int × Int) × Int) × List (Int × Int × Int × Int × Int)) (k24 : Int) (t25 : Bool) :
    ((ctxK tab (T_spec_SeqTrue_ctx N) T_spec_SeqTrue_ann N (nthLoop Try.f26 0) [1, 0, 0, 1, 1, 1, 0] (backK (T_spec_SeqTrue_ann 100002) (T_spec_SeqTrue_lp0_m N n) K)) (.exit 2) (T_spec_SeqTrue_lp1_e1 l4 i5 b6 b7 k24 t25)) =
    (T_spec_SeqTrue_lp0_m N n (T_spec_SeqTrue_lp0_sh l4 (iadd .i64 i5 (1 : Int)) b6 b7) K) := by kernel_rfl

theorem T_spec_SeqTrue_c3 (N : Nat) {R : Type} (n : Nat) (K : Ex → St → Option R) (l4 : List (Int × Int × Int)) (i5 : Int) (b6 : Int × Int × Int) (b7 : Int × (Int × Int × Int) × Int × Int × List (Int × Int × (Int × Int × Int) × Int) × List (Int × Int × Int × Int × Int)) :
    ((ctxK tab (T_spec_SeqTrue_ctx N) T_spec_SeqTrue_ann N (nthLoop Try.f26 0) [1, 0, 0, 1, 1, 1, 0] (backK (T_spec_SeqTrue_ann 100002) (T_spec_SeqTrue_lp0_m N n) K)) .ret (T_spec_SeqTrue_lp1_e0 l4 i5 b6 b7)) =
    (K .ret (T_spec_SeqTrue_lp0_e0 l4 b6 b7)) := by kernel_rfl

theorem T_spec_SeqTrue_c4 (N : Nat) {R : Type} (n : Nat) (K : Ex → St → Option R) (l4 : List (Int × Int × Int)) (i5 : Int) (b6 : Int × Int × Int) (b7 : Int × (Int × Int × Int) × Int × Int × List (Int × Int × (Int × Int × Int) × Int) × List (Int × Int × Int × Int × Int)) (k27 : Int) (t28 : Bool) :
    ((ctxK tab (T_spec_SeqTrue_ctx N) T_spec_SeqTrue_ann N (nthLoop Try.f26 0) [1, 0, 0, 1, 1, 1, 0] (backK (T_spec_SeqTrue_ann 100002) (T_spec_SeqTrue_lp0_m N n) K)) (.exit 2) (T_spec_SeqTrue_lp1_e1 l4 i5 b6 b7 k27 t28)) =
    (T_spec_SeqTrue_lp0_m N n (T_spec_SeqTrue_lp0_sh l4 (iadd .i64 i5 (1 : Int)) b6 b7) K) := by kernel_rfl

theorem T_spec_SeqTrue_lp0_step (N : Nat) {R : Type} (n : Nat) (K : Ex → St → Option R) (l4 : List (Int × Int × Int)) (i5 : Int) (b6 : Int × Int × Int) (b7 : Int × (Int × Int × Int) × Int × Int × List (Int × Int × (Int × Int × Int) × Int) × List (Int × Int × Int × Int × Int)) :
    T_spec_SeqTrue_lp0_m N (n + 1) (T_spec_SeqTrue_lp0_sh l4 i5 b6 b7) K =
    (bif decide (i5 < (ilen b7.2.2.2.2.2)) then
    (both
      (bif inb i5 (List.length b7.2.2.2.2.2) then
        ((T_spec_SeqValue N b6 l4 (List.getD b7.2.2.2.2.2 (Int.toNat i5) ((0 : Int), ((0 : Int), ((0 : Int), ((0 : Int), (0 : Int)))))).2.1).bind fun o23 =>
          (bif !o23.2.2.1 then
            (K .ret (T_spec_SeqTrue_lp0_e0 l4 b6 b7))
            else
            (bif inb i5 (List.length b7.2.2.2.2.2) then
              (bif !((ieq o23.2.1.1 (List.getD b7.2.2.2.2.2 (Int.toNat i5) ((0 : Int), ((0 : Int), ((0 : Int), ((0 : Int), (0 : Int)))))).2.2.1) && ((ieq o23.2.1.2.1 (List.getD b7.2.2.2.2.2 (Int.toNat i5) ((0 : Int), ((0 : Int), ((0 : Int), ((0 : Int), (0 : Int)))))).2.2.2.1) && ((ieq o23.2.1.2.2 (List.getD b7.2.2.2.2.2 (Int.toNat i5) ((0 : Int), ((0 : Int), ((0 : Int), ((0 : Int), (0 : Int)))))).2.2.2.2) && true))) then
                (K .ret (T_spec_SeqTrue_lp0_e0 l4 b6 b7))
                else
                (T_spec_SeqTrue_lp1 N l4 i5 b6 b7
                  (K .ret (T_spec_SeqTrue_lp0_e0 l4 b6 b7))
                  (fun k24 t25 =>
                    (T_spec_SeqTrue_lp0_m N n (T_spec_SeqTrue_lp0_sh l4 (iadd .i64 i5 (1 : Int)) b6 b7) K))
                   N (0 : Int))) else none))) else none)
      (bif inb i5 (List.length b7.2.2.2.2.2) then
        ((T_spec_SeqValue N b6 l4 (List.getD b7.2.2.2.2.2 (Int.toNat i5) ((0 : Int), ((0 : Int), ((0 : Int), ((0 : Int), (0 : Int)))))).2.1).bind fun o26 =>
          (bif !o26.2.2.1 then
            (K .ret (T_spec_SeqTrue_lp0_e0 l4 b6 b7))
            else
            (bif inb i5 (List.length b7.2.2.2.2.2) then
              (bif !((ieq o26.2.1.1 (List.getD b7.2.2.2.2.2 (Int.toNat i5) ((0 : Int), ((0 : Int), ((0 : Int), ((0 : Int), (0 : Int)))))).2.2.1) && ((ieq o26.2.1.2.1 (List.getD b7.2.2.2.2.2 (Int.toNat i5) ((0 : Int), ((0 : Int), ((0 : Int), ((0 : Int), (0 : Int)))))).2.2.2.1) && ((ieq o26.2.1.2.2 (List.getD b7.2.2.2.2.2 (Int.toNat i5) ((0 : Int), ((0 : Int), ((0 : Int), ((0 : Int), (0 : Int)))))).2.2.2.2) && true))) then
                (K .ret (T_spec_SeqTrue_lp0_e0 l4 b6 b7))
                else
                (T_spec_SeqTrue_lp1 N l4 i5 b6 b7
                  (K .ret (T_spec_SeqTrue_lp0_e0 l4 b6 b7))
                  (fun k27 t28 =>
                    (T_spec_SeqTrue_lp0_m N n (T_spec_SeqTrue_lp0_sh l4 (iadd .i64 i5 (1 : Int)) b6 b7) K))
                   N (0 : Int))) else none))) else none))
    else
    (K (.exit 0) (T_spec_SeqTrue_lp0_e1 l4 b6 b7 i5 (decide (i5 < (ilen b7.2.2.2.2.2)))))) := by
  have h : T_spec_SeqTrue_lp0_m N (n + 1) (T_spec_SeqTrue_lp0_sh l4 i5 b6 b7) K =
    (bif decide (i5 < (ilen b7.2.2.2.2.2)) then
    (both
      (bif inb i5 (List.length b7.2.2.2.2.2) then
        ((T_spec_SeqValue N b6 l4 (List.getD b7.2.2.2.2.2 (Int.toNat i5) ((0 : Int), ((0 : Int), ((0 : Int), ((0 : Int), (0 : Int)))))).2.1).bind fun o23 =>
          (bif !o23.2.2.1 then
            (K .ret (T_spec_SeqTrue_lp0_e0 l4 b6 b7))
            else
            (bif inb i5 (List.length b7.2.2.2.2.2) then
              (bif !((ieq o23.2.1.1 (List.getD b7.2.2.2.2.2 (Int.toNat i5) ((0 : Int), ((0 : Int), ((0 : Int), ((0 : Int), (0 : Int)))))).2.2.1) && ((ieq o23.2.1.2.1 (List.getD b7.2.2.2.2.2 (Int.toNat i5) ((0 : Int), ((0 : Int), ((0 : Int), ((0 : Int), (0 : Int)))))).2.2.2.1) && ((ieq o23.2.1.2.2 (List.getD b7.2.2.2.2.2 (Int.toNat i5) ((0 : Int), ((0 : Int), ((0 : Int), ((0 : Int), (0 : Int)))))).2.2.2.2) && true))) then
                (K .ret (T_spec_SeqTrue_lp0_e0 l4 b6 b7))
                else
                (T_spec_SeqTrue_lp1_m N N (T_spec_SeqTrue_lp1_sh l4 i5 (0 : Int) b6 b7) (ctxK tab (T_spec_SeqTrue_ctx N) T_spec_SeqTrue_ann N (nthLoop Try.f26 0) [1, 0, 0, 1, 1, 1, 0] (backK (T_spec_SeqTrue_ann 100002) (T_spec_SeqTrue_lp0_m N n) K)))) else none))) else none)
      (bif inb i5 (List.length b7.2.2.2.2.2) then
        ((T_spec_SeqValue N b6 l4 (List.getD b7.2.2.2.2.2 (Int.toNat i5) ((0 : Int), ((0 : Int), ((0 : Int), ((0 : Int), (0 : Int)))))).2.1).bind fun o26 =>
          (bif !o26.2.2.1 then
            (K .ret (T_spec_SeqTrue_lp0_e0 l4 b6 b7))
            else
            (bif inb i5 (List.length b7.2.2.2.2.2) then
              (bif !((ieq o26.2.1.1 (List.getD b7.2.2.2.2.2 (Int.toNat i5) ((0 : Int), ((0 : Int), ((0 : Int), ((0 : Int), (0 : Int)))))).2.2.1) && ((ieq o26.2.1.2.1 (List.getD b7.2.2.2.2.2 (Int.toNat i5) ((0 : Int), ((0 : Int), ((0 : Int), ((0 : Int), (0 : Int)))))).2.2.2.1) && ((ieq o26.2.1.2.2 (List.getD b7.2.2.2.2.2 (Int.toNat i5) ((0 : Int), ((0 : Int), ((0 : Int), ((0 : Int), (0 : Int)))))).2.2.2.2) && true))) then
                (K .ret (T_spec_SeqTrue_lp0_e0 l4 b6 b7))
                else
                (T_spec_SeqTrue_lp1_m N N (T_spec_SeqTrue_lp1_sh l4 i5 (0 : Int) b6 b7) (ctxK tab (T_spec_SeqTrue_ctx N) T_spec_SeqTrue_ann N (nthLoop Try.f26 0) [1, 0, 0, 1, 1, 1, 0] (backK (T_spec_SeqTrue_ann 100002) (T_spec_SeqTrue_lp0_m N n) K)))) else none))) else none))
    else
    (K (.exit 0) (T_spec_SeqTrue_lp0_e1 l4 b6 b7 i5 (decide (i5 < (ilen b7.2.2.2.2.2)))))) := by kernel_rfl
  rw [h]
  (try simp only [T_spec_SeqTrue_lp1_eq, T_spec_SeqTrue_c1, T_spec_SeqTrue_c2, T_spec_SeqTrue_c3, T_spec_SeqTrue_c4]) <;> rfl

theorem T_spec_SeqTrue_lp0_eq (N : Nat) {R : Type} (l4 : List (Int × Int × Int)) (b6 : Int × Int × Int) (b7 : Int × (Int × Int × Int) × Int × Int × List (Int × Int × (Int × Int × Int) × Int) × List (Int × Int × Int × Int × Int)) (K : Ex → St → Option R) : ∀ (n : Nat) (i5 : Int), T_spec_SeqTrue_lp0_m N n (T_spec_SeqTrue_lp0_sh l4 i5 b6 b7) K = T_spec_SeqTrue_lp0 N l4 b6 b7 (K .ret (T_spec_SeqTrue_lp0_e0 l4 b6 b7)) (fun i21 t22 => (K (.exit 0) (T_spec_SeqTrue_lp0_e1 l4 b6 b7 i21 t22))) n i5
  | 0, _ => rfl
  | n + 1, i5 => by rw [T_spec_SeqTrue_lp0_step, T_spec_SeqTrue_lp0]; (try simp only [T_spec_SeqTrue_lp0_eq N l4 b6 b7 K n])

theorem T_spec_SeqTrue_c5 (N : Nat) (l2 : List (Int × Int × Int)) (start1 : Int × Int × Int) (w3 : Int × (Int × Int × Int) × Int × Int × List (Int × Int × (Int × Int × Int) × Int) × List (Int × Int × Int × Int × Int)) :
    ((ctxK (R := ODen (T_spec_SeqTrue_sg N).ps × RDen (T_spec_SeqTrue_sg N).rs) tab (T_spec_SeqTrue_ctx N) T_spec_SeqTrue_ann N (theCode Try.f26) [1, 0, 1, 0] (retK tab (T_spec_SeqTrue_sg N) Try.f26.results.toList some)) .ret (T_spec_SeqTrue_lp0_e0 l2 start1 w3)) =
    (some (α := ODen (T_spec_SeqTrue_sg N).ps × RDen (T_spec_SeqTrue_sg N).rs) ((), (false, ()))) := by kernel_rfl

theorem T_spec_SeqTrue_c6 (N : Nat) (l2 : List (Int × Int × Int)) (start1 : Int × Int × Int) (w3 : Int × (Int × Int × Int) × Int × Int × List (Int × Int × (Int × Int × Int) × Int) × List (Int × Int × Int × Int × Int)) (i29 : Int) (t30 : Bool) :
    ((ctxK (R := ODen (T_spec_SeqTrue_sg N).ps × RDen (T_spec_SeqTrue_sg N).rs) tab (T_spec_SeqTrue_ctx N) T_spec_SeqTrue_ann N (theCode Try.f26) [1, 0, 1, 0] (retK tab (T_spec_SeqTrue_sg N) Try.f26.results.toList some)) (.exit 0) (T_spec_SeqTrue_lp0_e1 l2 start1 w3 i29 t30)) =
    (some (α := ODen (T_spec_SeqTrue_sg N).ps × RDen (T_spec_SeqTrue_sg N).rs) ((), (true, ()))) := by kernel_rfl

theorem T_spec_SeqTrue_den (N : Nat) (start1 : Int × Int × Int) (l2 : List (Int × Int × Int)) (w3 : Int × (Int × Int × Int) × Int × Int × List (Int × Int × (Int × Int × Int) × Int) × List (Int × Int × Int × Int × Int)) :
    den (R := ODen (T_spec_SeqTrue_sg N).ps × RDen (T_spec_SeqTrue_sg N).rs) tab (T_spec_SeqTrue_ctx N) T_spec_SeqTrue_ann N (T_spec_SeqTrue_sg N) Try.f26 (start1, l2, w3, ()) some =
    (T_spec_SeqTrue_lp0 N l2 start1 w3
    (some (α := ODen (T_spec_SeqTrue_sg N).ps × RDen (T_spec_SeqTrue_sg N).rs) ((), (false, ())))
    (fun i29 t30 =>
      (some (α := ODen (T_spec_SeqTrue_sg N).ps × RDen (T_spec_SeqTrue_sg N).rs) ((), (true, ()))))
     N (0 : Int)) := by
  have h : den (R := ODen (T_spec_SeqTrue_sg N).ps × RDen (T_spec_SeqTrue_sg N).rs) tab (T_spec_SeqTrue_ctx N) T_spec_SeqTrue_ann N (T_spec_SeqTrue_sg N) Try.f26 (start1, l2, w3, ()) some =
    (T_spec_SeqTrue_lp0_m N N (T_spec_SeqTrue_lp0_sh l2 (0 : Int) start1 w3) (ctxK (R := ODen (T_spec_SeqTrue_sg N).ps × RDen (T_spec_SeqTrue_sg N).rs) tab (T_spec_SeqTrue_ctx N) T_spec_SeqTrue_ann N (theCode Try.f26) [1, 0, 1, 0] (retK tab (T_spec_SeqTrue_sg N) Try.f26.results.toList some))) := by kernel_rfl
  rw [h]
  (try simp only [T_spec_SeqTrue_lp0_eq, T_spec_SeqTrue_c5, T_spec_SeqTrue_c6]) <;> rfl

theorem T_spec_SeqTrue_ok (N : Nat) : chkBody Try.f26 (T_spec_SeqTrue_sg N).ps = true := by kernel_rfl

theorem T_spec_SeqTrue_callable : Callable Try.prog 26 := callable_of Try.func26 (show chkFn Try.f26 = true by kernel_rfl)

theorem T_spec_SeqTrue_good (N : Nat) : Good Try.prog 26 (T_spec_SeqTrue_sg N) :=
  good_body mixedOk tabOk (ctx_cons (T_spec_SeqValue_good N) T_spec_SeqValue_callable ctx_nil) Try.func26 (T_spec_SeqTrue_ok N) (fun d _ h => ⟨N, (T_spec_SeqTrue_den N d.1 d.2.1 d.2.2.1).trans h⟩)

noncomputable def T_impl_within_sg (N : Nat) : Sig := Sig.of [.v (.int .i64) false, .v (.int .i64) false, .v (.int .i64) false] [.v (.bool) false] (fun d => T_impl_within N d.1 d.2.1 d.2.2.1)

def T_impl_within_ann : Nat → List Ghost
  | _ => []

noncomputable def T_impl_within_ctx (N : Nat) : Ctx := []

theorem T_impl_within_den (N : Nat) (x1 : Int) (lo2 : Int) (hi3 : Int) :
    den (R := ODen (T_impl_within_sg N).ps × RDen (T_impl_within_sg N).rs) tab (T_impl_within_ctx N) T_impl_within_ann N (T_impl_within_sg N) Try.f58 (x1, lo2, hi3, ()) some =
    (bif decide (x1 ≥ lo2) then
    (some (α := ODen (T_impl_within_sg N).ps × RDen (T_impl_within_sg N).rs) ((), (decide (x1 ≤ hi3), ())))
    else
    (some (α := ODen (T_impl_within_sg N).ps × RDen (T_impl_within_sg N).rs) ((), (false, ())))) := by kernel_rfl

theorem T_impl_within_ok (N : Nat) : chkBody Try.f58 (T_impl_within_sg N).ps = true := by kernel_rfl

theorem T_impl_within_callable : Callable Try.prog 58 := callable_of Try.func58 (show chkFn Try.f58 = true by kernel_rfl)

theorem T_impl_within_good (N : Nat) : Good Try.prog 58 (T_impl_within_sg N) :=
  good_body mixedOk tabOk ctx_nil Try.func58 (T_impl_within_ok N) (fun d _ h => ⟨N, (T_impl_within_den N d.1 d.2.1 d.2.2.1).trans h⟩)

noncomputable def T_impl_isValue_sg (N : Nat) : Sig := Sig.of [.v (.int .i64) false] [.v (.bool) false] (fun d => T_impl_isValue N d.1)

def T_impl_isValue_ann : Nat → List Ghost
  | _ => []

noncomputable def T_impl_isValue_ctx (N : Nat) : Ctx := [(58, T_impl_within_sg N)]

theorem T_impl_isValue_den (N : Nat) (v1 : Int) :
    den (R := ODen (T_impl_isValue_sg N).ps × RDen (T_impl_isValue_sg N).rs) tab (T_impl_isValue_ctx N) T_impl_isValue_ann N (T_impl_isValue_sg N) Try.f85 (v1, ()) some =
    ((T_impl_within N v1 (0 : Int) (65535 : Int)).bind fun o2 =>
    (some (α := ODen (T_impl_isValue_sg N).ps × RDen (T_impl_isValue_sg N).rs) ((), (o2.2.1, ())))) := by kernel_rfl

theorem T_impl_isValue_ok (N : Nat) : chkBody Try.f85 (T_impl_isValue_sg N).ps = true := by kernel_rfl

theorem T_impl_isValue_callable : Callable Try.prog 85 := callable_of Try.func85 (show chkFn Try.f85 = true by kernel_rfl)

theorem T_impl_isValue_good (N : Nat) : Good Try.prog 85 (T_impl_isValue_sg N) :=
  good_body mixedOk tabOk (ctx_cons (T_impl_within_good N) T_impl_within_callable ctx_nil) Try.func85 (T_impl_isValue_ok N) (fun d _ h => ⟨N, (T_impl_isValue_den N d.1).trans h⟩)

noncomputable def T_impl_isTriple_sg (N : Nat) : Sig := Sig.of [.v (.prod (.int .i64) (.prod (.int .i64) (.int .i64))) true] [.v (.bool) false] (fun d => T_impl_isTriple N d.1)

def T_impl_isTriple_ann : Nat → List Ghost
  | _ => []

noncomputable def T_impl_isTriple_ctx (N : Nat) : Ctx := [(85, T_impl_isValue_sg N)]

theorem T_impl_isTriple_den (N : Nat) (t1 : Int × Int × Int) :
    den (R := ODen (T_impl_isTriple_sg N).ps × RDen (T_impl_isTriple_sg N).rs) tab (T_impl_isTriple_ctx N) T_impl_isTriple_ann N (T_impl_isTriple_sg N) Try.f55 (t1, ()) some =
    ((T_impl_isValue N t1.1).bind fun o2 =>
    (bif o2.2.1 then
      ((T_impl_isValue N t1.2.1).bind fun o3 =>
        (bif o3.2.1 then
          ((T_impl_isValue N t1.2.2).bind fun o4 =>
            (some (α := ODen (T_impl_isTriple_sg N).ps × RDen (T_impl_isTriple_sg N).rs) ((), (o4.2.1, ()))))
          else
          (some (α := ODen (T_impl_isTriple_sg N).ps × RDen (T_impl_isTriple_sg N).rs) ((), (false, ())))))
      else
      (some (α := ODen (T_impl_isTriple_sg N).ps × RDen (T_impl_isTriple_sg N).rs) ((), (false, ()))))) := by kernel_rfl

theorem T_impl_isTriple_ok (N : Nat) : chkBody Try.f55 (T_impl_isTriple_sg N).ps = true := by kernel_rfl

theorem T_impl_isTriple_callable : Callable Try.prog 55 := callable_of Try.func55 (show chkFn Try.f55 = true by kernel_rfl)

theorem T_impl_isTriple_good (N : Nat) : Good Try.prog 55 (T_impl_isTriple_sg N) :=
  good_body mixedOk tabOk (ctx_cons (T_impl_isValue_good N) T_impl_isValue_callable ctx_nil) Try.func55 (T_impl_isTriple_ok N) (fun d _ h => ⟨N, (T_impl_isTriple_den N d.1).trans h⟩)

noncomputable def T_impl_TriplesOk_sg (N : Nat) : Sig := Sig.of [.v (.slice (.prod (.int .i64) (.prod (.int .i64) (.int .i64)))) false] [.v (.bool) false] (fun d => T_impl_TriplesOk N d.1)

def T_impl_TriplesOk_ann : Nat → List Ghost
  | 2 => [.canon [0, 5, 6, 7, 8]]
  | 3 => [.canon [0, 4, 5, 6, 7]]
  | 4 => [.canon [0, 5, 6, 7, 13]]
  | 5 => [.canon [2]]
  | 6 => [.canon [0, 5, 6, 7]]
  | 100002 => [.canon [0, 5, 6, 7]]
  | _ => []

noncomputable def T_impl_TriplesOk_ctx (N : Nat) : Ctx := [(55, T_impl_isTriple_sg N)]

def T_impl_TriplesOk_lp0_sh (l2 : List (Int × Int × Int)) (t5 : Int) : St := { env := [(0, .s (.one (.val (.slice (.prod (.int .i64) (.prod (.int .i64) (.int .i64)))) (l2 : List (Int × Int × Int))))), (5, .s (.one (.val (.slice (.prod (.int .i64) (.prod (.int .i64) (.int .i64)))) (l2 : List (Int × Int × Int))))), (6, .s (.one (.val (.int .i64) (ilen l2 : Int)))), (7, .s (.one (.val (.int .i64) (t5 : Int))))], objs := [], nx := 0 }

def T_impl_TriplesOk_lp0_e0 (l2 : List (Int × Int × Int)) : St := { env := [(2, .s (.one (.val (.bool) (false : Bool))))], objs := [], nx := 0 }

def T_impl_TriplesOk_lp0_e1 (l2 : List (Int × Int × Int)) (t8 : Int) (t9 : Bool) : St := { env := [(0, .s (.one (.val (.slice (.prod (.int .i64) (.prod (.int .i64) (.int .i64)))) (l2 : List (Int × Int × Int))))), (5, .s (.one (.val (.slice (.prod (.int .i64) (.prod (.int .i64) (.int .i64)))) (l2 : List (Int × Int × Int))))), (6, .s (.one (.val (.int .i64) (ilen l2 : Int)))), (7, .s (.one (.val (.int .i64) (t8 : Int)))), (8, .s (.one (.val (.bool) (t9 : Bool))))], objs := [], nx := 0 }

noncomputable def T_impl_TriplesOk_lp0_m (N : Nat) {R : Type} (n : Nat) (st : St) (K : Ex → St → Option R) : Option R := loopN (roundG (T_impl_TriplesOk_ann 100002) fun st k => sx tab (T_impl_TriplesOk_ctx N) T_impl_TriplesOk_ann N (nthLoop Try.f56 0) st k) n st K

theorem T_impl_TriplesOk_lp0_step (N : Nat) {R : Type} (n : Nat) (K : Ex → St → Option R) (l2 : List (Int × Int × Int)) (t5 : Int) :
    T_impl_TriplesOk_lp0_m N (n + 1) (T_impl_TriplesOk_lp0_sh l2 t5) K =
    (bif decide (t5 < (ilen l2)) then
    (bif inb t5 (List.length l2) then
      ((T_impl_isTriple N (List.getD l2 (Int.toNat t5) ((0 : Int), ((0 : Int), (0 : Int))))).bind fun o10 =>
        (bif !o10.2.1 then
          (K .ret (T_impl_TriplesOk_lp0_e0 l2))
          else
          (T_impl_TriplesOk_lp0_m N n (T_impl_TriplesOk_lp0_sh l2 (iadd .i64 t5 (1 : Int))) K))) else none)
    else
    (K (.exit 0) (T_impl_TriplesOk_lp0_e1 l2 t5 (decide (t5 < (ilen l2)))))) := by kernel_rfl

theorem T_impl_TriplesOk_lp0_eq (N : Nat) {R : Type} (l2 : List (Int × Int × Int)) (K : Ex → St → Option R) : ∀ (n : Nat) (t5 : Int), T_impl_TriplesOk_lp0_m N n (T_impl_TriplesOk_lp0_sh l2 t5) K = T_impl_TriplesOk_lp0 N l2 (K .ret (T_impl_TriplesOk_lp0_e0 l2)) (fun t8 t9 => (K (.exit 0) (T_impl_TriplesOk_lp0_e1 l2 t8 t9))) n t5
  | 0, _ => rfl
  | n + 1, t5 => by rw [T_impl_TriplesOk_lp0_step, T_impl_TriplesOk_lp0]; (try simp only [T_impl_TriplesOk_lp0_eq N l2 K n])

theorem T_impl_TriplesOk_c1 (N : Nat) (l1 : List (Int × Int × Int)) :
    ((ctxK (R := ODen (T_impl_TriplesOk_sg N).ps × RDen (T_impl_TriplesOk_sg N).rs) tab (T_impl_TriplesOk_ctx N) T_impl_TriplesOk_ann N (theCode Try.f56) [1, 0, 1, 0] (retK tab (T_impl_TriplesOk_sg N) Try.f56.results.toList some)) .ret (T_impl_TriplesOk_lp0_e0 l1)) =
    (some (α := ODen (T_impl_TriplesOk_sg N).ps × RDen (T_impl_TriplesOk_sg N).rs) ((), (false, ()))) := by kernel_rfl

theorem T_impl_TriplesOk_c2 (N : Nat) (l1 : List (Int × Int × Int)) (t11 : Int) (t12 : Bool) :
    ((ctxK (R := ODen (T_impl_TriplesOk_sg N).ps × RDen (T_impl_TriplesOk_sg N).rs) tab (T_impl_TriplesOk_ctx N) T_impl_TriplesOk_ann N (theCode Try.f56) [1, 0, 1, 0] (retK tab (T_impl_TriplesOk_sg N) Try.f56.results.toList some)) (.exit 0) (T_impl_TriplesOk_lp0_e1 l1 t11 t12)) =
    (some (α := ODen (T_impl_TriplesOk_sg N).ps × RDen (T_impl_TriplesOk_sg N).rs) ((), (decide ((ilen l1) ≤ (20 : Int)), ()))) := by kernel_rfl

theorem T_impl_TriplesOk_den (N : Nat) (l1 : List (Int × Int × Int)) :
    den (R := ODen (T_impl_TriplesOk_sg N).ps × RDen (T_impl_TriplesOk_sg N).rs) tab (T_impl_TriplesOk_ctx N) T_impl_TriplesOk_ann N (T_impl_TriplesOk_sg N) Try.f56 (l1, ()) some =
    (T_impl_TriplesOk_lp0 N l1
    (some (α := ODen (T_impl_TriplesOk_sg N).ps × RDen (T_impl_TriplesOk_sg N).rs) ((), (false, ())))
    (fun t11 t12 =>
      (some (α := ODen (T_impl_TriplesOk_sg N).ps × RDen (T_impl_TriplesOk_sg N).rs) ((), (decide ((ilen l1) ≤ (20 : Int)), ()))))
     N (0 : Int)) := by
  have h : den (R := ODen (T_impl_TriplesOk_sg N).ps × RDen (T_impl_TriplesOk_sg N).rs) tab (T_impl_TriplesOk_ctx N) T_impl_TriplesOk_ann N (T_impl_TriplesOk_sg N) Try.f56 (l1, ()) some =
    (T_impl_TriplesOk_lp0_m N N (T_impl_TriplesOk_lp0_sh l1 (0 : Int)) (ctxK (R := ODen (T_impl_TriplesOk_sg N).ps × RDen (T_impl_TriplesOk_sg N).rs) tab (T_impl_TriplesOk_ctx N) T_impl_TriplesOk_ann N (theCode Try.f56) [1, 0, 1, 0] (retK tab (T_impl_TriplesOk_sg N) Try.f56.results.toList some))) := by kernel_rfl
  rw [h]
  (try simp only [T_impl_TriplesOk_lp0_eq, T_impl_TriplesOk_c1, T_impl_TriplesOk_c2]) <;> rfl

theorem T_impl_TriplesOk_ok (N : Nat) : chkBody Try.f56 (T_impl_TriplesOk_sg N).ps = true := by kernel_rfl

theorem T_impl_TriplesOk_callable : Callable Try.prog 56 := callable_of Try.func56 (show chkFn Try.f56 = true by kernel_rfl)

theorem T_impl_TriplesOk_good (N : Nat) : Good Try.prog 56 (T_impl_TriplesOk_sg N) :=
  good_body mixedOk tabOk (ctx_cons (T_impl_isTriple_good N) T_impl_isTriple_callable ctx_nil) Try.func56 (T_impl_TriplesOk_ok N) (fun d _ h => ⟨N, (T_impl_TriplesOk_den N d.1).trans h⟩)

noncomputable def T_impl_SeqValue_sg (N : Nat) : Sig := Sig.of [.v (.prod (.int .i64) (.prod (.int .i64) (.int .i64))) true, .v (.slice (.prod (.int .i64) (.prod (.int .i64) (.int .i64)))) false, .v (.int .i64) false] [.v (.prod (.int .i64) (.prod (.int .i64) (.int .i64))) true, .v (.bool) false] (fun d => T_impl_SeqValue N d.1 d.2.1 d.2.2.1)

def T_impl_SeqValue_ann : Nat → List Ghost
  | _ => []

noncomputable def T_impl_SeqValue_ctx (N : Nat) : Ctx := [(55, T_impl_isTriple_sg N), (56, T_impl_TriplesOk_sg N), (58, T_impl_within_sg N)]

theorem T_impl_SeqValue_den (N : Nat) (start1 : Int × Int × Int) (l2 : List (Int × Int × Int)) (seq3 : Int) :
    den (R := ODen (T_impl_SeqValue_sg N).ps × RDen (T_impl_SeqValue_sg N).rs) tab (T_impl_SeqValue_ctx N) T_impl_SeqValue_ann N (T_impl_SeqValue_sg N) Try.f28 (start1, l2, seq3, ()) some =
    ((T_impl_isTriple N start1).bind fun o4 =>
    (bif !o4.2.1 then
      (some (α := ODen (T_impl_SeqValue_sg N).ps × RDen (T_impl_SeqValue_sg N).rs) ((), (((0 : Int), ((0 : Int), (0 : Int))), (false, ()))))
      else
      ((T_impl_TriplesOk N l2).bind fun o5 =>
        (bif !o5.2.1 then
          (some (α := ODen (T_impl_SeqValue_sg N).ps × RDen (T_impl_SeqValue_sg N).rs) ((), (((0 : Int), ((0 : Int), (0 : Int))), (false, ()))))
          else
          ((T_impl_within N seq3 (0 : Int) (imul .i64 (2 : Int) (ilen l2))).bind fun o6 =>
            (bif !o6.2.1 then
              (some (α := ODen (T_impl_SeqValue_sg N).ps × RDen (T_impl_SeqValue_sg N).rs) ((), (((0 : Int), ((0 : Int), (0 : Int))), (false, ()))))
              else
              (bif inz (2 : Int) then
                (bif (irem seq3 (2 : Int)) == (1 : Int) then
                  (some (α := ODen (T_impl_SeqValue_sg N).ps × RDen (T_impl_SeqValue_sg N).rs) ((), (((0 : Int), ((0 : Int), (0 : Int))), (false, ()))))
                  else
                  (bif seq3 == (0 : Int) then
                    (some (α := ODen (T_impl_SeqValue_sg N).ps × RDen (T_impl_SeqValue_sg N).rs) ((), (start1, (true, ()))))
                    else
                    (bif inz (2 : Int) then
                      (bif inb (isub .i64 (iquo .i64 seq3 (2 : Int)) (1 : Int)) (List.length l2) then
                        (some (α := ODen (T_impl_SeqValue_sg N).ps × RDen (T_impl_SeqValue_sg N).rs) ((), (List.getD l2 (Int.toNat (isub .i64 (iquo .i64 seq3 (2 : Int)) (1 : Int))) ((0 : Int), ((0 : Int), (0 : Int))), (true, ())))) else none) else none))) else none))))))) := by kernel_rfl

theorem T_impl_SeqValue_ok (N : Nat) : chkBody Try.f28 (T_impl_SeqValue_sg N).ps = true := by kernel_rfl

theorem T_impl_SeqValue_callable : Callable Try.prog 28 := callable_of Try.func28 (show chkFn Try.f28 = true by kernel_rfl)

theorem T_impl_SeqValue_good (N : Nat) : Good Try.prog 28 (T_impl_SeqValue_sg N) :=
  good_body mixedOk tabOk (ctx_cons (T_impl_isTriple_good N) T_impl_isTriple_callable (ctx_cons (T_impl_TriplesOk_good N) T_impl_TriplesOk_callable (ctx_cons (T_impl_within_good N) T_impl_within_callable ctx_nil))) Try.func28 (T_impl_SeqValue_ok N) (fun d _ h => ⟨N, (T_impl_SeqValue_den N d.1 d.2.1 d.2.2.1).trans h⟩)

noncomputable def T_impl_SeqTrue_sg (N : Nat) : Sig := Sig.of [.v (.prod (.int .i64) (.prod (.int .i64) (.int .i64))) true, .v (.slice (.prod (.int .i64) (.prod (.int .i64) (.int .i64)))) false, .v (.prod (.int .i64) (.prod (.prod (.int .i64) (.prod (.int .i64) (.int .i64))) (.prod (.int .i64) (.prod (.int .i64) (.prod (.slice (.prod (.int .i64) (.prod (.int .i64) (.prod (.prod (.int .i64) (.prod (.int .i64) (.int .i64))) (.int .i64))))) (.slice (.prod (.int .i64) (.prod (.int .i64) (.prod (.int .i64) (.prod (.int .i64) (.int .i64))))))))))) true] [.v (.bool) false] (fun d => T_impl_SeqTrue N d.1 d.2.1 d.2.2.1)

def T_impl_SeqTrue_ann : Nat → List Ghost
  | 2 => [.canon [1, 3, 5, 12, 13, 14, 15]]
  | 3 => [.canon [1, 3, 5, 7, 8, 12, 13, 14]]
  | 4 => [.canon [1, 3, 5, 7, 8, 9, 10, 12, 13, 14]]
  | 5 => [.canon [1, 3, 5, 12, 13, 14, 50]]
  | 6 => [.canon [6]]
  | 7 => [.canon [1, 3, 5, 12, 13, 14]]
  | 100002 => [.canon [1, 3, 5, 12, 13, 14]]
  | _ => []

noncomputable def T_impl_SeqTrue_ctx (N : Nat) : Ctx := [(28, T_impl_SeqValue_sg N)]

def T_impl_SeqTrue_lp0_sh (l4 : List (Int × Int × Int)) (t5 : List (Int × Int × Int × Int × Int)) (t7 : Int) (b8 : Int × Int × Int) (b9 : Int × (Int × Int × Int) × Int × Int × List (Int × Int × (Int × Int × Int) × Int) × List (Int × Int × Int × Int × Int)) : St := { env := [(1, .s (.one (.val (.slice (.prod (.int .i64) (.prod (.int .i64) (.int .i64)))) (l4 : List (Int × Int × Int))))), (3, .s (.one (.ptr 0 0))), (5, .s (.one (.ptr 1 0))), (12, .s (.one (.val (.slice (.prod (.int .i64) (.prod (.int .i64) (.prod (.int .i64) (.prod (.int .i64) (.int .i64)))))) (t5 : List (Int × Int × Int × Int × Int))))), (13, .s (.one (.val (.int .i64) (ilen b9.2.2.2.2.2 : Int)))), (14, .s (.one (.val (.int .i64) (t7 : Int))))], objs := [(0, .box [.val (.int .i64) (b8.1 : Int), .val (.int .i64) (b8.2.1 : Int), .val (.int .i64) (b8.2.2 : Int)]), (1, .box [.val (.int .i64) (b9.1 : Int), .val (.int .i64) (b9.2.1.1 : Int), .val (.int .i64) (b9.2.1.2.1 : Int), .val (.int .i64) (b9.2.1.2.2 : Int), .val (.int .i64) (b9.2.2.1 : Int), .val (.int .i64) (b9.2.2.2.1 : Int), .val (.slice (.prod (.int .i64) (.prod (.int .i64) (.prod (.prod (.int .i64) (.prod (.int .i64) (.int .i64))) (.int .i64))))) (b9.2.2.2.2.1 : List (Int × Int × (Int × Int × Int) × Int)), .val (.slice (.prod (.int .i64) (.prod (.int .i64) (.prod (.int .i64) (.prod (.int .i64) (.int .i64)))))) (b9.2.2.2.2.2 : List (Int × Int × Int × Int × Int))])], nx := 2 }

def T_impl_SeqTrue_lp0_e0 (l4 : List (Int × Int × Int)) (t5 : List (Int × Int × Int × Int × Int)) (b8 : Int × Int × Int) (b9 : Int × (Int × Int × Int) × Int × Int × List (Int × Int × (Int × Int × Int) × Int) × List (Int × Int × Int × Int × Int)) : St := { env := [(6, .s (.one (.val (.bool) (false : Bool))))], objs := [], nx := 0 }

def T_impl_SeqTrue_lp0_e1 (l4 : List (Int × Int × Int)) (t5 : List (Int × Int × Int × Int × Int)) (b8 : Int × Int × Int) (b9 : Int × (Int × Int × Int) × Int × Int × List (Int × Int × (Int × Int × Int) × Int) × List (Int × Int × Int × Int × Int)) (t12 : Int) (t13 : Bool) : St := { env := [(1, .s (.one (.val (.slice (.prod (.int .i64) (.prod (.int .i64) (.int .i64)))) (l4 : List (Int × Int × Int))))), (3, .s (.one (.ptr 0 0))), (5, .s (.one (.ptr 1 0))), (12, .s (.one (.val (.slice (.prod (.int .i64) (.prod (.int .i64) (.prod (.int .i64) (.prod (.int .i64) (.int .i64)))))) (t5 : List (Int × Int × Int × Int × Int))))), (13, .s (.one (.val (.int .i64) (ilen b9.2.2.2.2.2 : Int)))), (14, .s (.one (.val (.int .i64) (t12 : Int)))), (15, .s (.one (.val (.bool) (t13 : Bool))))], objs := [(0, .box [.val (.int .i64) (b8.1 : Int), .val (.int .i64) (b8.2.1 : Int), .val (.int .i64) (b8.2.2 : Int)]), (1, .box [.val (.int .i64) (b9.1 : Int), .val (.int .i64) (b9.2.1.1 : Int), .val (.int .i64) (b9.2.1.2.1 : Int), .val (.int .i64) (b9.2.1.2.2 : Int), .val (.int .i64) (b9.2.2.1 : Int), .val (.int .i64) (b9.2.2.2.1 : Int), .val (.slice (.prod (.int .i64) (.prod (.int .i64) (.prod (.prod (.int .i64) (.prod (.int .i64) (.int .i64))) (.int .i64))))) (b9.2.2.2.2.1 : List (Int × Int × (Int × Int × Int) × Int)), .val (.slice (.prod (.int .i64) (.prod (.int .i64) (.prod (.int .i64) (.prod (.int .i64) (.int .i64)))))) (b9.2.2.2.2.2 : List (Int × Int × Int × Int × Int))])], nx := 2 }

noncomputable def T_impl_SeqTrue_lp0_m (N : Nat) {R : Type} (n : Nat) (st : St) (K : Ex → St → Option R) : Option R := loopN (roundG (T_impl_SeqTrue_ann 100002) fun st k => sx tab (T_impl_SeqTrue_ctx N) T_impl_SeqTrue_ann N (nthLoop Try.f27 0) st k) n st K

theorem T_impl_SeqTrue_lp0_step (N : Nat) {R : Type} (n : Nat) (K : Ex → St → Option R) (l4 : List (Int × Int × Int)) (t5 : List (Int × Int × Int × Int × Int)) (t7 : Int) (b8 : Int × Int × Int) (b9 : Int × (Int × Int × Int) × Int × Int × List (Int × Int × (Int × Int × Int) × Int) × List (Int × Int × Int × Int × Int)) :
    T_impl_SeqTrue_lp0_m N (n + 1) (T_impl_SeqTrue_lp0_sh l4 t5 t7 b8 b9) K =
    (bif decide (t7 < (ilen b9.2.2.2.2.2)) then
    (bif inb t7 (List.length t5) then
      ((T_impl_SeqValue N b8 l4 (List.getD t5 (Int.toNat t7) ((0 : Int), ((0 : Int), ((0 : Int), ((0 : Int), (0 : Int)))))).2.1).bind fun o14 =>
        (bif !o14.2.2.1 then
          (K .ret (T_impl_SeqTrue_lp0_e0 l4 t5 b8 b9))
          else
          (bif !((ieq o14.2.1.1 (List.getD t5 (Int.toNat t7) ((0 : Int), ((0 : Int), ((0 : Int), ((0 : Int), (0 : Int)))))).2.2.1) && ((ieq o14.2.1.2.1 (List.getD t5 (Int.toNat t7) ((0 : Int), ((0 : Int), ((0 : Int), ((0 : Int), (0 : Int)))))).2.2.2.1) && ((ieq o14.2.1.2.2 (List.getD t5 (Int.toNat t7) ((0 : Int), ((0 : Int), ((0 : Int), ((0 : Int), (0 : Int)))))).2.2.2.2) && true))) then
            (K .ret (T_impl_SeqTrue_lp0_e0 l4 t5 b8 b9))
            else
            (bif decide (t7 > (0 : Int)) then
              (bif inb (isub .i64 t7 (1 : Int)) (List.length b9.2.2.2.2.2) then
                (bif decide ((List.getD t5 (Int.toNat t7) ((0 : Int), ((0 : Int), ((0 : Int), ((0 : Int), (0 : Int)))))).2.1 < (List.getD b9.2.2.2.2.2 (Int.toNat (isub .i64 t7 (1 : Int))) ((0 : Int), ((0 : Int), ((0 : Int), ((0 : Int), (0 : Int)))))).2.1) then
                  (K .ret (T_impl_SeqTrue_lp0_e0 l4 t5 b8 b9))
                  else
                  (T_impl_SeqTrue_lp0_m N n (T_impl_SeqTrue_lp0_sh l4 t5 (iadd .i64 t7 (1 : Int)) b8 b9) K)) else none)
              else
              (T_impl_SeqTrue_lp0_m N n (T_impl_SeqTrue_lp0_sh l4 t5 (iadd .i64 t7 (1 : Int)) b8 b9) K))))) else none)
    else
    (K (.exit 0) (T_impl_SeqTrue_lp0_e1 l4 t5 b8 b9 t7 (decide (t7 < (ilen b9.2.2.2.2.2)))))) := by kernel_rfl

theorem T_impl_SeqTrue_lp0_eq (N : Nat) {R : Type} (l4 : List (Int × Int × Int)) (t5 : List (Int × Int × Int × Int × Int)) (b8 : Int × Int × Int) (b9 : Int × (Int × Int × Int) × Int × Int × List (Int × Int × (Int × Int × Int) × Int) × List (Int × Int × Int × Int × Int)) (K : Ex → St → Option R) : ∀ (n : Nat) (t7 : Int), T_impl_SeqTrue_lp0_m N n (T_impl_SeqTrue_lp0_sh l4 t5 t7 b8 b9) K = T_impl_SeqTrue_lp0 N l4 t5 b8 b9 (K .ret (T_impl_SeqTrue_lp0_e0 l4 t5 b8 b9)) (fun t12 t13 => (K (.exit 0) (T_impl_SeqTrue_lp0_e1 l4 t5 b8 b9 t12 t13))) n t7
  | 0, _ => rfl
  | n + 1, t7 => by rw [T_impl_SeqTrue_lp0_step, T_impl_SeqTrue_lp0]; (try simp only [T_impl_SeqTrue_lp0_eq N l4 t5 b8 b9 K n])

theorem T_impl_SeqTrue_c1 (N : Nat) (l2 : List (Int × Int × Int)) (w3 : Int × (Int × Int × Int) × Int × Int × List (Int × Int × (Int × Int × Int) × Int) × List (Int × Int × Int × Int × Int)) (start1 : Int × Int × Int) :
    ((ctxK (R := ODen (T_impl_SeqTrue_sg N).ps × RDen (T_impl_SeqTrue_sg N).rs) tab (T_impl_SeqTrue_ctx N) T_impl_SeqTrue_ann N (theCode Try.f27) [1, 0, 1, 0] (retK tab (T_impl_SeqTrue_sg N) Try.f27.results.toList some)) .ret (T_impl_SeqTrue_lp0_e0 l2 w3.2.2.2.2.2 start1 w3)) =
    (some (α := ODen (T_impl_SeqTrue_sg N).ps × RDen (T_impl_SeqTrue_sg N).rs) ((), (false, ()))) := by kernel_rfl

theorem T_impl_SeqTrue_c2 (N : Nat) (l2 : List (Int × Int × Int)) (w3 : Int × (Int × Int × Int) × Int × Int × List (Int × Int × (Int × Int × Int) × Int) × List (Int × Int × Int × Int × Int)) (start1 : Int × Int × Int) (t15 : Int) (t16 : Bool) :
    ((ctxK (R := ODen (T_impl_SeqTrue_sg N).ps × RDen (T_impl_SeqTrue_sg N).rs) tab (T_impl_SeqTrue_ctx N) T_impl_SeqTrue_ann N (theCode Try.f27) [1, 0, 1, 0] (retK tab (T_impl_SeqTrue_sg N) Try.f27.results.toList some)) (.exit 0) (T_impl_SeqTrue_lp0_e1 l2 w3.2.2.2.2.2 start1 w3 t15 t16)) =
    (some (α := ODen (T_impl_SeqTrue_sg N).ps × RDen (T_impl_SeqTrue_sg N).rs) ((), (true, ()))) := by kernel_rfl

theorem T_impl_SeqTrue_den (N : Nat) (start1 : Int × Int × Int) (l2 : List (Int × Int × Int)) (w3 : Int × (Int × Int × Int) × Int × Int × List (Int × Int × (Int × Int × Int) × Int) × List (Int × Int × Int × Int × Int)) :
    den (R := ODen (T_impl_SeqTrue_sg N).ps × RDen (T_impl_SeqTrue_sg N).rs) tab (T_impl_SeqTrue_ctx N) T_impl_SeqTrue_ann N (T_impl_SeqTrue_sg N) Try.f27 (start1, l2, w3, ()) some =
    (T_impl_SeqTrue_lp0 N l2 w3.2.2.2.2.2 start1 w3
    (some (α := ODen (T_impl_SeqTrue_sg N).ps × RDen (T_impl_SeqTrue_sg N).rs) ((), (false, ())))
    (fun t15 t16 =>
      (some (α := ODen (T_impl_SeqTrue_sg N).ps × RDen (T_impl_SeqTrue_sg N).rs) ((), (true, ()))))
     N (0 : Int)) := by
  have h : den (R := ODen (T_impl_SeqTrue_sg N).ps × RDen (T_impl_SeqTrue_sg N).rs) tab (T_impl_SeqTrue_ctx N) T_impl_SeqTrue_ann N (T_impl_SeqTrue_sg N) Try.f27 (start1, l2, w3, ()) some =
    (T_impl_SeqTrue_lp0_m N N (T_impl_SeqTrue_lp0_sh l2 w3.2.2.2.2.2 (0 : Int) start1 w3) (ctxK (R := ODen (T_impl_SeqTrue_sg N).ps × RDen (T_impl_SeqTrue_sg N).rs) tab (T_impl_SeqTrue_ctx N) T_impl_SeqTrue_ann N (theCode Try.f27) [1, 0, 1, 0] (retK tab (T_impl_SeqTrue_sg N) Try.f27.results.toList some))) := by kernel_rfl
  rw [h]
  (try simp only [T_impl_SeqTrue_lp0_eq, T_impl_SeqTrue_c1, T_impl_SeqTrue_c2]) <;> rfl

theorem T_impl_SeqTrue_ok (N : Nat) : chkBody Try.f27 (T_impl_SeqTrue_sg N).ps = true := by kernel_rfl

theorem T_impl_SeqTrue_callable : Callable Try.prog 27 := callable_of Try.func27 (show chkFn Try.f27 = true by kernel_rfl)

theorem T_impl_SeqTrue_good (N : Nat) : Good Try.prog 27 (T_impl_SeqTrue_sg N) :=
  good_body mixedOk tabOk (ctx_cons (T_impl_SeqValue_good N) T_impl_SeqValue_callable ctx_nil) Try.func27 (T_impl_SeqTrue_ok N) (fun d _ h => ⟨N, (T_impl_SeqTrue_den N d.1 d.2.1 d.2.2.1).trans h⟩)

noncomputable def T_laws_eqTriple_sg (N : Nat) : Sig := Sig.of [.v (.prod (.int .i64) (.prod (.int .i64) (.int .i64))) true, .v (.prod (.int .i64) (.prod (.int .i64) (.int .i64))) true] [.v (.bool) false] (fun d => T_laws_eqTriple N d.1 d.2.1)

def T_laws_eqTriple_ann : Nat → List Ghost
  | _ => []

noncomputable def T_laws_eqTriple_ctx (N : Nat) : Ctx := []

theorem T_laws_eqTriple_den (N : Nat) (a1 : Int × Int × Int) (b2 : Int × Int × Int) :
    den (R := ODen (T_laws_eqTriple_sg N).ps × RDen (T_laws_eqTriple_sg N).rs) tab (T_laws_eqTriple_ctx N) T_laws_eqTriple_ann N (T_laws_eqTriple_sg N) Try.f79 (a1, b2, ()) some =
    (bif a1.1 != b2.1 then
    (some (α := ODen (T_laws_eqTriple_sg N).ps × RDen (T_laws_eqTriple_sg N).rs) ((), (false, ())))
    else
    (bif a1.2.1 != b2.2.1 then
      (some (α := ODen (T_laws_eqTriple_sg N).ps × RDen (T_laws_eqTriple_sg N).rs) ((), (false, ())))
      else
      (bif a1.2.2 != b2.2.2 then
        (some (α := ODen (T_laws_eqTriple_sg N).ps × RDen (T_laws_eqTriple_sg N).rs) ((), (false, ())))
        else
        (some (α := ODen (T_laws_eqTriple_sg N).ps × RDen (T_laws_eqTriple_sg N).rs) ((), (true, ())))))) := by kernel_rfl

theorem T_laws_eqTriple_ok (N : Nat) : chkBody Try.f79 (T_laws_eqTriple_sg N).ps = true := by kernel_rfl

theorem T_laws_eqTriple_callable : Callable Try.prog 79 := callable_of Try.func79 (show chkFn Try.f79 = true by kernel_rfl)

theorem T_laws_eqTriple_good (N : Nat) : Good Try.prog 79 (T_laws_eqTriple_sg N) :=
  good_body mixedOk tabOk ctx_nil Try.func79 (T_laws_eqTriple_ok N) (fun d _ h => ⟨N, (T_laws_eqTriple_den N d.1 d.2.1).trans h⟩)

noncomputable def T_laws_eqTripleS_sg (N : Nat) : Sig := Sig.of [.v (.slice (.prod (.int .i64) (.prod (.int .i64) (.int .i64)))) false, .v (.slice (.prod (.int .i64) (.prod (.int .i64) (.int .i64)))) false] [.v (.bool) false] (fun d => T_laws_eqTripleS N d.1 d.2.1)

def T_laws_eqTripleS_ann : Nat → List Ghost
  | 4 => [.canon [0, 1, 5, 14]]
  | 5 => [.canon [0, 1, 5]]
  | 6 => [.canon [0, 1, 5, 26]]
  | 7 => [.canon [4]]
  | 100004 => [.canon [0, 1, 5]]
  | _ => []

noncomputable def T_laws_eqTripleS_ctx (N : Nat) : Ctx := [(79, T_laws_eqTriple_sg N)]

def T_laws_eqTripleS_lp0_sh (a3 : List (Int × Int × Int)) (b4 : List (Int × Int × Int)) (i5 : Int) : St := { env := [(0, .s (.one (.val (.slice (.prod (.int .i64) (.prod (.int .i64) (.int .i64)))) (a3 : List (Int × Int × Int))))), (1, .s (.one (.val (.slice (.prod (.int .i64) (.prod (.int .i64) (.int .i64)))) (b4 : List (Int × Int × Int))))), (5, .s (.one (.val (.int .i64) (i5 : Int))))], objs := [], nx := 0 }

def T_laws_eqTripleS_lp0_e0 (a3 : List (Int × Int × Int)) (b4 : List (Int × Int × Int)) : St := { env := [(4, .s (.one (.val (.bool) (false : Bool))))], objs := [], nx := 0 }

def T_laws_eqTripleS_lp0_e1 (a3 : List (Int × Int × Int)) (b4 : List (Int × Int × Int)) (i7 : Int) (t8 : Bool) : St := { env := [(0, .s (.one (.val (.slice (.prod (.int .i64) (.prod (.int .i64) (.int .i64)))) (a3 : List (Int × Int × Int))))), (1, .s (.one (.val (.slice (.prod (.int .i64) (.prod (.int .i64) (.int .i64)))) (b4 : List (Int × Int × Int))))), (5, .s (.one (.val (.int .i64) (i7 : Int)))), (14, .s (.one (.val (.bool) (t8 : Bool))))], objs := [], nx := 0 }

noncomputable def T_laws_eqTripleS_lp0_m (N : Nat) {R : Type} (n : Nat) (st : St) (K : Ex → St → Option R) : Option R := loopN (roundG (T_laws_eqTripleS_ann 100004) fun st k => sx tab (T_laws_eqTripleS_ctx N) T_laws_eqTripleS_ann N (nthLoop Try.f39 0) st k) n st K

theorem T_laws_eqTripleS_lp0_step (N : Nat) {R : Type} (n : Nat) (K : Ex → St → Option R) (a3 : List (Int × Int × Int)) (b4 : List (Int × Int × Int)) (i5 : Int) :
    T_laws_eqTripleS_lp0_m N (n + 1) (T_laws_eqTripleS_lp0_sh a3 b4 i5) K =
    (bif decide (i5 < (ilen a3)) then
    (bif inb i5 (List.length a3) then
      (bif inb i5 (List.length b4) then
        ((T_laws_eqTriple N (List.getD a3 (Int.toNat i5) ((0 : Int), ((0 : Int), (0 : Int)))) (List.getD b4 (Int.toNat i5) ((0 : Int), ((0 : Int), (0 : Int))))).bind fun o9 =>
          (bif !o9.2.1 then
            (K .ret (T_laws_eqTripleS_lp0_e0 a3 b4))
            else
            (T_laws_eqTripleS_lp0_m N n (T_laws_eqTripleS_lp0_sh a3 b4 (iadd .i64 i5 (1 : Int))) K))) else none) else none)
    else
    (K (.exit 0) (T_laws_eqTripleS_lp0_e1 a3 b4 i5 (decide (i5 < (ilen a3)))))) := by kernel_rfl

theorem T_laws_eqTripleS_lp0_eq (N : Nat) {R : Type} (a3 : List (Int × Int × Int)) (b4 : List (Int × Int × Int)) (K : Ex → St → Option R) : ∀ (n : Nat) (i5 : Int), T_laws_eqTripleS_lp0_m N n (T_laws_eqTripleS_lp0_sh a3 b4 i5) K = T_laws_eqTripleS_lp0 N a3 b4 (K .ret (T_laws_eqTripleS_lp0_e0 a3 b4)) (fun i7 t8 => (K (.exit 0) (T_laws_eqTripleS_lp0_e1 a3 b4 i7 t8))) n i5
  | 0, _ => rfl
  | n + 1, i5 => by rw [T_laws_eqTripleS_lp0_step, T_laws_eqTripleS_lp0]; (try simp only [T_laws_eqTripleS_lp0_eq N a3 b4 K n])

theorem T_laws_eqTripleS_c1 (N : Nat) (a1 : List (Int × Int × Int)) (b2 : List (Int × Int × Int)) :
    ((ctxK (R := ODen (T_laws_eqTripleS_sg N).ps × RDen (T_laws_eqTripleS_sg N).rs) tab (T_laws_eqTripleS_ctx N) T_laws_eqTripleS_ann N (theCode Try.f39) [1, 1, 0, 1, 0] (retK tab (T_laws_eqTripleS_sg N) Try.f39.results.toList some)) .ret (T_laws_eqTripleS_lp0_e0 a1 b2)) =
    (some (α := ODen (T_laws_eqTripleS_sg N).ps × RDen (T_laws_eqTripleS_sg N).rs) ((), (false, ()))) := by kernel_rfl

theorem T_laws_eqTripleS_c2 (N : Nat) (a1 : List (Int × Int × Int)) (b2 : List (Int × Int × Int)) (i10 : Int) (t11 : Bool) :
    ((ctxK (R := ODen (T_laws_eqTripleS_sg N).ps × RDen (T_laws_eqTripleS_sg N).rs) tab (T_laws_eqTripleS_ctx N) T_laws_eqTripleS_ann N (theCode Try.f39) [1, 1, 0, 1, 0] (retK tab (T_laws_eqTripleS_sg N) Try.f39.results.toList some)) (.exit 0) (T_laws_eqTripleS_lp0_e1 a1 b2 i10 t11)) =
    (some (α := ODen (T_laws_eqTripleS_sg N).ps × RDen (T_laws_eqTripleS_sg N).rs) ((), (true, ()))) := by kernel_rfl

theorem T_laws_eqTripleS_den (N : Nat) (a1 : List (Int × Int × Int)) (b2 : List (Int × Int × Int)) :
    den (R := ODen (T_laws_eqTripleS_sg N).ps × RDen (T_laws_eqTripleS_sg N).rs) tab (T_laws_eqTripleS_ctx N) T_laws_eqTripleS_ann N (T_laws_eqTripleS_sg N) Try.f39 (a1, b2, ()) some =
    (bif (ilen a1) != (ilen b2) then
    (some (α := ODen (T_laws_eqTripleS_sg N).ps × RDen (T_laws_eqTripleS_sg N).rs) ((), (false, ())))
    else
    (T_laws_eqTripleS_lp0 N a1 b2
      (some (α := ODen (T_laws_eqTripleS_sg N).ps × RDen (T_laws_eqTripleS_sg N).rs) ((), (false, ())))
      (fun i10 t11 =>
        (some (α := ODen (T_laws_eqTripleS_sg N).ps × RDen (T_laws_eqTripleS_sg N).rs) ((), (true, ()))))
       N (0 : Int))) := by
  have h : den (R := ODen (T_laws_eqTripleS_sg N).ps × RDen (T_laws_eqTripleS_sg N).rs) tab (T_laws_eqTripleS_ctx N) T_laws_eqTripleS_ann N (T_laws_eqTripleS_sg N) Try.f39 (a1, b2, ()) some =
    (bif (ilen a1) != (ilen b2) then
    (some (α := ODen (T_laws_eqTripleS_sg N).ps × RDen (T_laws_eqTripleS_sg N).rs) ((), (false, ())))
    else
    (T_laws_eqTripleS_lp0_m N N (T_laws_eqTripleS_lp0_sh a1 b2 (0 : Int)) (ctxK (R := ODen (T_laws_eqTripleS_sg N).ps × RDen (T_laws_eqTripleS_sg N).rs) tab (T_laws_eqTripleS_ctx N) T_laws_eqTripleS_ann N (theCode Try.f39) [1, 1, 0, 1, 0] (retK tab (T_laws_eqTripleS_sg N) Try.f39.results.toList some)))) := by kernel_rfl
  rw [h]
  (try simp only [T_laws_eqTripleS_lp0_eq, T_laws_eqTripleS_c1, T_laws_eqTripleS_c2]) <;> rfl

theorem T_laws_eqTripleS_ok (N : Nat) : chkBody Try.f39 (T_laws_eqTripleS_sg N).ps = true := by kernel_rfl

theorem T_laws_eqTripleS_callable : Callable Try.prog 39 := callable_of Try.func39 (show chkFn Try.f39 = true by kernel_rfl)

theorem T_laws_eqTripleS_good (N : Nat) : Good Try.prog 39 (T_laws_eqTripleS_sg N) :=
  good_body mixedOk tabOk (ctx_cons (T_laws_eqTriple_good N) T_laws_eqTriple_callable ctx_nil) Try.func39 (T_laws_eqTripleS_ok N) (fun d _ h => ⟨N, (T_laws_eqTripleS_den N d.1 d.2.1).trans h⟩)

noncomputable def T_laws_eqSeqReader_sg (N : Nat) : Sig := Sig.of [.v (.prod (.int .i64) (.prod (.int .i64) (.prod (.prod (.int .i64) (.prod (.int .i64) (.int .i64))) (.int .i64)))) true, .v (.prod (.int .i64) (.prod (.int .i64) (.prod (.prod (.int .i64) (.prod (.int .i64) (.int .i64))) (.int .i64)))) true] [.v (.bool) false] (fun d => T_laws_eqSeqReader N d.1 d.2.1)

def T_laws_eqSeqReader_ann : Nat → List Ghost
  | _ => []

noncomputable def T_laws_eqSeqReader_ctx (N : Nat) : Ctx := [(79, T_laws_eqTriple_sg N)]

theorem T_laws_eqSeqReader_den (N : Nat) (a1 : Int × Int × (Int × Int × Int) × Int) (b2 : Int × Int × (Int × Int × Int) × Int) :
    den (R := ODen (T_laws_eqSeqReader_sg N).ps × RDen (T_laws_eqSeqReader_sg N).rs) tab (T_laws_eqSeqReader_ctx N) T_laws_eqSeqReader_ann N (T_laws_eqSeqReader_sg N) Try.f98 (a1, b2, ()) some =
    (bif a1.1 != b2.1 then
    (some (α := ODen (T_laws_eqSeqReader_sg N).ps × RDen (T_laws_eqSeqReader_sg N).rs) ((), (false, ())))
    else
    (bif a1.2.1 != b2.2.1 then
      (some (α := ODen (T_laws_eqSeqReader_sg N).ps × RDen (T_laws_eqSeqReader_sg N).rs) ((), (false, ())))
      else
      ((T_laws_eqTriple N a1.2.2.1 b2.2.2.1).bind fun o3 =>
        (bif !o3.2.1 then
          (some (α := ODen (T_laws_eqSeqReader_sg N).ps × RDen (T_laws_eqSeqReader_sg N).rs) ((), (false, ())))
          else
          (bif a1.2.2.2 != b2.2.2.2 then
            (some (α := ODen (T_laws_eqSeqReader_sg N).ps × RDen (T_laws_eqSeqReader_sg N).rs) ((), (false, ())))
            else
            (some (α := ODen (T_laws_eqSeqReader_sg N).ps × RDen (T_laws_eqSeqReader_sg N).rs) ((), (true, ())))))))) := by kernel_rfl

theorem T_laws_eqSeqReader_ok (N : Nat) : chkBody Try.f98 (T_laws_eqSeqReader_sg N).ps = true := by kernel_rfl

theorem T_laws_eqSeqReader_callable : Callable Try.prog 98 := callable_of Try.func98 (show chkFn Try.f98 = true by kernel_rfl)

theorem T_laws_eqSeqReader_good (N : Nat) : Good Try.prog 98 (T_laws_eqSeqReader_sg N) :=
  good_body mixedOk tabOk (ctx_cons (T_laws_eqTriple_good N) T_laws_eqTriple_callable ctx_nil) Try.func98 (T_laws_eqSeqReader_ok N) (fun d _ h => ⟨N, (T_laws_eqSeqReader_den N d.1 d.2.1).trans h⟩)

noncomputable def T_laws_eqSeqReaderS_sg (N : Nat) : Sig := Sig.of [.v (.slice (.prod (.int .i64) (.prod (.int .i64) (.prod (.prod (.int .i64) (.prod (.int .i64) (.int .i64))) (.int .i64))))) false, .v (.slice (.prod (.int .i64) (.prod (.int .i64) (.prod (.prod (.int .i64) (.prod (.int .i64) (.int .i64))) (.int .i64))))) false] [.v (.bool) false] (fun d => T_laws_eqSeqReaderS N d.1 d.2.1)

def T_laws_eqSeqReaderS_ann : Nat → List Ghost
  | 4 => [.canon [0, 1, 5, 14]]
  | 5 => [.canon [0, 1, 5]]
  | 6 => [.canon [0, 1, 5, 26]]
  | 7 => [.canon [4]]
  | 100004 => [.canon [0, 1, 5]]
  | _ => []

noncomputable def T_laws_eqSeqReaderS_ctx (N : Nat) : Ctx := [(98, T_laws_eqSeqReader_sg N)]

def T_laws_eqSeqReaderS_lp0_sh (a3 : List (Int × Int × (Int × Int × Int) × Int)) (b4 : List (Int × Int × (Int × Int × Int) × Int)) (i5 : Int) : St := { env := [(0, .s (.one (.val (.slice (.prod (.int .i64) (.prod (.int .i64) (.prod (.prod (.int .i64) (.prod (.int .i64) (.int .i64))) (.int .i64))))) (a3 : List (Int × Int × (Int × Int × Int) × Int))))), (1, .s (.one (.val (.slice (.prod (.int .i64) (.prod (.int .i64) (.prod (.prod (.int .i64) (.prod (.int .i64) (.int .i64))) (.int .i64))))) (b4 : List (Int × Int × (Int × Int × Int) × Int))))), (5, .s (.one (.val (.int .i64) (i5 : Int))))], objs := [], nx := 0 }

def T_laws_eqSeqReaderS_lp0_e0 (a3 : List (Int × Int × (Int × Int × Int) × Int)) (b4 : List (Int × Int × (Int × Int × Int) × Int)) : St := { env := [(4, .s (.one (.val (.bool) (false : Bool))))], objs := [], nx := 0 }

def T_laws_eqSeqReaderS_lp0_e1 (a3 : List (Int × Int × (Int × Int × Int) × Int)) (b4 : List (Int × Int × (Int × Int × Int) × Int)) (i7 : Int) (t8 : Bool) : St := { env := [(0, .s (.one (.val (.slice (.prod (.int .i64) (.prod (.int .i64) (.prod (.prod (.int .i64) (.prod (.int .i64) (.int .i64))) (.int .i64))))) (a3 : List (Int × Int × (Int × Int × Int) × Int))))), (1, .s (.one (.val (.slice (.prod (.int .i64) (.prod (.int .i64) (.prod (.prod (.int .i64) (.prod (.int .i64) (.int .i64))) (.int .i64))))) (b4 : List (Int × Int × (Int × Int × Int) × Int))))), (5, .s (.one (.val (.int .i64) (i7 : Int)))), (14, .s (.one (.val (.bool) (t8 : Bool))))], objs := [], nx := 0 }

noncomputable def T_laws_eqSeqReaderS_lp0_m (N : Nat) {R : Type} (n : Nat) (st : St) (K : Ex → St → Option R) : Option R := loopN (roundG (T_laws_eqSeqReaderS_ann 100004) fun st k => sx tab (T_laws_eqSeqReaderS_ctx N) T_laws_eqSeqReaderS_ann N (nthLoop Try.f80 0) st k) n st K

theorem T_laws_eqSeqReaderS_lp0_step (N : Nat) {R : Type} (n : Nat) (K : Ex → St → Option R) (a3 : List (Int × Int × (Int × Int × Int) × Int)) (b4 : List (Int × Int × (Int × Int × Int) × Int)) (i5 : Int) :
    T_laws_eqSeqReaderS_lp0_m N (n + 1) (T_laws_eqSeqReaderS_lp0_sh a3 b4 i5) K =
    (bif decide (i5 < (ilen a3)) then
    (bif inb i5 (List.length a3) then
      (bif inb i5 (List.length b4) then
        ((T_laws_eqSeqReader N (List.getD a3 (Int.toNat i5) ((0 : Int), ((0 : Int), (((0 : Int), ((0 : Int), (0 : Int))), (0 : Int))))) (List.getD b4 (Int.toNat i5) ((0 : Int), ((0 : Int), (((0 : Int), ((0 : Int), (0 : Int))), (0 : Int)))))).bind fun o9 =>
          (bif !o9.2.1 then
            (K .ret (T_laws_eqSeqReaderS_lp0_e0 a3 b4))
            else
            (T_laws_eqSeqReaderS_lp0_m N n (T_laws_eqSeqReaderS_lp0_sh a3 b4 (iadd .i64 i5 (1 : Int))) K))) else none) else none)
    else
    (K (.exit 0) (T_laws_eqSeqReaderS_lp0_e1 a3 b4 i5 (decide (i5 < (ilen a3)))))) := by kernel_rfl

theorem T_laws_eqSeqReaderS_lp0_eq (N : Nat) {R : Type} (a3 : List (Int × Int × (Int × Int × Int) × Int)) (b4 : List (Int × Int × (Int × Int × Int) × Int)) (K : Ex → St → Option R) : ∀ (n : Nat) (i5 : Int), T_laws_eqSeqReaderS_lp0_m N n (T_laws_eqSeqReaderS_lp0_sh a3 b4 i5) K = T_laws_eqSeqReaderS_lp0 N a3 b4 (K .ret (T_laws_eqSeqReaderS_lp0_e0 a3 b4)) (fun i7 t8 => (K (.exit 0) (T_laws_eqSeqReaderS_lp0_e1 a3 b4 i7 t8))) n i5
  | 0, _ => rfl
  | n + 1, i5 => by rw [T_laws_eqSeqReaderS_lp0_step, T_laws_eqSeqReaderS_lp0]; (try simp only [T_laws_eqSeqReaderS_lp0_eq N a3 b4 K n])

theorem T_laws_eqSeqReaderS_c1 (N : Nat) (a1 : List (Int × Int × (Int × Int × Int) × Int)) (b2 : List (Int × Int × (Int × Int × Int) × Int)) :
    ((ctxK (R := ODen (T_laws_eqSeqReaderS_sg N).ps × RDen (T_laws_eqSeqReaderS_sg N).rs) tab (T_laws_eqSeqReaderS_ctx N) T_laws_eqSeqReaderS_ann N (theCode Try.f80) [1, 1, 0, 1, 0] (retK tab (T_laws_eqSeqReaderS_sg N) Try.f80.results.toList some)) .ret (T_laws_eqSeqReaderS_lp0_e0 a1 b2)) =
    (some (α := ODen (T_laws_eqSeqReaderS_sg N).ps × RDen (T_laws_eqSeqReaderS_sg N).rs) ((), (false, ()))) := by kernel_rfl

theorem T_laws_eqSeqReaderS_c2 (N : Nat) (a1 : List (Int × Int × (Int × Int × Int) × Int)) (b2 : List (Int × Int × (Int × Int × Int) × Int)) (i10 : Int) (t11 : Bool) :
    ((ctxK (R := ODen (T_laws_eqSeqReaderS_sg N).ps × RDen (T_laws_eqSeqReaderS_sg N).rs) tab (T_laws_eqSeqReaderS_ctx N) T_laws_eqSeqReaderS_ann N (theCode Try.f80) [1, 1, 0, 1, 0] (retK tab (T_laws_eqSeqReaderS_sg N) Try.f80.results.toList some)) (.exit 0) (T_laws_eqSeqReaderS_lp0_e1 a1 b2 i10 t11)) =
    (some (α := ODen (T_laws_eqSeqReaderS_sg N).ps × RDen (T_laws_eqSeqReaderS_sg N).rs) ((), (true, ()))) := by kernel_rfl

theorem T_laws_eqSeqReaderS_den (N : Nat) (a1 : List (Int × Int × (Int × Int × Int) × Int)) (b2 : List (Int × Int × (Int × Int × Int) × Int)) :
    den (R := ODen (T_laws_eqSeqReaderS_sg N).ps × RDen (T_laws_eqSeqReaderS_sg N).rs) tab (T_laws_eqSeqReaderS_ctx N) T_laws_eqSeqReaderS_ann N (T_laws_eqSeqReaderS_sg N) Try.f80 (a1, b2, ()) some =
    (bif (ilen a1) != (ilen b2) then
    (some (α := ODen (T_laws_eqSeqReaderS_sg N).ps × RDen (T_laws_eqSeqReaderS_sg N).rs) ((), (false, ())))
    else
    (T_laws_eqSeqReaderS_lp0 N a1 b2
      (some (α := ODen (T_laws_eqSeqReaderS_sg N).ps × RDen (T_laws_eqSeqReaderS_sg N).rs) ((), (false, ())))
      (fun i10 t11 =>
        (some (α := ODen (T_laws_eqSeqReaderS_sg N).ps × RDen (T_laws_eqSeqReaderS_sg N).rs) ((), (true, ()))))
       N (0 : Int))) := by
  have h : den (R := ODen (T_laws_eqSeqReaderS_sg N).ps × RDen (T_laws_eqSeqReaderS_sg N).rs) tab (T_laws_eqSeqReaderS_ctx N) T_laws_eqSeqReaderS_ann N (T_laws_eqSeqReaderS_sg N) Try.f80 (a1, b2, ()) some =
    (bif (ilen a1) != (ilen b2) then
    (some (α := ODen (T_laws_eqSeqReaderS_sg N).ps × RDen (T_laws_eqSeqReaderS_sg N).rs) ((), (false, ())))
    else
    (T_laws_eqSeqReaderS_lp0_m N N (T_laws_eqSeqReaderS_lp0_sh a1 b2 (0 : Int)) (ctxK (R := ODen (T_laws_eqSeqReaderS_sg N).ps × RDen (T_laws_eqSeqReaderS_sg N).rs) tab (T_laws_eqSeqReaderS_ctx N) T_laws_eqSeqReaderS_ann N (theCode Try.f80) [1, 1, 0, 1, 0] (retK tab (T_laws_eqSeqReaderS_sg N) Try.f80.results.toList some)))) := by kernel_rfl
  rw [h]
  (try simp only [T_laws_eqSeqReaderS_lp0_eq, T_laws_eqSeqReaderS_c1, T_laws_eqSeqReaderS_c2]) <;> rfl

theorem T_laws_eqSeqReaderS_ok (N : Nat) : chkBody Try.f80 (T_laws_eqSeqReaderS_sg N).ps = true := by kernel_rfl

theorem T_laws_eqSeqReaderS_callable : Callable Try.prog 80 := callable_of Try.func80 (show chkFn Try.f80 = true by kernel_rfl)

theorem T_laws_eqSeqReaderS_good (N : Nat) : Good Try.prog 80 (T_laws_eqSeqReaderS_sg N) :=
  good_body mixedOk tabOk (ctx_cons (T_laws_eqSeqReader_good N) T_laws_eqSeqReader_callable ctx_nil) Try.func80 (T_laws_eqSeqReaderS_ok N) (fun d _ h => ⟨N, (T_laws_eqSeqReaderS_den N d.1 d.2.1).trans h⟩)

noncomputable def T_laws_eqSeqRead_sg (N : Nat) : Sig := Sig.of [.v (.prod (.int .i64) (.prod (.int .i64) (.prod (.int .i64) (.prod (.int .i64) (.int .i64))))) true, .v (.prod (.int .i64) (.prod (.int .i64) (.prod (.int .i64) (.prod (.int .i64) (.int .i64))))) true] [.v (.bool) false] (fun d => T_laws_eqSeqRead N d.1 d.2.1)

def T_laws_eqSeqRead_ann : Nat → List Ghost
  | _ => []

noncomputable def T_laws_eqSeqRead_ctx (N : Nat) : Ctx := [(79, T_laws_eqTriple_sg N)]

theorem T_laws_eqSeqRead_den (N : Nat) (a1 : Int × Int × Int × Int × Int) (b2 : Int × Int × Int × Int × Int) :
    den (R := ODen (T_laws_eqSeqRead_sg N).ps × RDen (T_laws_eqSeqRead_sg N).rs) tab (T_laws_eqSeqRead_ctx N) T_laws_eqSeqRead_ann N (T_laws_eqSeqRead_sg N) Try.f99 (a1, b2, ()) some =
    (bif a1.1 != b2.1 then
    (some (α := ODen (T_laws_eqSeqRead_sg N).ps × RDen (T_laws_eqSeqRead_sg N).rs) ((), (false, ())))
    else
    (bif a1.2.1 != b2.2.1 then
      (some (α := ODen (T_laws_eqSeqRead_sg N).ps × RDen (T_laws_eqSeqRead_sg N).rs) ((), (false, ())))
      else
      ((T_laws_eqTriple N a1.2.2 b2.2.2).bind fun o3 =>
        (bif !o3.2.1 then
          (some (α := ODen (T_laws_eqSeqRead_sg N).ps × RDen (T_laws_eqSeqRead_sg N).rs) ((), (false, ())))
          else
          (some (α := ODen (T_laws_eqSeqRead_sg N).ps × RDen (T_laws_eqSeqRead_sg N).rs) ((), (true, ()))))))) := by kernel_rfl

theorem T_laws_eqSeqRead_ok (N : Nat) : chkBody Try.f99 (T_laws_eqSeqRead_sg N).ps = true := by kernel_rfl

theorem T_laws_eqSeqRead_callable : Callable Try.prog 99 := callable_of Try.func99 (show chkFn Try.f99 = true by kernel_rfl)

theorem T_laws_eqSeqRead_good (N : Nat) : Good Try.prog 99 (T_laws_eqSeqRead_sg N) :=
  good_body mixedOk tabOk (ctx_cons (T_laws_eqTriple_good N) T_laws_eqTriple_callable ctx_nil) Try.func99 (T_laws_eqSeqRead_ok N) (fun d _ h => ⟨N, (T_laws_eqSeqRead_den N d.1 d.2.1).trans h⟩)

noncomputable def T_laws_eqSeqReadS_sg (N : Nat) : Sig := Sig.of [.v (.slice (.prod (.int .i64) (.prod (.int .i64) (.prod (.int .i64) (.prod (.int .i64) (.int .i64)))))) false, .v (.slice (.prod (.int .i64) (.prod (.int .i64) (.prod (.int .i64) (.prod (.int .i64) (.int .i64)))))) false] [.v (.bool) false] (fun d => T_laws_eqSeqReadS N d.1 d.2.1)

def T_laws_eqSeqReadS_ann : Nat → List Ghost
  | 4 => [.canon [0, 1, 5, 14]]
  | 5 => [.canon [0, 1, 5]]
  | 6 => [.canon [0, 1, 5, 26]]
  | 7 => [.canon [4]]
  | 100004 => [.canon [0, 1, 5]]
  | _ => []

noncomputable def T_laws_eqSeqReadS_ctx (N : Nat) : Ctx := [(99, T_laws_eqSeqRead_sg N)]

def T_laws_eqSeqReadS_lp0_sh (a3 : List (Int × Int × Int × Int × Int)) (b4 : List (Int × Int × Int × Int × Int)) (i5 : Int) : St := { env := [(0, .s (.one (.val (.slice (.prod (.int .i64) (.prod (.int .i64) (.prod (.int .i64) (.prod (.int .i64) (.int .i64)))))) (a3 : List (Int × Int × Int × Int × Int))))), (1, .s (.one (.val (.slice (.prod (.int .i64) (.prod (.int .i64) (.prod (.int .i64) (.prod (.int .i64) (.int .i64)))))) (b4 : List (Int × Int × Int × Int × Int))))), (5, .s (.one (.val (.int .i64) (i5 : Int))))], objs := [], nx := 0 }

def T_laws_eqSeqReadS_lp0_e0 (a3 : List (Int × Int × Int × Int × Int)) (b4 : List (Int × Int × Int × Int × Int)) : St := { env := [(4, .s (.one (.val (.bool) (false : Bool))))], objs := [], nx := 0 }

def T_laws_eqSeqReadS_lp0_e1 (a3 : List (Int × Int × Int × Int × Int)) (b4 : List (Int × Int × Int × Int × Int)) (i7 : Int) (t8 : Bool) : St := { env := [(0, .s (.one (.val (.slice (.prod (.int .i64) (.prod (.int .i64) (.prod (.int .i64) (.prod (.int .i64) (.int .i64)))))) (a3 : List (Int × Int × Int × Int × Int))))), (1, .s (.one (.val (.slice (.prod (.int .i64) (.prod (.int .i64) (.prod (.int .i64) (.prod (.int .i64) (.int .i64)))))) (b4 : List (Int × Int × Int × Int × Int))))), (5, .s (.one (.val (.int .i64) (i7 : Int)))), (14, .s (.one (.val (.bool) (t8 : Bool))))], objs := [], nx := 0 }

noncomputable def T_laws_eqSeqReadS_lp0_m (N : Nat) {R : Type} (n : Nat) (st : St) (K : Ex → St → Option R) : Option R := loopN (roundG (T_laws_eqSeqReadS_ann 100004) fun st k => sx tab (T_laws_eqSeqReadS_ctx N) T_laws_eqSeqReadS_ann N (nthLoop Try.f81 0) st k) n st K

theorem T_laws_eqSeqReadS_lp0_step (N : Nat) {R : Type} (n : Nat) (K : Ex → St → Option R) (a3 : List (Int × Int × Int × Int × Int)) (b4 : List (Int × Int × Int × Int × Int)) (i5 : Int) :
    T_laws_eqSeqReadS_lp0_m N (n + 1) (T_laws_eqSeqReadS_lp0_sh a3 b4 i5) K =
    (bif decide (i5 < (ilen a3)) then
    (bif inb i5 (List.length a3) then
      (bif inb i5 (List.length b4) then
        ((T_laws_eqSeqRead N (List.getD a3 (Int.toNat i5) ((0 : Int), ((0 : Int), ((0 : Int), ((0 : Int), (0 : Int)))))) (List.getD b4 (Int.toNat i5) ((0 : Int), ((0 : Int), ((0 : Int), ((0 : Int), (0 : Int))))))).bind fun o9 =>
          (bif !o9.2.1 then
            (K .ret (T_laws_eqSeqReadS_lp0_e0 a3 b4))
            else
            (T_laws_eqSeqReadS_lp0_m N n (T_laws_eqSeqReadS_lp0_sh a3 b4 (iadd .i64 i5 (1 : Int))) K))) else none) else none)
    else
    (K (.exit 0) (T_laws_eqSeqReadS_lp0_e1 a3 b4 i5 (decide (i5 < (ilen a3)))))) := by kernel_rfl

theorem T_laws_eqSeqReadS_lp0_eq (N : Nat) {R : Type} (a3 : List (Int × Int × Int × Int × Int)) (b4 : List (Int × Int × Int × Int × Int)) (K : Ex → St → Option R) : ∀ (n : Nat) (i5 : Int), T_laws_eqSeqReadS_lp0_m N n (T_laws_eqSeqReadS_lp0_sh a3 b4 i5) K = T_laws_eqSeqReadS_lp0 N a3 b4 (K .ret (T_laws_eqSeqReadS_lp0_e0 a3 b4)) (fun i7 t8 => (K (.exit 0) (T_laws_eqSeqReadS_lp0_e1 a3 b4 i7 t8))) n i5
  | 0, _ => rfl
  | n + 1, i5 => by rw [T_laws_eqSeqReadS_lp0_step, T_laws_eqSeqReadS_lp0]; (try simp only [T_laws_eqSeqReadS_lp0_eq N a3 b4 K n])

theorem T_laws_eqSeqReadS_c1 (N : Nat) (a1 : List (Int × Int × Int × Int × Int)) (b2 : List (Int × Int × Int × Int × Int)) :
    ((ctxK (R := ODen (T_laws_eqSeqReadS_sg N).ps × RDen (T_laws_eqSeqReadS_sg N).rs) tab (T_laws_eqSeqReadS_ctx N) T_laws_eqSeqReadS_ann N (theCode Try.f81) [1, 1, 0, 1, 0] (retK tab (T_laws_eqSeqReadS_sg N) Try.f81.results.toList some)) .ret (T_laws_eqSeqReadS_lp0_e0 a1 b2)) =
    (some (α := ODen (T_laws_eqSeqReadS_sg N).ps × RDen (T_laws_eqSeqReadS_sg N).rs) ((), (false, ()))) := by kernel_rfl

theorem T_laws_eqSeqReadS_c2 (N : Nat) (a1 : List (Int × Int × Int × Int × Int)) (b2 : List (Int × Int × Int × Int × Int)) (i10 : Int) (t11 : Bool) :
    ((ctxK (R := ODen (T_laws_eqSeqReadS_sg N).ps × RDen (T_laws_eqSeqReadS_sg N).rs) tab (T_laws_eqSeqReadS_ctx N) T_laws_eqSeqReadS_ann N (theCode Try.f81) [1, 1, 0, 1, 0] (retK tab (T_laws_eqSeqReadS_sg N) Try.f81.results.toList some)) (.exit 0) (T_laws_eqSeqReadS_lp0_e1 a1 b2 i10 t11)) =
    (some (α := ODen (T_laws_eqSeqReadS_sg N).ps × RDen (T_laws_eqSeqReadS_sg N).rs) ((), (true, ()))) := by kernel_rfl

theorem T_laws_eqSeqReadS_den (N : Nat) (a1 : List (Int × Int × Int × Int × Int)) (b2 : List (Int × Int × Int × Int × Int)) :
    den (R := ODen (T_laws_eqSeqReadS_sg N).ps × RDen (T_laws_eqSeqReadS_sg N).rs) tab (T_laws_eqSeqReadS_ctx N) T_laws_eqSeqReadS_ann N (T_laws_eqSeqReadS_sg N) Try.f81 (a1, b2, ()) some =
    (bif (ilen a1) != (ilen b2) then
    (some (α := ODen (T_laws_eqSeqReadS_sg N).ps × RDen (T_laws_eqSeqReadS_sg N).rs) ((), (false, ())))
    else
    (T_laws_eqSeqReadS_lp0 N a1 b2
      (some (α := ODen (T_laws_eqSeqReadS_sg N).ps × RDen (T_laws_eqSeqReadS_sg N).rs) ((), (false, ())))
      (fun i10 t11 =>
        (some (α := ODen (T_laws_eqSeqReadS_sg N).ps × RDen (T_laws_eqSeqReadS_sg N).rs) ((), (true, ()))))
       N (0 : Int))) := by
  have h : den (R := ODen (T_laws_eqSeqReadS_sg N).ps × RDen (T_laws_eqSeqReadS_sg N).rs) tab (T_laws_eqSeqReadS_ctx N) T_laws_eqSeqReadS_ann N (T_laws_eqSeqReadS_sg N) Try.f81 (a1, b2, ()) some =
    (bif (ilen a1) != (ilen b2) then
    (some (α := ODen (T_laws_eqSeqReadS_sg N).ps × RDen (T_laws_eqSeqReadS_sg N).rs) ((), (false, ())))
    else
    (T_laws_eqSeqReadS_lp0_m N N (T_laws_eqSeqReadS_lp0_sh a1 b2 (0 : Int)) (ctxK (R := ODen (T_laws_eqSeqReadS_sg N).ps × RDen (T_laws_eqSeqReadS_sg N).rs) tab (T_laws_eqSeqReadS_ctx N) T_laws_eqSeqReadS_ann N (theCode Try.f81) [1, 1, 0, 1, 0] (retK tab (T_laws_eqSeqReadS_sg N) Try.f81.results.toList some)))) := by kernel_rfl
  rw [h]
  (try simp only [T_laws_eqSeqReadS_lp0_eq, T_laws_eqSeqReadS_c1, T_laws_eqSeqReadS_c2]) <;> rfl

theorem T_laws_eqSeqReadS_ok (N : Nat) : chkBody Try.f81 (T_laws_eqSeqReadS_sg N).ps = true := by kernel_rfl

theorem T_laws_eqSeqReadS_callable : Callable Try.prog 81 := callable_of Try.func81 (show chkFn Try.f81 = true by kernel_rfl)

theorem T_laws_eqSeqReadS_good (N : Nat) : Good Try.prog 81 (T_laws_eqSeqReadS_sg N) :=
  good_body mixedOk tabOk (ctx_cons (T_laws_eqSeqRead_good N) T_laws_eqSeqRead_callable ctx_nil) Try.func81 (T_laws_eqSeqReadS_ok N) (fun d _ h => ⟨N, (T_laws_eqSeqReadS_den N d.1 d.2.1).trans h⟩)

noncomputable def T_laws_eqSeqWorld_sg (N : Nat) : Sig := Sig.of [.v (.prod (.int .i64) (.prod (.prod (.int .i64) (.prod (.int .i64) (.int .i64))) (.prod (.int .i64) (.prod (.int .i64) (.prod (.slice (.prod (.int .i64) (.prod (.int .i64) (.prod (.prod (.int .i64) (.prod (.int .i64) (.int .i64))) (.int .i64))))) (.slice (.prod (.int .i64) (.prod (.int .i64) (.prod (.int .i64) (.prod (.int .i64) (.int .i64))))))))))) true, .v (.prod (.int .i64) (.prod (.prod (.int .i64) (.prod (.int .i64) (.int .i64))) (.prod (.int .i64) (.prod (.int .i64) (.prod (.slice (.prod (.int .i64) (.prod (.int .i64) (.prod (.prod (.int .i64) (.prod (.int .i64) (.int .i64))) (.int .i64))))) (.slice (.prod (.int .i64) (.prod (.int .i64) (.prod (.int .i64) (.prod (.int .i64) (.int .i64))))))))))) true] [.v (.bool) false] (fun d => T_laws_eqSeqWorld N d.1 d.2.1)

def T_laws_eqSeqWorld_ann : Nat → List Ghost
  | _ => []

noncomputable def T_laws_eqSeqWorld_ctx (N : Nat) : Ctx := [(79, T_laws_eqTriple_sg N), (80, T_laws_eqSeqReaderS_sg N), (81, T_laws_eqSeqReadS_sg N)]

theorem T_laws_eqSeqWorld_den (N : Nat) (a1 : Int × (Int × Int × Int) × Int × Int × List (Int × Int × (Int × Int × Int) × Int) × List (Int × Int × Int × Int × Int)) (b2 : Int × (Int × Int × Int) × Int × Int × List (Int × Int × (Int × Int × Int) × Int) × List (Int × Int × Int × Int × Int)) :
    den (R := ODen (T_laws_eqSeqWorld_sg N).ps × RDen (T_laws_eqSeqWorld_sg N).rs) tab (T_laws_eqSeqWorld_ctx N) T_laws_eqSeqWorld_ann N (T_laws_eqSeqWorld_sg N) Try.f40 (a1, b2, ()) some =
    (bif a1.1 != b2.1 then
    (some (α := ODen (T_laws_eqSeqWorld_sg N).ps × RDen (T_laws_eqSeqWorld_sg N).rs) ((), (false, ())))
    else
    ((T_laws_eqTriple N a1.2.1 b2.2.1).bind fun o3 =>
      (bif !o3.2.1 then
        (some (α := ODen (T_laws_eqSeqWorld_sg N).ps × RDen (T_laws_eqSeqWorld_sg N).rs) ((), (false, ())))
        else
        (bif a1.2.2.1 != b2.2.2.1 then
          (some (α := ODen (T_laws_eqSeqWorld_sg N).ps × RDen (T_laws_eqSeqWorld_sg N).rs) ((), (false, ())))
          else
          (bif a1.2.2.2.1 != b2.2.2.2.1 then
            (some (α := ODen (T_laws_eqSeqWorld_sg N).ps × RDen (T_laws_eqSeqWorld_sg N).rs) ((), (false, ())))
            else
            ((T_laws_eqSeqReaderS N a1.2.2.2.2.1 b2.2.2.2.2.1).bind fun o4 =>
              (bif !o4.2.1 then
                (some (α := ODen (T_laws_eqSeqWorld_sg N).ps × RDen (T_laws_eqSeqWorld_sg N).rs) ((), (false, ())))
                else
                ((T_laws_eqSeqReadS N a1.2.2.2.2.2 b2.2.2.2.2.2).bind fun o5 =>
                  (bif !o5.2.1 then
                    (some (α := ODen (T_laws_eqSeqWorld_sg N).ps × RDen (T_laws_eqSeqWorld_sg N).rs) ((), (false, ())))
                    else
                    (some (α := ODen (T_laws_eqSeqWorld_sg N).ps × RDen (T_laws_eqSeqWorld_sg N).rs) ((), (true, ())))))))))))) := by kernel_rfl

theorem T_laws_eqSeqWorld_ok (N : Nat) : chkBody Try.f40 (T_laws_eqSeqWorld_sg N).ps = true := by kernel_rfl

theorem T_laws_eqSeqWorld_callable : Callable Try.prog 40 := callable_of Try.func40 (show chkFn Try.f40 = true by kernel_rfl)

theorem T_laws_eqSeqWorld_good (N : Nat) : Good Try.prog 40 (T_laws_eqSeqWorld_sg N) :=
  good_body mixedOk tabOk (ctx_cons (T_laws_eqTriple_good N) T_laws_eqTriple_callable (ctx_cons (T_laws_eqSeqReaderS_good N) T_laws_eqSeqReaderS_callable (ctx_cons (T_laws_eqSeqReadS_good N) T_laws_eqSeqReadS_callable ctx_nil))) Try.func40 (T_laws_eqSeqWorld_ok N) (fun d _ h => ⟨N, (T_laws_eqSeqWorld_den N d.1 d.2.1).trans h⟩)

noncomputable def T_laws_FnExactSeqTrue_sg (N : Nat) : Sig := Sig.of [.v (.prod (.int .i64) (.prod (.int .i64) (.int .i64))) true, .v (.slice (.prod (.int .i64) (.prod (.int .i64) (.int .i64)))) false, .v (.prod (.int .i64) (.prod (.prod (.int .i64) (.prod (.int .i64) (.int .i64))) (.prod (.int .i64) (.prod (.int .i64) (.prod (.slice (.prod (.int .i64) (.prod (.int .i64) (.prod (.prod (.int .i64) (.prod (.int .i64) (.int .i64))) (.int .i64))))) (.slice (.prod (.int .i64) (.prod (.int .i64) (.prod (.int .i64) (.prod (.int .i64) (.int .i64))))))))))) true] [.v (.bool) false] (fun d => T_laws_FnExactSeqTrue N d.1 d.2.1 d.2.2.1)

def T_laws_FnExactSeqTrue_ann : Nat → List Ghost
  | _ => []

noncomputable def T_laws_FnExactSeqTrue_ctx (N : Nat) : Ctx := [(34, T_laws_szTripleS_sg N), (35, T_laws_szSeqWorld_sg N), (36, T_laws_toTriple_sg N), (37, T_laws_toTripleS_sg N), (38, T_laws_toSeqWorld_sg N), (26, T_spec_SeqTrue_sg N), (27, T_impl_SeqTrue_sg N), (39, T_laws_eqTripleS_sg N), (40, T_laws_eqSeqWorld_sg N)]

theorem T_laws_FnExactSeqTrue_den (N : Nat) (aStart1 : Int × Int × Int) (aL2 : List (Int × Int × Int)) (aW3 : Int × (Int × Int × Int) × Int × Int × List (Int × Int × (Int × Int × Int) × Int) × List (Int × Int × Int × Int × Int)) :
    den (R := ODen (T_laws_FnExactSeqTrue_sg N).ps × RDen (T_laws_FnExactSeqTrue_sg N).rs) tab (T_laws_FnExactSeqTrue_ctx N) T_laws_FnExactSeqTrue_ann N (T_laws_FnExactSeqTrue_sg N) Try.f7 (aStart1, aL2, aW3, ()) some =
    ((T_laws_szTripleS N aL2 (1048576 : Int)).bind fun o4 =>
    (bif decide (o4.2.1 < (0 : Int)) then
      (some (α := ODen (T_laws_FnExactSeqTrue_sg N).ps × RDen (T_laws_FnExactSeqTrue_sg N).rs) ((), (true, ())))
      else
      ((T_laws_szSeqWorld N aW3 o4.2.1).bind fun o5 =>
        (bif decide (o5.2.1 < (0 : Int)) then
          (some (α := ODen (T_laws_FnExactSeqTrue_sg N).ps × RDen (T_laws_FnExactSeqTrue_sg N).rs) ((), (true, ())))
          else
          ((T_laws_toTriple N aStart1).bind fun o6 =>
            ((T_laws_toTripleS N aL2).bind fun o7 =>
              ((T_laws_toSeqWorld N aW3).bind fun o8 =>
                ((T_spec_SeqTrue N o6.2.1 o7.2.1 o8.2.1).bind fun o9 =>
                  ((T_laws_toTripleS N aL2).bind fun o10 =>
                    ((T_laws_toSeqWorld N aW3).bind fun o11 =>
                      ((T_laws_toTriple N aStart1).bind fun o12 =>
                        ((T_impl_SeqTrue N o12.2.1 o10.2.1 o11.2.1).bind fun o13 =>
                          (bif !(beq o13.2.1 o9.2.1) then
                            (some (α := ODen (T_laws_FnExactSeqTrue_sg N).ps × RDen (T_laws_FnExactSeqTrue_sg N).rs) ((), (false, ())))
                            else
                            ((T_laws_toTripleS N aL2).bind fun o14 =>
                              ((T_laws_eqTripleS N o10.2.1 o14.2.1).bind fun o15 =>
                                (bif !o15.2.1 then
                                  (some (α := ODen (T_laws_FnExactSeqTrue_sg N).ps × RDen (T_laws_FnExactSeqTrue_sg N).rs) ((), (false, ())))
                                  else
                                  ((T_laws_toSeqWorld N aW3).bind fun o16 =>
                                    ((T_laws_eqSeqWorld N o11.2.1 o16.2.1).bind fun o17 =>
                                      (bif !o17.2.1 then
                                        (some (α := ODen (T_laws_FnExactSeqTrue_sg N).ps × RDen (T_laws_FnExactSeqTrue_sg N).rs) ((), (false, ())))
                                        else
                                        (some (α := ODen (T_laws_FnExactSeqTrue_sg N).ps × RDen (T_laws_FnExactSeqTrue_sg N).rs) ((), (true, ())))))))))))))))))))))) := by kernel_rfl

theorem T_laws_FnExactSeqTrue_ok (N : Nat) : chkBody Try.f7 (T_laws_FnExactSeqTrue_sg N).ps = true := by kernel_rfl

theorem T_laws_FnExactSeqTrue_callable : Callable Try.prog 7 := callable_of Try.func7 (show chkFn Try.f7 = true by kernel_rfl)

theorem T_laws_FnExactSeqTrue_good (N : Nat) : Good Try.prog 7 (T_laws_FnExactSeqTrue_sg N) :=
  good_body mixedOk tabOk (ctx_cons (T_laws_szTripleS_good N) T_laws_szTripleS_callable (ctx_cons (T_laws_szSeqWorld_good N) T_laws_szSeqWorld_callable (ctx_cons (T_laws_toTriple_good N) T_laws_toTriple_callable (ctx_cons (T_laws_toTripleS_good N) T_laws_toTripleS_callable (ctx_cons (T_laws_toSeqWorld_good N) T_laws_toSeqWorld_callable (ctx_cons (T_spec_SeqTrue_good N) T_spec_SeqTrue_callable (ctx_cons (T_impl_SeqTrue_good N) T_impl_SeqTrue_callable (ctx_cons (T_laws_eqTripleS_good N) T_laws_eqTripleS_callable (ctx_cons (T_laws_eqSeqWorld_good N) T_laws_eqSeqWorld_callable ctx_nil))))))))) Try.func7 (T_laws_FnExactSeqTrue_ok N) (fun d _ h => ⟨N, (T_laws_FnExactSeqTrue_den N d.1 d.2.1 d.2.2.1).trans h⟩)

end Go.Sx
