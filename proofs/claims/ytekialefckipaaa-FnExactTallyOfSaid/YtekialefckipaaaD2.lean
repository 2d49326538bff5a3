/- Each Go function does what its Lean function says. -/
import Derived.Test.YtekialefckipaaaD
namespace Go.Sx
open Go.Proofs
set_option linter.unusedVariables false
set_option linter.unusedSimpArgs false

theorem T_laws_eqCommit_callable : Callable Try.prog 171 := callable_of Try.func171 (show chkFn Try.f171 = true by kernel_rfl)

theorem T_laws_eqCommit_good (N : Nat) : Good Try.prog 171 (T_laws_eqCommit_sg N) :=
  good_body mixedOk tabOk (ctx_cons (T_laws_eqRowS_good N) T_laws_eqRowS_callable (ctx_cons (T_laws_eqIntS_good N) T_laws_eqIntS_callable ctx_nil)) Try.func171 (T_laws_eqCommit_ok N) (fun d _ h => ⟨N, (T_laws_eqCommit_den N d.1 d.2.1).trans h⟩)

noncomputable def T_laws_eqEntry_sg (N : Nat) : Sig := Sig.of [.v (.prod (.int .i64) (.prod (.int .i64) (.int .i64))) true, .v (.prod (.int .i64) (.prod (.int .i64) (.int .i64))) true] [.v (.bool) false] (fun d => T_laws_eqEntry N d.1 d.2.1)

def T_laws_eqEntry_ann : Nat → List Ghost
  | _ => []

noncomputable def T_laws_eqEntry_ctx (N : Nat) : Ctx := []

theorem T_laws_eqEntry_den (N : Nat) (a1 : Int × Int × Int) (b2 : Int × Int × Int) :
    den (R := ODen (T_laws_eqEntry_sg N).ps × RDen (T_laws_eqEntry_sg N).rs) tab (T_laws_eqEntry_ctx N) T_laws_eqEntry_ann N (T_laws_eqEntry_sg N) Try.f204 (a1, b2, ()) some =
    (bif a1.1 != b2.1 then
    (some (α := ODen (T_laws_eqEntry_sg N).ps × RDen (T_laws_eqEntry_sg N).rs) ((), (false, ())))
    else
    (bif a1.2.1 != b2.2.1 then
      (some (α := ODen (T_laws_eqEntry_sg N).ps × RDen (T_laws_eqEntry_sg N).rs) ((), (false, ())))
      else
      (bif a1.2.2 != b2.2.2 then
        (some (α := ODen (T_laws_eqEntry_sg N).ps × RDen (T_laws_eqEntry_sg N).rs) ((), (false, ())))
        else
        (some (α := ODen (T_laws_eqEntry_sg N).ps × RDen (T_laws_eqEntry_sg N).rs) ((), (true, ())))))) := by kernel_rfl

theorem T_laws_eqEntry_ok (N : Nat) : chkBody Try.f204 (T_laws_eqEntry_sg N).ps = true := by kernel_rfl

theorem T_laws_eqEntry_callable : Callable Try.prog 204 := callable_of Try.func204 (show chkFn Try.f204 = true by kernel_rfl)

theorem T_laws_eqEntry_good (N : Nat) : Good Try.prog 204 (T_laws_eqEntry_sg N) :=
  good_body mixedOk tabOk ctx_nil Try.func204 (T_laws_eqEntry_ok N) (fun d _ h => ⟨N, (T_laws_eqEntry_den N d.1 d.2.1).trans h⟩)

noncomputable def T_laws_eqEntryS_sg (N : Nat) : Sig := Sig.of [.v (.slice (.prod (.int .i64) (.prod (.int .i64) (.int .i64)))) false, .v (.slice (.prod (.int .i64) (.prod (.int .i64) (.int .i64)))) false] [.v (.bool) false] (fun d => T_laws_eqEntryS N d.1 d.2.1)

def T_laws_eqEntryS_ann : Nat → List Ghost
  | 4 => [.canon [0, 1, 5, 14]]
  | 5 => [.canon [0, 1, 5]]
  | 6 => [.canon [0, 1, 5, 26]]
  | 7 => [.canon [4]]
  | 100004 => [.canon [0, 1, 5]]
  | _ => []

noncomputable def T_laws_eqEntryS_ctx (N : Nat) : Ctx := [(204, T_laws_eqEntry_sg N)]

def T_laws_eqEntryS_lp0_sh (a3 : List (Int × Int × Int)) (b4 : List (Int × Int × Int)) (i5 : Int) : St := { env := [(0, .s (.one (.val (.slice (.prod (.int .i64) (.prod (.int .i64) (.int .i64)))) (a3 : List (Int × Int × Int))))), (1, .s (.one (.val (.slice (.prod (.int .i64) (.prod (.int .i64) (.int .i64)))) (b4 : List (Int × Int × Int))))), (5, .s (.one (.val (.int .i64) (i5 : Int))))], objs := [], nx := 0 }

def T_laws_eqEntryS_lp0_e0 (a3 : List (Int × Int × Int)) (b4 : List (Int × Int × Int)) : St := { env := [(4, .s (.one (.val (.bool) (false : Bool))))], objs := [], nx := 0 }

def T_laws_eqEntryS_lp0_e1 (a3 : List (Int × Int × Int)) (b4 : List (Int × Int × Int)) (i7 : Int) (t8 : Bool) : St := { env := [(0, .s (.one (.val (.slice (.prod (.int .i64) (.prod (.int .i64) (.int .i64)))) (a3 : List (Int × Int × Int))))), (1, .s (.one (.val (.slice (.prod (.int .i64) (.prod (.int .i64) (.int .i64)))) (b4 : List (Int × Int × Int))))), (5, .s (.one (.val (.int .i64) (i7 : Int)))), (14, .s (.one (.val (.bool) (t8 : Bool))))], objs := [], nx := 0 }

noncomputable def T_laws_eqEntryS_lp0_m (N : Nat) {R : Type} (n : Nat) (st : St) (K : Ex → St → Option R) : Option R := loopN (roundG (T_laws_eqEntryS_ann 100004) fun st k => sx tab (T_laws_eqEntryS_ctx N) T_laws_eqEntryS_ann N (nthLoop Try.f197 0) st k) n st K

theorem T_laws_eqEntryS_lp0_step (N : Nat) {R : Type} (n : Nat) (K : Ex → St → Option R) (a3 : List (Int × Int × Int)) (b4 : List (Int × Int × Int)) (i5 : Int) :
    T_laws_eqEntryS_lp0_m N (n + 1) (T_laws_eqEntryS_lp0_sh a3 b4 i5) K =
    (bif decide (i5 < (ilen a3)) then
    (bif inb i5 (List.length a3) then
      (bif inb i5 (List.length b4) then
        ((T_laws_eqEntry N (List.getD a3 (Int.toNat i5) ((0 : Int), ((0 : Int), (0 : Int)))) (List.getD b4 (Int.toNat i5) ((0 : Int), ((0 : Int), (0 : Int))))).bind fun o9 =>
          (bif !o9.2.1 then
            (K .ret (T_laws_eqEntryS_lp0_e0 a3 b4))
            else
            (T_laws_eqEntryS_lp0_m N n (T_laws_eqEntryS_lp0_sh a3 b4 (iadd .i64 i5 (1 : Int))) K))) else none) else none)
    else
    (K (.exit 0) (T_laws_eqEntryS_lp0_e1 a3 b4 i5 (decide (i5 < (ilen a3)))))) := by kernel_rfl

theorem T_laws_eqEntryS_lp0_eq (N : Nat) {R : Type} (a3 : List (Int × Int × Int)) (b4 : List (Int × Int × Int)) (K : Ex → St → Option R) : ∀ (n : Nat) (i5 : Int), T_laws_eqEntryS_lp0_m N n (T_laws_eqEntryS_lp0_sh a3 b4 i5) K = T_laws_eqEntryS_lp0 N a3 b4 (K .ret (T_laws_eqEntryS_lp0_e0 a3 b4)) (fun i7 t8 => (K (.exit 0) (T_laws_eqEntryS_lp0_e1 a3 b4 i7 t8))) n i5
  | 0, _ => rfl
  | n + 1, i5 => by rw [T_laws_eqEntryS_lp0_step, T_laws_eqEntryS_lp0]; (try simp only [T_laws_eqEntryS_lp0_eq N a3 b4 K n])

theorem T_laws_eqEntryS_c1 (N : Nat) (a1 : List (Int × Int × Int)) (b2 : List (Int × Int × Int)) :
    ((ctxK (R := ODen (T_laws_eqEntryS_sg N).ps × RDen (T_laws_eqEntryS_sg N).rs) tab (T_laws_eqEntryS_ctx N) T_laws_eqEntryS_ann N (theCode Try.f197) [1, 1, 0, 1, 0] (retK tab (T_laws_eqEntryS_sg N) Try.f197.results.toList some)) .ret (T_laws_eqEntryS_lp0_e0 a1 b2)) =
    (some (α := ODen (T_laws_eqEntryS_sg N).ps × RDen (T_laws_eqEntryS_sg N).rs) ((), (false, ()))) := by kernel_rfl

theorem T_laws_eqEntryS_c2 (N : Nat) (a1 : List (Int × Int × Int)) (b2 : List (Int × Int × Int)) (i10 : Int) (t11 : Bool) :
    ((ctxK (R := ODen (T_laws_eqEntryS_sg N).ps × RDen (T_laws_eqEntryS_sg N).rs) tab (T_laws_eqEntryS_ctx N) T_laws_eqEntryS_ann N (theCode Try.f197) [1, 1, 0, 1, 0] (retK tab (T_laws_eqEntryS_sg N) Try.f197.results.toList some)) (.exit 0) (T_laws_eqEntryS_lp0_e1 a1 b2 i10 t11)) =
    (some (α := ODen (T_laws_eqEntryS_sg N).ps × RDen (T_laws_eqEntryS_sg N).rs) ((), (true, ()))) := by kernel_rfl

theorem T_laws_eqEntryS_den (N : Nat) (a1 : List (Int × Int × Int)) (b2 : List (Int × Int × Int)) :
    den (R := ODen (T_laws_eqEntryS_sg N).ps × RDen (T_laws_eqEntryS_sg N).rs) tab (T_laws_eqEntryS_ctx N) T_laws_eqEntryS_ann N (T_laws_eqEntryS_sg N) Try.f197 (a1, b2, ()) some =
    (bif (ilen a1) != (ilen b2) then
    (some (α := ODen (T_laws_eqEntryS_sg N).ps × RDen (T_laws_eqEntryS_sg N).rs) ((), (false, ())))
    else
    (T_laws_eqEntryS_lp0 N a1 b2
      (some (α := ODen (T_laws_eqEntryS_sg N).ps × RDen (T_laws_eqEntryS_sg N).rs) ((), (false, ())))
      (fun i10 t11 =>
        (some (α := ODen (T_laws_eqEntryS_sg N).ps × RDen (T_laws_eqEntryS_sg N).rs) ((), (true, ()))))
       N (0 : Int))) := by
  have h : den (R := ODen (T_laws_eqEntryS_sg N).ps × RDen (T_laws_eqEntryS_sg N).rs) tab (T_laws_eqEntryS_ctx N) T_laws_eqEntryS_ann N (T_laws_eqEntryS_sg N) Try.f197 (a1, b2, ()) some =
    (bif (ilen a1) != (ilen b2) then
    (some (α := ODen (T_laws_eqEntryS_sg N).ps × RDen (T_laws_eqEntryS_sg N).rs) ((), (false, ())))
    else
    (T_laws_eqEntryS_lp0_m N N (T_laws_eqEntryS_lp0_sh a1 b2 (0 : Int)) (ctxK (R := ODen (T_laws_eqEntryS_sg N).ps × RDen (T_laws_eqEntryS_sg N).rs) tab (T_laws_eqEntryS_ctx N) T_laws_eqEntryS_ann N (theCode Try.f197) [1, 1, 0, 1, 0] (retK tab (T_laws_eqEntryS_sg N) Try.f197.results.toList some)))) := by kernel_rfl
  rw [h]
  (try simp only [T_laws_eqEntryS_lp0_eq, T_laws_eqEntryS_c1, T_laws_eqEntryS_c2]) <;> rfl

theorem T_laws_eqEntryS_ok (N : Nat) : chkBody Try.f197 (T_laws_eqEntryS_sg N).ps = true := by kernel_rfl

theorem T_laws_eqEntryS_callable : Callable Try.prog 197 := callable_of Try.func197 (show chkFn Try.f197 = true by kernel_rfl)

theorem T_laws_eqEntryS_good (N : Nat) : Good Try.prog 197 (T_laws_eqEntryS_sg N) :=
  good_body mixedOk tabOk (ctx_cons (T_laws_eqEntry_good N) T_laws_eqEntry_callable ctx_nil) Try.func197 (T_laws_eqEntryS_ok N) (fun d _ h => ⟨N, (T_laws_eqEntryS_den N d.1 d.2.1).trans h⟩)

noncomputable def T_laws_eqKidMark_sg (N : Nat) : Sig := Sig.of [.v (.prod (.int .i64) (.prod (.int .i64) (.slice (.int .i64)))) true, .v (.prod (.int .i64) (.prod (.int .i64) (.slice (.int .i64)))) true] [.v (.bool) false] (fun d => T_laws_eqKidMark N d.1 d.2.1)

def T_laws_eqKidMark_ann : Nat → List Ghost
  | _ => []

noncomputable def T_laws_eqKidMark_ctx (N : Nat) : Ctx := [(15, T_laws_eqIntS_sg N)]

theorem T_laws_eqKidMark_den (N : Nat) (a1 : Int × Int × List Int) (b2 : Int × Int × List Int) :
    den (R := ODen (T_laws_eqKidMark_sg N).ps × RDen (T_laws_eqKidMark_sg N).rs) tab (T_laws_eqKidMark_ctx N) T_laws_eqKidMark_ann N (T_laws_eqKidMark_sg N) Try.f212 (a1, b2, ()) some =
    (bif a1.1 != b2.1 then
    (some (α := ODen (T_laws_eqKidMark_sg N).ps × RDen (T_laws_eqKidMark_sg N).rs) ((), (false, ())))
    else
    (bif a1.2.1 != b2.2.1 then
      (some (α := ODen (T_laws_eqKidMark_sg N).ps × RDen (T_laws_eqKidMark_sg N).rs) ((), (false, ())))
      else
      ((T_laws_eqIntS N a1.2.2 b2.2.2).bind fun o3 =>
        (bif !o3.2.1 then
          (some (α := ODen (T_laws_eqKidMark_sg N).ps × RDen (T_laws_eqKidMark_sg N).rs) ((), (false, ())))
          else
          (some (α := ODen (T_laws_eqKidMark_sg N).ps × RDen (T_laws_eqKidMark_sg N).rs) ((), (true, ()))))))) := by kernel_rfl

theorem T_laws_eqKidMark_ok (N : Nat) : chkBody Try.f212 (T_laws_eqKidMark_sg N).ps = true := by kernel_rfl

theorem T_laws_eqKidMark_callable : Callable Try.prog 212 := callable_of Try.func212 (show chkFn Try.f212 = true by kernel_rfl)

theorem T_laws_eqKidMark_good (N : Nat) : Good Try.prog 212 (T_laws_eqKidMark_sg N) :=
  good_body mixedOk tabOk (ctx_cons (T_laws_eqIntS_good N) T_laws_eqIntS_callable ctx_nil) Try.func212 (T_laws_eqKidMark_ok N) (fun d _ h => ⟨N, (T_laws_eqKidMark_den N d.1 d.2.1).trans h⟩)

noncomputable def T_laws_eqKidMarkS_sg (N : Nat) : Sig := Sig.of [.v (.slice (.prod (.int .i64) (.prod (.int .i64) (.slice (.int .i64))))) false, .v (.slice (.prod (.int .i64) (.prod (.int .i64) (.slice (.int .i64))))) false] [.v (.bool) false] (fun d => T_laws_eqKidMarkS N d.1 d.2.1)

def T_laws_eqKidMarkS_ann : Nat → List Ghost
  | 4 => [.canon [0, 1, 5, 14]]
  | 5 => [.canon [0, 1, 5]]
  | 6 => [.canon [0, 1, 5, 26]]
  | 7 => [.canon [4]]
  | 100004 => [.canon [0, 1, 5]]
  | _ => []

noncomputable def T_laws_eqKidMarkS_ctx (N : Nat) : Ctx := [(212, T_laws_eqKidMark_sg N)]

def T_laws_eqKidMarkS_lp0_sh (a3 : List (Int × Int × List Int)) (b4 : List (Int × Int × List Int)) (i5 : Int) : St := { env := [(0, .s (.one (.val (.slice (.prod (.int .i64) (.prod (.int .i64) (.slice (.int .i64))))) (a3 : List (Int × Int × List Int))))), (1, .s (.one (.val (.slice (.prod (.int .i64) (.prod (.int .i64) (.slice (.int .i64))))) (b4 : List (Int × Int × List Int))))), (5, .s (.one (.val (.int .i64) (i5 : Int))))], objs := [], nx := 0 }

def T_laws_eqKidMarkS_lp0_e0 (a3 : List (Int × Int × List Int)) (b4 : List (Int × Int × List Int)) : St := { env := [(4, .s (.one (.val (.bool) (false : Bool))))], objs := [], nx := 0 }

def T_laws_eqKidMarkS_lp0_e1 (a3 : List (Int × Int × List Int)) (b4 : List (Int × Int × List Int)) (i7 : Int) (t8 : Bool) : St := { env := [(0, .s (.one (.val (.slice (.prod (.int .i64) (.prod (.int .i64) (.slice (.int .i64))))) (a3 : List (Int × Int × List Int))))), (1, .s (.one (.val (.slice (.prod (.int .i64) (.prod (.int .i64) (.slice (.int .i64))))) (b4 : List (Int × Int × List Int))))), (5, .s (.one (.val (.int .i64) (i7 : Int)))), (14, .s (.one (.val (.bool) (t8 : Bool))))], objs := [], nx := 0 }

noncomputable def T_laws_eqKidMarkS_lp0_m (N : Nat) {R : Type} (n : Nat) (st : St) (K : Ex → St → Option R) : Option R := loopN (roundG (T_laws_eqKidMarkS_ann 100004) fun st k => sx tab (T_laws_eqKidMarkS_ctx N) T_laws_eqKidMarkS_ann N (nthLoop Try.f209 0) st k) n st K

theorem T_laws_eqKidMarkS_lp0_step (N : Nat) {R : Type} (n : Nat) (K : Ex → St → Option R) (a3 : List (Int × Int × List Int)) (b4 : List (Int × Int × List Int)) (i5 : Int) :
    T_laws_eqKidMarkS_lp0_m N (n + 1) (T_laws_eqKidMarkS_lp0_sh a3 b4 i5) K =
    (bif decide (i5 < (ilen a3)) then
    (bif inb i5 (List.length a3) then
      (bif inb i5 (List.length b4) then
        ((T_laws_eqKidMark N (List.getD a3 (Int.toNat i5) ((0 : Int), ((0 : Int), ([] : List Int)))) (List.getD b4 (Int.toNat i5) ((0 : Int), ((0 : Int), ([] : List Int))))).bind fun o9 =>
          (bif !o9.2.1 then
            (K .ret (T_laws_eqKidMarkS_lp0_e0 a3 b4))
            else
            (T_laws_eqKidMarkS_lp0_m N n (T_laws_eqKidMarkS_lp0_sh a3 b4 (iadd .i64 i5 (1 : Int))) K))) else none) else none)
    else
    (K (.exit 0) (T_laws_eqKidMarkS_lp0_e1 a3 b4 i5 (decide (i5 < (ilen a3)))))) := by kernel_rfl

theorem T_laws_eqKidMarkS_lp0_eq (N : Nat) {R : Type} (a3 : List (Int × Int × List Int)) (b4 : List (Int × Int × List Int)) (K : Ex → St → Option R) : ∀ (n : Nat) (i5 : Int), T_laws_eqKidMarkS_lp0_m N n (T_laws_eqKidMarkS_lp0_sh a3 b4 i5) K = T_laws_eqKidMarkS_lp0 N a3 b4 (K .ret (T_laws_eqKidMarkS_lp0_e0 a3 b4)) (fun i7 t8 => (K (.exit 0) (T_laws_eqKidMarkS_lp0_e1 a3 b4 i7 t8))) n i5
  | 0, _ => rfl
  | n + 1, i5 => by rw [T_laws_eqKidMarkS_lp0_step, T_laws_eqKidMarkS_lp0]; (try simp only [T_laws_eqKidMarkS_lp0_eq N a3 b4 K n])

theorem T_laws_eqKidMarkS_c1 (N : Nat) (a1 : List (Int × Int × List Int)) (b2 : List (Int × Int × List Int)) :
    ((ctxK (R := ODen (T_laws_eqKidMarkS_sg N).ps × RDen (T_laws_eqKidMarkS_sg N).rs) tab (T_laws_eqKidMarkS_ctx N) T_laws_eqKidMarkS_ann N (theCode Try.f209) [1, 1, 0, 1, 0] (retK tab (T_laws_eqKidMarkS_sg N) Try.f209.results.toList some)) .ret (T_laws_eqKidMarkS_lp0_e0 a1 b2)) =
    (some (α := ODen (T_laws_eqKidMarkS_sg N).ps × RDen (T_laws_eqKidMarkS_sg N).rs) ((), (false, ()))) := by kernel_rfl

theorem T_laws_eqKidMarkS_c2 (N : Nat) (a1 : List (Int × Int × List Int)) (b2 : List (Int × Int × List Int)) (i10 : Int) (t11 : Bool) :
    ((ctxK (R := ODen (T_laws_eqKidMarkS_sg N).ps × RDen (T_laws_eqKidMarkS_sg N).rs) tab (T_laws_eqKidMarkS_ctx N) T_laws_eqKidMarkS_ann N (theCode Try.f209) [1, 1, 0, 1, 0] (retK tab (T_laws_eqKidMarkS_sg N) Try.f209.results.toList some)) (.exit 0) (T_laws_eqKidMarkS_lp0_e1 a1 b2 i10 t11)) =
    (some (α := ODen (T_laws_eqKidMarkS_sg N).ps × RDen (T_laws_eqKidMarkS_sg N).rs) ((), (true, ()))) := by kernel_rfl

theorem T_laws_eqKidMarkS_den (N : Nat) (a1 : List (Int × Int × List Int)) (b2 : List (Int × Int × List Int)) :
    den (R := ODen (T_laws_eqKidMarkS_sg N).ps × RDen (T_laws_eqKidMarkS_sg N).rs) tab (T_laws_eqKidMarkS_ctx N) T_laws_eqKidMarkS_ann N (T_laws_eqKidMarkS_sg N) Try.f209 (a1, b2, ()) some =
    (bif (ilen a1) != (ilen b2) then
    (some (α := ODen (T_laws_eqKidMarkS_sg N).ps × RDen (T_laws_eqKidMarkS_sg N).rs) ((), (false, ())))
    else
    (T_laws_eqKidMarkS_lp0 N a1 b2
      (some (α := ODen (T_laws_eqKidMarkS_sg N).ps × RDen (T_laws_eqKidMarkS_sg N).rs) ((), (false, ())))
      (fun i10 t11 =>
        (some (α := ODen (T_laws_eqKidMarkS_sg N).ps × RDen (T_laws_eqKidMarkS_sg N).rs) ((), (true, ()))))
       N (0 : Int))) := by
  have h : den (R := ODen (T_laws_eqKidMarkS_sg N).ps × RDen (T_laws_eqKidMarkS_sg N).rs) tab (T_laws_eqKidMarkS_ctx N) T_laws_eqKidMarkS_ann N (T_laws_eqKidMarkS_sg N) Try.f209 (a1, b2, ()) some =
    (bif (ilen a1) != (ilen b2) then
    (some (α := ODen (T_laws_eqKidMarkS_sg N).ps × RDen (T_laws_eqKidMarkS_sg N).rs) ((), (false, ())))
    else
    (T_laws_eqKidMarkS_lp0_m N N (T_laws_eqKidMarkS_lp0_sh a1 b2 (0 : Int)) (ctxK (R := ODen (T_laws_eqKidMarkS_sg N).ps × RDen (T_laws_eqKidMarkS_sg N).rs) tab (T_laws_eqKidMarkS_ctx N) T_laws_eqKidMarkS_ann N (theCode Try.f209) [1, 1, 0, 1, 0] (retK tab (T_laws_eqKidMarkS_sg N) Try.f209.results.toList some)))) := by kernel_rfl
  rw [h]
  (try simp only [T_laws_eqKidMarkS_lp0_eq, T_laws_eqKidMarkS_c1, T_laws_eqKidMarkS_c2]) <;> rfl

theorem T_laws_eqKidMarkS_ok (N : Nat) : chkBody Try.f209 (T_laws_eqKidMarkS_sg N).ps = true := by kernel_rfl

theorem T_laws_eqKidMarkS_callable : Callable Try.prog 209 := callable_of Try.func209 (show chkFn Try.f209 = true by kernel_rfl)

theorem T_laws_eqKidMarkS_good (N : Nat) : Good Try.prog 209 (T_laws_eqKidMarkS_sg N) :=
  good_body mixedOk tabOk (ctx_cons (T_laws_eqKidMark_good N) T_laws_eqKidMark_callable ctx_nil) Try.func209 (T_laws_eqKidMarkS_ok N) (fun d _ h => ⟨N, (T_laws_eqKidMarkS_den N d.1 d.2.1).trans h⟩)

noncomputable def T_laws_eqKidRun_sg (N : Nat) : Sig := Sig.of [.v (TY_KidRun) true, .v (TY_KidRun) true] [.v (.bool) false] (fun d => T_laws_eqKidRun N d.1 d.2.1)

def T_laws_eqKidRun_ann : Nat → List Ghost
  | _ => []

noncomputable def T_laws_eqKidRun_ctx (N : Nat) : Ctx := [(15, T_laws_eqIntS_sg N), (197, T_laws_eqEntryS_sg N), (50, T_laws_eqRowS_sg N), (209, T_laws_eqKidMarkS_sg N), (170, T_laws_eqProbe_sg N)]

theorem T_laws_eqKidRun_den (N : Nat) (a1 : Y_KidRun) (b2 : Y_KidRun) :
    den (R := ODen (T_laws_eqKidRun_sg N).ps × RDen (T_laws_eqKidRun_sg N).rs) tab (T_laws_eqKidRun_ctx N) T_laws_eqKidRun_ann N (T_laws_eqKidRun_sg N) Try.f205 (a1, b2, ()) some =
    (bif a1.1 != b2.1 then
    (some (α := ODen (T_laws_eqKidRun_sg N).ps × RDen (T_laws_eqKidRun_sg N).rs) ((), (false, ())))
    else
    (bif a1.2.1 != b2.2.1 then
      (some (α := ODen (T_laws_eqKidRun_sg N).ps × RDen (T_laws_eqKidRun_sg N).rs) ((), (false, ())))
      else
      (bif a1.2.2.1 != b2.2.2.1 then
        (some (α := ODen (T_laws_eqKidRun_sg N).ps × RDen (T_laws_eqKidRun_sg N).rs) ((), (false, ())))
        else
        (bif a1.2.2.2.1 != b2.2.2.2.1 then
          (some (α := ODen (T_laws_eqKidRun_sg N).ps × RDen (T_laws_eqKidRun_sg N).rs) ((), (false, ())))
          else
          (bif a1.2.2.2.2.1 != b2.2.2.2.2.1 then
            (some (α := ODen (T_laws_eqKidRun_sg N).ps × RDen (T_laws_eqKidRun_sg N).rs) ((), (false, ())))
            else
            (bif a1.2.2.2.2.2.1 != b2.2.2.2.2.2.1 then
              (some (α := ODen (T_laws_eqKidRun_sg N).ps × RDen (T_laws_eqKidRun_sg N).rs) ((), (false, ())))
              else
              ((T_laws_eqIntS N a1.2.2.2.2.2.2.1 b2.2.2.2.2.2.2.1).bind fun o3 =>
                (bif !o3.2.1 then
                  (some (α := ODen (T_laws_eqKidRun_sg N).ps × RDen (T_laws_eqKidRun_sg N).rs) ((), (false, ())))
                  else
                  ((T_laws_eqEntryS N a1.2.2.2.2.2.2.2.1 b2.2.2.2.2.2.2.2.1).bind fun o4 =>
                    (bif !o4.2.1 then
                      (some (α := ODen (T_laws_eqKidRun_sg N).ps × RDen (T_laws_eqKidRun_sg N).rs) ((), (false, ())))
                      else
                      ((T_laws_eqRowS N a1.2.2.2.2.2.2.2.2.1 b2.2.2.2.2.2.2.2.2.1).bind fun o5 =>
                        (bif !o5.2.1 then
                          (some (α := ODen (T_laws_eqKidRun_sg N).ps × RDen (T_laws_eqKidRun_sg N).rs) ((), (false, ())))
                          else
                          ((T_laws_eqKidMarkS N a1.2.2.2.2.2.2.2.2.2.1 b2.2.2.2.2.2.2.2.2.2.1).bind fun o6 =>
                            (bif !o6.2.1 then
                              (some (α := ODen (T_laws_eqKidRun_sg N).ps × RDen (T_laws_eqKidRun_sg N).rs) ((), (false, ())))
                              else
                              (bif !(beq a1.2.2.2.2.2.2.2.2.2.2.1 b2.2.2.2.2.2.2.2.2.2.2.1) then
                                (some (α := ODen (T_laws_eqKidRun_sg N).ps × RDen (T_laws_eqKidRun_sg N).rs) ((), (false, ())))
                                else
                                ((T_laws_eqProbe N a1.2.2.2.2.2.2.2.2.2.2.2 b2.2.2.2.2.2.2.2.2.2.2.2).bind fun o7 =>
                                  (bif !o7.2.1 then
                                    (some (α := ODen (T_laws_eqKidRun_sg N).ps × RDen (T_laws_eqKidRun_sg N).rs) ((), (false, ())))
                                    else
                                    (some (α := ODen (T_laws_eqKidRun_sg N).ps × RDen (T_laws_eqKidRun_sg N).rs) ((), (true, ())))))))))))))))))))) := by kernel_rfl

theorem T_laws_eqKidRun_ok (N : Nat) : chkBody Try.f205 (T_laws_eqKidRun_sg N).ps = true := by kernel_rfl

theorem T_laws_eqKidRun_callable : Callable Try.prog 205 := callable_of Try.func205 (show chkFn Try.f205 = true by kernel_rfl)

theorem T_laws_eqKidRun_good (N : Nat) : Good Try.prog 205 (T_laws_eqKidRun_sg N) :=
  good_body mixedOk tabOk (ctx_cons (T_laws_eqIntS_good N) T_laws_eqIntS_callable (ctx_cons (T_laws_eqEntryS_good N) T_laws_eqEntryS_callable (ctx_cons (T_laws_eqRowS_good N) T_laws_eqRowS_callable (ctx_cons (T_laws_eqKidMarkS_good N) T_laws_eqKidMarkS_callable (ctx_cons (T_laws_eqProbe_good N) T_laws_eqProbe_callable ctx_nil))))) Try.func205 (T_laws_eqKidRun_ok N) (fun d _ h => ⟨N, (T_laws_eqKidRun_den N d.1 d.2.1).trans h⟩)

noncomputable def T_laws_eqKidRunS_sg (N : Nat) : Sig := Sig.of [.v (.slice (TY_KidRun)) false, .v (.slice (TY_KidRun)) false] [.v (.bool) false] (fun d => T_laws_eqKidRunS N d.1 d.2.1)

def T_laws_eqKidRunS_ann : Nat → List Ghost
  | 4 => [.canon [0, 1, 5, 14]]
  | 5 => [.canon [0, 1, 5]]
  | 6 => [.canon [0, 1, 5, 26]]
  | 7 => [.canon [4]]
  | 100004 => [.canon [0, 1, 5]]
  | _ => []

noncomputable def T_laws_eqKidRunS_ctx (N : Nat) : Ctx := [(205, T_laws_eqKidRun_sg N)]

def T_laws_eqKidRunS_lp0_sh (a3 : List Y_KidRun) (b4 : List Y_KidRun) (i5 : Int) : St := { env := [(0, .s (.one (.val (.slice (TY_KidRun)) (a3 : List Y_KidRun)))), (1, .s (.one (.val (.slice (TY_KidRun)) (b4 : List Y_KidRun)))), (5, .s (.one (.val (.int .i64) (i5 : Int))))], objs := [], nx := 0 }

def T_laws_eqKidRunS_lp0_e0 (a3 : List Y_KidRun) (b4 : List Y_KidRun) : St := { env := [(4, .s (.one (.val (.bool) (false : Bool))))], objs := [], nx := 0 }

def T_laws_eqKidRunS_lp0_e1 (a3 : List Y_KidRun) (b4 : List Y_KidRun) (i7 : Int) (t8 : Bool) : St := { env := [(0, .s (.one (.val (.slice (TY_KidRun)) (a3 : List Y_KidRun)))), (1, .s (.one (.val (.slice (TY_KidRun)) (b4 : List Y_KidRun)))), (5, .s (.one (.val (.int .i64) (i7 : Int)))), (14, .s (.one (.val (.bool) (t8 : Bool))))], objs := [], nx := 0 }

noncomputable def T_laws_eqKidRunS_lp0_m (N : Nat) {R : Type} (n : Nat) (st : St) (K : Ex → St → Option R) : Option R := loopN (roundG (T_laws_eqKidRunS_ann 100004) fun st k => sx tab (T_laws_eqKidRunS_ctx N) T_laws_eqKidRunS_ann N (nthLoop Try.f198 0) st k) n st K

theorem T_laws_eqKidRunS_lp0_step (N : Nat) {R : Type} (n : Nat) (K : Ex → St → Option R) (a3 : List Y_KidRun) (b4 : List Y_KidRun) (i5 : Int) :
    T_laws_eqKidRunS_lp0_m N (n + 1) (T_laws_eqKidRunS_lp0_sh a3 b4 i5) K =
    (bif decide (i5 < (ilen a3)) then
    (bif inb i5 (List.length a3) then
      (bif inb i5 (List.length b4) then
        ((T_laws_eqKidRun N (List.getD a3 (Int.toNat i5) d_KidRun) (List.getD b4 (Int.toNat i5) d_KidRun)).bind fun o9 =>
          (bif !o9.2.1 then
            (K .ret (T_laws_eqKidRunS_lp0_e0 a3 b4))
            else
            (T_laws_eqKidRunS_lp0_m N n (T_laws_eqKidRunS_lp0_sh a3 b4 (iadd .i64 i5 (1 : Int))) K))) else none) else none)
    else
    (K (.exit 0) (T_laws_eqKidRunS_lp0_e1 a3 b4 i5 (decide (i5 < (ilen a3)))))) := by kernel_rfl

theorem T_laws_eqKidRunS_lp0_eq (N : Nat) {R : Type} (a3 : List Y_KidRun) (b4 : List Y_KidRun) (K : Ex → St → Option R) : ∀ (n : Nat) (i5 : Int), T_laws_eqKidRunS_lp0_m N n (T_laws_eqKidRunS_lp0_sh a3 b4 i5) K = T_laws_eqKidRunS_lp0 N a3 b4 (K .ret (T_laws_eqKidRunS_lp0_e0 a3 b4)) (fun i7 t8 => (K (.exit 0) (T_laws_eqKidRunS_lp0_e1 a3 b4 i7 t8))) n i5
  | 0, _ => rfl
  | n + 1, i5 => by rw [T_laws_eqKidRunS_lp0_step, T_laws_eqKidRunS_lp0]; (try simp only [T_laws_eqKidRunS_lp0_eq N a3 b4 K n])

theorem T_laws_eqKidRunS_c1 (N : Nat) (a1 : List Y_KidRun) (b2 : List Y_KidRun) :
    ((ctxK (R := ODen (T_laws_eqKidRunS_sg N).ps × RDen (T_laws_eqKidRunS_sg N).rs) tab (T_laws_eqKidRunS_ctx N) T_laws_eqKidRunS_ann N (theCode Try.f198) [1, 1, 0, 1, 0] (retK tab (T_laws_eqKidRunS_sg N) Try.f198.results.toList some)) .ret (T_laws_eqKidRunS_lp0_e0 a1 b2)) =
    (some (α := ODen (T_laws_eqKidRunS_sg N).ps × RDen (T_laws_eqKidRunS_sg N).rs) ((), (false, ()))) := by kernel_rfl

theorem T_laws_eqKidRunS_c2 (N : Nat) (a1 : List Y_KidRun) (b2 : List Y_KidRun) (i10 : Int) (t11 : Bool) :
    ((ctxK (R := ODen (T_laws_eqKidRunS_sg N).ps × RDen (T_laws_eqKidRunS_sg N).rs) tab (T_laws_eqKidRunS_ctx N) T_laws_eqKidRunS_ann N (theCode Try.f198) [1, 1, 0, 1, 0] (retK tab (T_laws_eqKidRunS_sg N) Try.f198.results.toList some)) (.exit 0) (T_laws_eqKidRunS_lp0_e1 a1 b2 i10 t11)) =
    (some (α := ODen (T_laws_eqKidRunS_sg N).ps × RDen (T_laws_eqKidRunS_sg N).rs) ((), (true, ()))) := by kernel_rfl

theorem T_laws_eqKidRunS_den (N : Nat) (a1 : List Y_KidRun) (b2 : List Y_KidRun) :
    den (R := ODen (T_laws_eqKidRunS_sg N).ps × RDen (T_laws_eqKidRunS_sg N).rs) tab (T_laws_eqKidRunS_ctx N) T_laws_eqKidRunS_ann N (T_laws_eqKidRunS_sg N) Try.f198 (a1, b2, ()) some =
    (bif (ilen a1) != (ilen b2) then
    (some (α := ODen (T_laws_eqKidRunS_sg N).ps × RDen (T_laws_eqKidRunS_sg N).rs) ((), (false, ())))
    else
    (T_laws_eqKidRunS_lp0 N a1 b2
      (some (α := ODen (T_laws_eqKidRunS_sg N).ps × RDen (T_laws_eqKidRunS_sg N).rs) ((), (false, ())))
      (fun i10 t11 =>
        (some (α := ODen (T_laws_eqKidRunS_sg N).ps × RDen (T_laws_eqKidRunS_sg N).rs) ((), (true, ()))))
       N (0 : Int))) := by
  have h : den (R := ODen (T_laws_eqKidRunS_sg N).ps × RDen (T_laws_eqKidRunS_sg N).rs) tab (T_laws_eqKidRunS_ctx N) T_laws_eqKidRunS_ann N (T_laws_eqKidRunS_sg N) Try.f198 (a1, b2, ()) some =
    (bif (ilen a1) != (ilen b2) then
    (some (α := ODen (T_laws_eqKidRunS_sg N).ps × RDen (T_laws_eqKidRunS_sg N).rs) ((), (false, ())))
    else
    (T_laws_eqKidRunS_lp0_m N N (T_laws_eqKidRunS_lp0_sh a1 b2 (0 : Int)) (ctxK (R := ODen (T_laws_eqKidRunS_sg N).ps × RDen (T_laws_eqKidRunS_sg N).rs) tab (T_laws_eqKidRunS_ctx N) T_laws_eqKidRunS_ann N (theCode Try.f198) [1, 1, 0, 1, 0] (retK tab (T_laws_eqKidRunS_sg N) Try.f198.results.toList some)))) := by kernel_rfl
  rw [h]
  (try simp only [T_laws_eqKidRunS_lp0_eq, T_laws_eqKidRunS_c1, T_laws_eqKidRunS_c2]) <;> rfl

theorem T_laws_eqKidRunS_ok (N : Nat) : chkBody Try.f198 (T_laws_eqKidRunS_sg N).ps = true := by kernel_rfl

theorem T_laws_eqKidRunS_callable : Callable Try.prog 198 := callable_of Try.func198 (show chkFn Try.f198 = true by kernel_rfl)

theorem T_laws_eqKidRunS_good (N : Nat) : Good Try.prog 198 (T_laws_eqKidRunS_sg N) :=
  good_body mixedOk tabOk (ctx_cons (T_laws_eqKidRun_good N) T_laws_eqKidRun_callable ctx_nil) Try.func198 (T_laws_eqKidRunS_ok N) (fun d _ h => ⟨N, (T_laws_eqKidRunS_den N d.1 d.2.1).trans h⟩)

noncomputable def T_laws_eqFamily_sg (N : Nat) : Sig := Sig.of [.v (TY_Family) true, .v (TY_Family) true] [.v (.bool) false] (fun d => T_laws_eqFamily N d.1 d.2.1)

def T_laws_eqFamily_ann : Nat → List Ghost
  | _ => []

noncomputable def T_laws_eqFamily_ctx (N : Nat) : Ctx := [(15, T_laws_eqIntS_sg N), (50, T_laws_eqRowS_sg N), (197, T_laws_eqEntryS_sg N), (198, T_laws_eqKidRunS_sg N)]

theorem T_laws_eqFamily_den (N : Nat) (a1 : Y_Family) (b2 : Y_Family) :
    den (R := ODen (T_laws_eqFamily_sg N).ps × RDen (T_laws_eqFamily_sg N).rs) tab (T_laws_eqFamily_ctx N) T_laws_eqFamily_ann N (T_laws_eqFamily_sg N) Try.f172 (a1, b2, ()) some =
    (bif a1.1 != b2.1 then
    (some (α := ODen (T_laws_eqFamily_sg N).ps × RDen (T_laws_eqFamily_sg N).rs) ((), (false, ())))
    else
    (bif a1.2.1 != b2.2.1 then
      (some (α := ODen (T_laws_eqFamily_sg N).ps × RDen (T_laws_eqFamily_sg N).rs) ((), (false, ())))
      else
      (bif a1.2.2.1 != b2.2.2.1 then
        (some (α := ODen (T_laws_eqFamily_sg N).ps × RDen (T_laws_eqFamily_sg N).rs) ((), (false, ())))
        else
        (bif !(beq a1.2.2.2.1 b2.2.2.2.1) then
          (some (α := ODen (T_laws_eqFamily_sg N).ps × RDen (T_laws_eqFamily_sg N).rs) ((), (false, ())))
          else
          ((T_laws_eqIntS N a1.2.2.2.2.1 b2.2.2.2.2.1).bind fun o3 =>
            (bif !o3.2.1 then
              (some (α := ODen (T_laws_eqFamily_sg N).ps × RDen (T_laws_eqFamily_sg N).rs) ((), (false, ())))
              else
              ((T_laws_eqRowS N a1.2.2.2.2.2.1 b2.2.2.2.2.2.1).bind fun o4 =>
                (bif !o4.2.1 then
                  (some (α := ODen (T_laws_eqFamily_sg N).ps × RDen (T_laws_eqFamily_sg N).rs) ((), (false, ())))
                  else
                  ((T_laws_eqEntryS N a1.2.2.2.2.2.2.1 b2.2.2.2.2.2.2.1).bind fun o5 =>
                    (bif !o5.2.1 then
                      (some (α := ODen (T_laws_eqFamily_sg N).ps × RDen (T_laws_eqFamily_sg N).rs) ((), (false, ())))
                      else
                      ((T_laws_eqIntS N a1.2.2.2.2.2.2.2.1 b2.2.2.2.2.2.2.2.1).bind fun o6 =>
                        (bif !o6.2.1 then
                          (some (α := ODen (T_laws_eqFamily_sg N).ps × RDen (T_laws_eqFamily_sg N).rs) ((), (false, ())))
                          else
                          ((T_laws_eqRowS N a1.2.2.2.2.2.2.2.2.1 b2.2.2.2.2.2.2.2.2.1).bind fun o7 =>
                            (bif !o7.2.1 then
                              (some (α := ODen (T_laws_eqFamily_sg N).ps × RDen (T_laws_eqFamily_sg N).rs) ((), (false, ())))
                              else
                              ((T_laws_eqKidRunS N a1.2.2.2.2.2.2.2.2.2 b2.2.2.2.2.2.2.2.2.2).bind fun o8 =>
                                (bif !o8.2.1 then
                                  (some (α := ODen (T_laws_eqFamily_sg N).ps × RDen (T_laws_eqFamily_sg N).rs) ((), (false, ())))
                                  else
                                  (some (α := ODen (T_laws_eqFamily_sg N).ps × RDen (T_laws_eqFamily_sg N).rs) ((), (true, ()))))))))))))))))))) := by kernel_rfl

theorem T_laws_eqFamily_ok (N : Nat) : chkBody Try.f172 (T_laws_eqFamily_sg N).ps = true := by kernel_rfl

theorem T_laws_eqFamily_callable : Callable Try.prog 172 := callable_of Try.func172 (show chkFn Try.f172 = true by kernel_rfl)

theorem T_laws_eqFamily_good (N : Nat) : Good Try.prog 172 (T_laws_eqFamily_sg N) :=
  good_body mixedOk tabOk (ctx_cons (T_laws_eqIntS_good N) T_laws_eqIntS_callable (ctx_cons (T_laws_eqRowS_good N) T_laws_eqRowS_callable (ctx_cons (T_laws_eqEntryS_good N) T_laws_eqEntryS_callable (ctx_cons (T_laws_eqKidRunS_good N) T_laws_eqKidRunS_callable ctx_nil)))) Try.func172 (T_laws_eqFamily_ok N) (fun d _ h => ⟨N, (T_laws_eqFamily_den N d.1 d.2.1).trans h⟩)

noncomputable def T_laws_eqRoot_sg (N : Nat) : Sig := Sig.of [.v (TY_Root) true, .v (TY_Root) true] [.v (.bool) false] (fun d => T_laws_eqRoot N d.1 d.2.1)

def T_laws_eqRoot_ann : Nat → List Ghost
  | _ => []

noncomputable def T_laws_eqRoot_ctx (N : Nat) : Ctx := [(15, T_laws_eqIntS_sg N), (50, T_laws_eqRowS_sg N), (168, T_laws_eqMarkS_sg N), (169, T_laws_eqUndoS_sg N), (170, T_laws_eqProbe_sg N), (171, T_laws_eqCommit_sg N), (172, T_laws_eqFamily_sg N)]

theorem T_laws_eqRoot_den (N : Nat) (a1 : Y_Root) (b2 : Y_Root) :
    den (R := ODen (T_laws_eqRoot_sg N).ps × RDen (T_laws_eqRoot_sg N).rs) tab (T_laws_eqRoot_ctx N) T_laws_eqRoot_ann N (T_laws_eqRoot_sg N) Try.f123 (a1, b2, ()) some =
    (bif a1.1 != b2.1 then
    (some (α := ODen (T_laws_eqRoot_sg N).ps × RDen (T_laws_eqRoot_sg N).rs) ((), (false, ())))
    else
    (bif a1.2.1 != b2.2.1 then
      (some (α := ODen (T_laws_eqRoot_sg N).ps × RDen (T_laws_eqRoot_sg N).rs) ((), (false, ())))
      else
      (bif a1.2.2.1 != b2.2.2.1 then
        (some (α := ODen (T_laws_eqRoot_sg N).ps × RDen (T_laws_eqRoot_sg N).rs) ((), (false, ())))
        else
        (bif a1.2.2.2.1 != b2.2.2.2.1 then
          (some (α := ODen (T_laws_eqRoot_sg N).ps × RDen (T_laws_eqRoot_sg N).rs) ((), (false, ())))
          else
          (bif a1.2.2.2.2.1 != b2.2.2.2.2.1 then
            (some (α := ODen (T_laws_eqRoot_sg N).ps × RDen (T_laws_eqRoot_sg N).rs) ((), (false, ())))
            else
            (bif a1.2.2.2.2.2.1 != b2.2.2.2.2.2.1 then
              (some (α := ODen (T_laws_eqRoot_sg N).ps × RDen (T_laws_eqRoot_sg N).rs) ((), (false, ())))
              else
              (bif a1.2.2.2.2.2.2.1 != b2.2.2.2.2.2.2.1 then
                (some (α := ODen (T_laws_eqRoot_sg N).ps × RDen (T_laws_eqRoot_sg N).rs) ((), (false, ())))
                else
                (bif a1.2.2.2.2.2.2.2.1 != b2.2.2.2.2.2.2.2.1 then
                  (some (α := ODen (T_laws_eqRoot_sg N).ps × RDen (T_laws_eqRoot_sg N).rs) ((), (false, ())))
                  else
                  (bif a1.2.2.2.2.2.2.2.2.1 != b2.2.2.2.2.2.2.2.2.1 then
                    (some (α := ODen (T_laws_eqRoot_sg N).ps × RDen (T_laws_eqRoot_sg N).rs) ((), (false, ())))
                    else
                    (bif a1.2.2.2.2.2.2.2.2.2.1 != b2.2.2.2.2.2.2.2.2.2.1 then
                      (some (α := ODen (T_laws_eqRoot_sg N).ps × RDen (T_laws_eqRoot_sg N).rs) ((), (false, ())))
                      else
                      (bif a1.2.2.2.2.2.2.2.2.2.2.1 != b2.2.2.2.2.2.2.2.2.2.2.1 then
                        (some (α := ODen (T_laws_eqRoot_sg N).ps × RDen (T_laws_eqRoot_sg N).rs) ((), (false, ())))
                        else
                        (bif !(beq a1.2.2.2.2.2.2.2.2.2.2.2.1 b2.2.2.2.2.2.2.2.2.2.2.2.1) then
                          (some (α := ODen (T_laws_eqRoot_sg N).ps × RDen (T_laws_eqRoot_sg N).rs) ((), (false, ())))
                          else
                          ((T_laws_eqIntS N a1.2.2.2.2.2.2.2.2.2.2.2.2.1 b2.2.2.2.2.2.2.2.2.2.2.2.2.1).bind fun o3 =>
                            (bif !o3.2.1 then
                              (some (α := ODen (T_laws_eqRoot_sg N).ps × RDen (T_laws_eqRoot_sg N).rs) ((), (false, ())))
                              else
                              ((T_laws_eqRowS N a1.2.2.2.2.2.2.2.2.2.2.2.2.2.1 b2.2.2.2.2.2.2.2.2.2.2.2.2.2.1).bind fun o4 =>
                                (bif !o4.2.1 then
                                  (some (α := ODen (T_laws_eqRoot_sg N).ps × RDen (T_laws_eqRoot_sg N).rs) ((), (false, ())))
                                  else
                                  ((T_laws_eqRowS N a1.2.2.2.2.2.2.2.2.2.2.2.2.2.2.1 b2.2.2.2.2.2.2.2.2.2.2.2.2.2.2.1).bind fun o5 =>
                                    (bif !o5.2.1 then
                                      (some (α := ODen (T_laws_eqRoot_sg N).ps × RDen (T_laws_eqRoot_sg N).rs) ((), (false, ())))
                                      else
                                      ((T_laws_eqMarkS N a1.2.2.2.2.2.2.2.2.2.2.2.2.2.2.2.1 b2.2.2.2.2.2.2.2.2.2.2.2.2.2.2.2.1).bind fun o6 =>
                                        (bif !o6.2.1 then
                                          (some (α := ODen (T_laws_eqRoot_sg N).ps × RDen (T_laws_eqRoot_sg N).rs) ((), (false, ())))
                                          else
                                          ((T_laws_eqUndoS N a1.2.2.2.2.2.2.2.2.2.2.2.2.2.2.2.2.1 b2.2.2.2.2.2.2.2.2.2.2.2.2.2.2.2.2.1).bind fun o7 =>
                                            (bif !o7.2.1 then
                                              (some (α := ODen (T_laws_eqRoot_sg N).ps × RDen (T_laws_eqRoot_sg N).rs) ((), (false, ())))
                                              else
                                              ((T_laws_eqIntS N a1.2.2.2.2.2.2.2.2.2.2.2.2.2.2.2.2.2.1 b2.2.2.2.2.2.2.2.2.2.2.2.2.2.2.2.2.2.1).bind fun o8 =>
                                                (bif !o8.2.1 then
                                                  (some (α := ODen (T_laws_eqRoot_sg N).ps × RDen (T_laws_eqRoot_sg N).rs) ((), (false, ())))
                                                  else
                                                  (bif !(beq a1.2.2.2.2.2.2.2.2.2.2.2.2.2.2.2.2.2.2.1 b2.2.2.2.2.2.2.2.2.2.2.2.2.2.2.2.2.2.2.1) then
                                                    (some (α := ODen (T_laws_eqRoot_sg N).ps × RDen (T_laws_eqRoot_sg N).rs) ((), (false, ())))
                                                    else
                                                    ((T_laws_eqProbe N a1.2.2.2.2.2.2.2.2.2.2.2.2.2.2.2.2.2.2.2.1 b2.2.2.2.2.2.2.2.2.2.2.2.2.2.2.2.2.2.2.2.1).bind fun o9 =>
                                                      (bif !o9.2.1 then
                                                        (some (α := ODen (T_laws_eqRoot_sg N).ps × RDen (T_laws_eqRoot_sg N).rs) ((), (false, ())))
                                                        else
                                                        ((T_laws_eqCommit N a1.2.2.2.2.2.2.2.2.2.2.2.2.2.2.2.2.2.2.2.2.1 b2.2.2.2.2.2.2.2.2.2.2.2.2.2.2.2.2.2.2.2.2.1).bind fun o10 =>
                                                          (bif !o10.2.1 then
                                                            (some (α := ODen (T_laws_eqRoot_sg N).ps × RDen (T_laws_eqRoot_sg N).rs) ((), (false, ())))
                                                            else
                                                            ((T_laws_eqFamily N a1.2.2.2.2.2.2.2.2.2.2.2.2.2.2.2.2.2.2.2.2.2 b2.2.2.2.2.2.2.2.2.2.2.2.2.2.2.2.2.2.2.2.2.2).bind fun o11 =>
                                                              (bif !o11.2.1 then
                                                                (some (α := ODen (T_laws_eqRoot_sg N).ps × RDen (T_laws_eqRoot_sg N).rs) ((), (false, ())))
                                                                else
                                                                (some (α := ODen (T_laws_eqRoot_sg N).ps × RDen (T_laws_eqRoot_sg N).rs) ((), (true, ())))))))))))))))))))))))))))))))))) := by kernel_rfl

theorem T_laws_eqRoot_ok (N : Nat) : chkBody Try.f123 (T_laws_eqRoot_sg N).ps = true := by kernel_rfl

theorem T_laws_eqRoot_callable : Callable Try.prog 123 := callable_of Try.func123 (show chkFn Try.f123 = true by kernel_rfl)

theorem T_laws_eqRoot_good (N : Nat) : Good Try.prog 123 (T_laws_eqRoot_sg N) :=
  good_body mixedOk tabOk (ctx_cons (T_laws_eqIntS_good N) T_laws_eqIntS_callable (ctx_cons (T_laws_eqRowS_good N) T_laws_eqRowS_callable (ctx_cons (T_laws_eqMarkS_good N) T_laws_eqMarkS_callable (ctx_cons (T_laws_eqUndoS_good N) T_laws_eqUndoS_callable (ctx_cons (T_laws_eqProbe_good N) T_laws_eqProbe_callable (ctx_cons (T_laws_eqCommit_good N) T_laws_eqCommit_callable (ctx_cons (T_laws_eqFamily_good N) T_laws_eqFamily_callable ctx_nil))))))) Try.func123 (T_laws_eqRoot_ok N) (fun d _ h => ⟨N, (T_laws_eqRoot_den N d.1 d.2.1).trans h⟩)

noncomputable def T_laws_eqRootS_sg (N : Nat) : Sig := Sig.of [.v (.slice (TY_Root)) false, .v (.slice (TY_Root)) false] [.v (.bool) false] (fun d => T_laws_eqRootS N d.1 d.2.1)

def T_laws_eqRootS_ann : Nat → List Ghost
  | 4 => [.canon [0, 1, 5, 14]]
  | 5 => [.canon [0, 1, 5]]
  | 6 => [.canon [0, 1, 5, 26]]
  | 7 => [.canon [4]]
  | 100004 => [.canon [0, 1, 5]]
  | _ => []

noncomputable def T_laws_eqRootS_ctx (N : Nat) : Ctx := [(123, T_laws_eqRoot_sg N)]

def T_laws_eqRootS_lp0_sh (a3 : List Y_Root) (b4 : List Y_Root) (i5 : Int) : St := { env := [(0, .s (.one (.val (.slice (TY_Root)) (a3 : List Y_Root)))), (1, .s (.one (.val (.slice (TY_Root)) (b4 : List Y_Root)))), (5, .s (.one (.val (.int .i64) (i5 : Int))))], objs := [], nx := 0 }

def T_laws_eqRootS_lp0_e0 (a3 : List Y_Root) (b4 : List Y_Root) : St := { env := [(4, .s (.one (.val (.bool) (false : Bool))))], objs := [], nx := 0 }

def T_laws_eqRootS_lp0_e1 (a3 : List Y_Root) (b4 : List Y_Root) (i7 : Int) (t8 : Bool) : St := { env := [(0, .s (.one (.val (.slice (TY_Root)) (a3 : List Y_Root)))), (1, .s (.one (.val (.slice (TY_Root)) (b4 : List Y_Root)))), (5, .s (.one (.val (.int .i64) (i7 : Int)))), (14, .s (.one (.val (.bool) (t8 : Bool))))], objs := [], nx := 0 }

noncomputable def T_laws_eqRootS_lp0_m (N : Nat) {R : Type} (n : Nat) (st : St) (K : Ex → St → Option R) : Option R := loopN (roundG (T_laws_eqRootS_ann 100004) fun st k => sx tab (T_laws_eqRootS_ctx N) T_laws_eqRootS_ann N (nthLoop Try.f83 0) st k) n st K

theorem T_laws_eqRootS_lp0_step (N : Nat) {R : Type} (n : Nat) (K : Ex → St → Option R) (a3 : List Y_Root) (b4 : List Y_Root) (i5 : Int) :
    T_laws_eqRootS_lp0_m N (n + 1) (T_laws_eqRootS_lp0_sh a3 b4 i5) K =
    (bif decide (i5 < (ilen a3)) then
    (bif inb i5 (List.length a3) then
      (bif inb i5 (List.length b4) then
        ((T_laws_eqRoot N (List.getD a3 (Int.toNat i5) d_Root) (List.getD b4 (Int.toNat i5) d_Root)).bind fun o9 =>
          (bif !o9.2.1 then
            (K .ret (T_laws_eqRootS_lp0_e0 a3 b4))
            else
            (T_laws_eqRootS_lp0_m N n (T_laws_eqRootS_lp0_sh a3 b4 (iadd .i64 i5 (1 : Int))) K))) else none) else none)
    else
    (K (.exit 0) (T_laws_eqRootS_lp0_e1 a3 b4 i5 (decide (i5 < (ilen a3)))))) := by kernel_rfl

theorem T_laws_eqRootS_lp0_eq (N : Nat) {R : Type} (a3 : List Y_Root) (b4 : List Y_Root) (K : Ex → St → Option R) : ∀ (n : Nat) (i5 : Int), T_laws_eqRootS_lp0_m N n (T_laws_eqRootS_lp0_sh a3 b4 i5) K = T_laws_eqRootS_lp0 N a3 b4 (K .ret (T_laws_eqRootS_lp0_e0 a3 b4)) (fun i7 t8 => (K (.exit 0) (T_laws_eqRootS_lp0_e1 a3 b4 i7 t8))) n i5
  | 0, _ => rfl
  | n + 1, i5 => by rw [T_laws_eqRootS_lp0_step, T_laws_eqRootS_lp0]; (try simp only [T_laws_eqRootS_lp0_eq N a3 b4 K n])

theorem T_laws_eqRootS_c1 (N : Nat) (a1 : List Y_Root) (b2 : List Y_Root) :
    ((ctxK (R := ODen (T_laws_eqRootS_sg N).ps × RDen (T_laws_eqRootS_sg N).rs) tab (T_laws_eqRootS_ctx N) T_laws_eqRootS_ann N (theCode Try.f83) [1, 1, 0, 1, 0] (retK tab (T_laws_eqRootS_sg N) Try.f83.results.toList some)) .ret (T_laws_eqRootS_lp0_e0 a1 b2)) =
    (some (α := ODen (T_laws_eqRootS_sg N).ps × RDen (T_laws_eqRootS_sg N).rs) ((), (false, ()))) := by kernel_rfl

theorem T_laws_eqRootS_c2 (N : Nat) (a1 : List Y_Root) (b2 : List Y_Root) (i10 : Int) (t11 : Bool) :
    ((ctxK (R := ODen (T_laws_eqRootS_sg N).ps × RDen (T_laws_eqRootS_sg N).rs) tab (T_laws_eqRootS_ctx N) T_laws_eqRootS_ann N (theCode Try.f83) [1, 1, 0, 1, 0] (retK tab (T_laws_eqRootS_sg N) Try.f83.results.toList some)) (.exit 0) (T_laws_eqRootS_lp0_e1 a1 b2 i10 t11)) =
    (some (α := ODen (T_laws_eqRootS_sg N).ps × RDen (T_laws_eqRootS_sg N).rs) ((), (true, ()))) := by kernel_rfl

theorem T_laws_eqRootS_den (N : Nat) (a1 : List Y_Root) (b2 : List Y_Root) :
    den (R := ODen (T_laws_eqRootS_sg N).ps × RDen (T_laws_eqRootS_sg N).rs) tab (T_laws_eqRootS_ctx N) T_laws_eqRootS_ann N (T_laws_eqRootS_sg N) Try.f83 (a1, b2, ()) some =
    (bif (ilen a1) != (ilen b2) then
    (some (α := ODen (T_laws_eqRootS_sg N).ps × RDen (T_laws_eqRootS_sg N).rs) ((), (false, ())))
    else
    (T_laws_eqRootS_lp0 N a1 b2
      (some (α := ODen (T_laws_eqRootS_sg N).ps × RDen (T_laws_eqRootS_sg N).rs) ((), (false, ())))
      (fun i10 t11 =>
        (some (α := ODen (T_laws_eqRootS_sg N).ps × RDen (T_laws_eqRootS_sg N).rs) ((), (true, ()))))
       N (0 : Int))) := by
  have h : den (R := ODen (T_laws_eqRootS_sg N).ps × RDen (T_laws_eqRootS_sg N).rs) tab (T_laws_eqRootS_ctx N) T_laws_eqRootS_ann N (T_laws_eqRootS_sg N) Try.f83 (a1, b2, ()) some =
    (bif (ilen a1) != (ilen b2) then
    (some (α := ODen (T_laws_eqRootS_sg N).ps × RDen (T_laws_eqRootS_sg N).rs) ((), (false, ())))
    else
    (T_laws_eqRootS_lp0_m N N (T_laws_eqRootS_lp0_sh a1 b2 (0 : Int)) (ctxK (R := ODen (T_laws_eqRootS_sg N).ps × RDen (T_laws_eqRootS_sg N).rs) tab (T_laws_eqRootS_ctx N) T_laws_eqRootS_ann N (theCode Try.f83) [1, 1, 0, 1, 0] (retK tab (T_laws_eqRootS_sg N) Try.f83.results.toList some)))) := by kernel_rfl
  rw [h]
  (try simp only [T_laws_eqRootS_lp0_eq, T_laws_eqRootS_c1, T_laws_eqRootS_c2]) <;> rfl

theorem T_laws_eqRootS_ok (N : Nat) : chkBody Try.f83 (T_laws_eqRootS_sg N).ps = true := by kernel_rfl

theorem T_laws_eqRootS_callable : Callable Try.prog 83 := callable_of Try.func83 (show chkFn Try.f83 = true by kernel_rfl)

theorem T_laws_eqRootS_good (N : Nat) : Good Try.prog 83 (T_laws_eqRootS_sg N) :=
  good_body mixedOk tabOk (ctx_cons (T_laws_eqRoot_good N) T_laws_eqRoot_callable ctx_nil) Try.func83 (T_laws_eqRootS_ok N) (fun d _ h => ⟨N, (T_laws_eqRootS_den N d.1 d.2.1).trans h⟩)

noncomputable def T_laws_eqWrote_sg (N : Nat) : Sig := Sig.of [.v (.prod (.int .i64) (.prod (.int .i64) (.slice (.prod (.int .i64) (.int .i64))))) true, .v (.prod (.int .i64) (.prod (.int .i64) (.slice (.prod (.int .i64) (.int .i64))))) true] [.v (.bool) false] (fun d => T_laws_eqWrote N d.1 d.2.1)

def T_laws_eqWrote_ann : Nat → List Ghost
  | _ => []

noncomputable def T_laws_eqWrote_ctx (N : Nat) : Ctx := [(50, T_laws_eqRowS_sg N)]

theorem T_laws_eqWrote_den (N : Nat) (a1 : Int × Int × List (Int × Int)) (b2 : Int × Int × List (Int × Int)) :
    den (R := ODen (T_laws_eqWrote_sg N).ps × RDen (T_laws_eqWrote_sg N).rs) tab (T_laws_eqWrote_ctx N) T_laws_eqWrote_ann N (T_laws_eqWrote_sg N) Try.f124 (a1, b2, ()) some =
    (bif a1.1 != b2.1 then
    (some (α := ODen (T_laws_eqWrote_sg N).ps × RDen (T_laws_eqWrote_sg N).rs) ((), (false, ())))
    else
    (bif a1.2.1 != b2.2.1 then
      (some (α := ODen (T_laws_eqWrote_sg N).ps × RDen (T_laws_eqWrote_sg N).rs) ((), (false, ())))
      else
      ((T_laws_eqRowS N a1.2.2 b2.2.2).bind fun o3 =>
        (bif !o3.2.1 then
          (some (α := ODen (T_laws_eqWrote_sg N).ps × RDen (T_laws_eqWrote_sg N).rs) ((), (false, ())))
          else
          (some (α := ODen (T_laws_eqWrote_sg N).ps × RDen (T_laws_eqWrote_sg N).rs) ((), (true, ()))))))) := by kernel_rfl

theorem T_laws_eqWrote_ok (N : Nat) : chkBody Try.f124 (T_laws_eqWrote_sg N).ps = true := by kernel_rfl

theorem T_laws_eqWrote_callable : Callable Try.prog 124 := callable_of Try.func124 (show chkFn Try.f124 = true by kernel_rfl)

theorem T_laws_eqWrote_good (N : Nat) : Good Try.prog 124 (T_laws_eqWrote_sg N) :=
  good_body mixedOk tabOk (ctx_cons (T_laws_eqRowS_good N) T_laws_eqRowS_callable ctx_nil) Try.func124 (T_laws_eqWrote_ok N) (fun d _ h => ⟨N, (T_laws_eqWrote_den N d.1 d.2.1).trans h⟩)

noncomputable def T_laws_eqWroteS_sg (N : Nat) : Sig := Sig.of [.v (.slice (.prod (.int .i64) (.prod (.int .i64) (.slice (.prod (.int .i64) (.int .i64)))))) false, .v (.slice (.prod (.int .i64) (.prod (.int .i64) (.slice (.prod (.int .i64) (.int .i64)))))) false] [.v (.bool) false] (fun d => T_laws_eqWroteS N d.1 d.2.1)

def T_laws_eqWroteS_ann : Nat → List Ghost
  | 4 => [.canon [0, 1, 5, 14]]
  | 5 => [.canon [0, 1, 5]]
  | 6 => [.canon [0, 1, 5, 26]]
  | 7 => [.canon [4]]
  | 100004 => [.canon [0, 1, 5]]
  | _ => []

noncomputable def T_laws_eqWroteS_ctx (N : Nat) : Ctx := [(124, T_laws_eqWrote_sg N)]

def T_laws_eqWroteS_lp0_sh (a3 : List (Int × Int × List (Int × Int))) (b4 : List (Int × Int × List (Int × Int))) (i5 : Int) : St := { env := [(0, .s (.one (.val (.slice (.prod (.int .i64) (.prod (.int .i64) (.slice (.prod (.int .i64) (.int .i64)))))) (a3 : List (Int × Int × List (Int × Int)))))), (1, .s (.one (.val (.slice (.prod (.int .i64) (.prod (.int .i64) (.slice (.prod (.int .i64) (.int .i64)))))) (b4 : List (Int × Int × List (Int × Int)))))), (5, .s (.one (.val (.int .i64) (i5 : Int))))], objs := [], nx := 0 }

def T_laws_eqWroteS_lp0_e0 (a3 : List (Int × Int × List (Int × Int))) (b4 : List (Int × Int × List (Int × Int))) : St := { env := [(4, .s (.one (.val (.bool) (false : Bool))))], objs := [], nx := 0 }

def T_laws_eqWroteS_lp0_e1 (a3 : List (Int × Int × List (Int × Int))) (b4 : List (Int × Int × List (Int × Int))) (i7 : Int) (t8 : Bool) : St := { env := [(0, .s (.one (.val (.slice (.prod (.int .i64) (.prod (.int .i64) (.slice (.prod (.int .i64) (.int .i64)))))) (a3 : List (Int × Int × List (Int × Int)))))), (1, .s (.one (.val (.slice (.prod (.int .i64) (.prod (.int .i64) (.slice (.prod (.int .i64) (.int .i64)))))) (b4 : List (Int × Int × List (Int × Int)))))), (5, .s (.one (.val (.int .i64) (i7 : Int)))), (14, .s (.one (.val (.bool) (t8 : Bool))))], objs := [], nx := 0 }

noncomputable def T_laws_eqWroteS_lp0_m (N : Nat) {R : Type} (n : Nat) (st : St) (K : Ex → St → Option R) : Option R := loopN (roundG (T_laws_eqWroteS_ann 100004) fun st k => sx tab (T_laws_eqWroteS_ctx N) T_laws_eqWroteS_ann N (nthLoop Try.f84 0) st k) n st K

theorem T_laws_eqWroteS_lp0_step (N : Nat) {R : Type} (n : Nat) (K : Ex → St → Option R) (a3 : List (Int × Int × List (Int × Int))) (b4 : List (Int × Int × List (Int × Int))) (i5 : Int) :
    T_laws_eqWroteS_lp0_m N (n + 1) (T_laws_eqWroteS_lp0_sh a3 b4 i5) K =
    (bif decide (i5 < (ilen a3)) then
    (bif inb i5 (List.length a3) then
      (bif inb i5 (List.length b4) then
        ((T_laws_eqWrote N (List.getD a3 (Int.toNat i5) ((0 : Int), ((0 : Int), ([] : List (Int × Int))))) (List.getD b4 (Int.toNat i5) ((0 : Int), ((0 : Int), ([] : List (Int × Int)))))).bind fun o9 =>
          (bif !o9.2.1 then
            (K .ret (T_laws_eqWroteS_lp0_e0 a3 b4))
            else
            (T_laws_eqWroteS_lp0_m N n (T_laws_eqWroteS_lp0_sh a3 b4 (iadd .i64 i5 (1 : Int))) K))) else none) else none)
    else
    (K (.exit 0) (T_laws_eqWroteS_lp0_e1 a3 b4 i5 (decide (i5 < (ilen a3)))))) := by kernel_rfl

theorem T_laws_eqWroteS_lp0_eq (N : Nat) {R : Type} (a3 : List (Int × Int × List (Int × Int))) (b4 : List (Int × Int × List (Int × Int))) (K : Ex → St → Option R) : ∀ (n : Nat) (i5 : Int), T_laws_eqWroteS_lp0_m N n (T_laws_eqWroteS_lp0_sh a3 b4 i5) K = T_laws_eqWroteS_lp0 N a3 b4 (K .ret (T_laws_eqWroteS_lp0_e0 a3 b4)) (fun i7 t8 => (K (.exit 0) (T_laws_eqWroteS_lp0_e1 a3 b4 i7 t8))) n i5
  | 0, _ => rfl
  | n + 1, i5 => by rw [T_laws_eqWroteS_lp0_step, T_laws_eqWroteS_lp0]; (try simp only [T_laws_eqWroteS_lp0_eq N a3 b4 K n])

theorem T_laws_eqWroteS_c1 (N : Nat) (a1 : List (Int × Int × List (Int × Int))) (b2 : List (Int × Int × List (Int × Int))) :
    ((ctxK (R := ODen (T_laws_eqWroteS_sg N).ps × RDen (T_laws_eqWroteS_sg N).rs) tab (T_laws_eqWroteS_ctx N) T_laws_eqWroteS_ann N (theCode Try.f84) [1, 1, 0, 1, 0] (retK tab (T_laws_eqWroteS_sg N) Try.f84.results.toList some)) .ret (T_laws_eqWroteS_lp0_e0 a1 b2)) =
    (some (α := ODen (T_laws_eqWroteS_sg N).ps × RDen (T_laws_eqWroteS_sg N).rs) ((), (false, ()))) := by kernel_rfl

theorem T_laws_eqWroteS_c2 (N : Nat) (a1 : List (Int × Int × List (Int × Int))) (b2 : List (Int × Int × List (Int × Int))) (i10 : Int) (t11 : Bool) :
    ((ctxK (R := ODen (T_laws_eqWroteS_sg N).ps × RDen (T_laws_eqWroteS_sg N).rs) tab (T_laws_eqWroteS_ctx N) T_laws_eqWroteS_ann N (theCode Try.f84) [1, 1, 0, 1, 0] (retK tab (T_laws_eqWroteS_sg N) Try.f84.results.toList some)) (.exit 0) (T_laws_eqWroteS_lp0_e1 a1 b2 i10 t11)) =
    (some (α := ODen (T_laws_eqWroteS_sg N).ps × RDen (T_laws_eqWroteS_sg N).rs) ((), (true, ()))) := by kernel_rfl

theorem T_laws_eqWroteS_den (N : Nat) (a1 : List (Int × Int × List (Int × Int))) (b2 : List (Int × Int × List (Int × Int))) :
    den (R := ODen (T_laws_eqWroteS_sg N).ps × RDen (T_laws_eqWroteS_sg N).rs) tab (T_laws_eqWroteS_ctx N) T_laws_eqWroteS_ann N (T_laws_eqWroteS_sg N) Try.f84 (a1, b2, ()) some =
    (bif (ilen a1) != (ilen b2) then
    (some (α := ODen (T_laws_eqWroteS_sg N).ps × RDen (T_laws_eqWroteS_sg N).rs) ((), (false, ())))
    else
    (T_laws_eqWroteS_lp0 N a1 b2
      (some (α := ODen (T_laws_eqWroteS_sg N).ps × RDen (T_laws_eqWroteS_sg N).rs) ((), (false, ())))
      (fun i10 t11 =>
        (some (α := ODen (T_laws_eqWroteS_sg N).ps × RDen (T_laws_eqWroteS_sg N).rs) ((), (true, ()))))
       N (0 : Int))) := by
  have h : den (R := ODen (T_laws_eqWroteS_sg N).ps × RDen (T_laws_eqWroteS_sg N).rs) tab (T_laws_eqWroteS_ctx N) T_laws_eqWroteS_ann N (T_laws_eqWroteS_sg N) Try.f84 (a1, b2, ()) some =
    (bif (ilen a1) != (ilen b2) then
    (some (α := ODen (T_laws_eqWroteS_sg N).ps × RDen (T_laws_eqWroteS_sg N).rs) ((), (false, ())))
    else
    (T_laws_eqWroteS_lp0_m N N (T_laws_eqWroteS_lp0_sh a1 b2 (0 : Int)) (ctxK (R := ODen (T_laws_eqWroteS_sg N).ps × RDen (T_laws_eqWroteS_sg N).rs) tab (T_laws_eqWroteS_ctx N) T_laws_eqWroteS_ann N (theCode Try.f84) [1, 1, 0, 1, 0] (retK tab (T_laws_eqWroteS_sg N) Try.f84.results.toList some)))) := by kernel_rfl
  rw [h]
  (try simp only [T_laws_eqWroteS_lp0_eq, T_laws_eqWroteS_c1, T_laws_eqWroteS_c2]) <;> rfl

theorem T_laws_eqWroteS_ok (N : Nat) : chkBody Try.f84 (T_laws_eqWroteS_sg N).ps = true := by kernel_rfl

theorem T_laws_eqWroteS_callable : Callable Try.prog 84 := callable_of Try.func84 (show chkFn Try.f84 = true by kernel_rfl)

theorem T_laws_eqWroteS_good (N : Nat) : Good Try.prog 84 (T_laws_eqWroteS_sg N) :=
  good_body mixedOk tabOk (ctx_cons (T_laws_eqWrote_good N) T_laws_eqWrote_callable ctx_nil) Try.func84 (T_laws_eqWroteS_ok N) (fun d _ h => ⟨N, (T_laws_eqWroteS_den N d.1 d.2.1).trans h⟩)

noncomputable def T_laws_eqWorld_sg (N : Nat) : Sig := Sig.of [.v (TY_World) true, .v (TY_World) true] [.v (.bool) false] (fun d => T_laws_eqWorld N d.1 d.2.1)

def T_laws_eqWorld_ann : Nat → List Ghost
  | _ => []

noncomputable def T_laws_eqWorld_ctx (N : Nat) : Ctx := [(80, T_laws_eqMem_sg N), (81, T_laws_eqShelf_sg N), (82, T_laws_eqHoldS_sg N), (83, T_laws_eqRootS_sg N), (84, T_laws_eqWroteS_sg N)]

theorem T_laws_eqWorld_den (N : Nat) (a1 : Y_World) (b2 : Y_World) :
    den (R := ODen (T_laws_eqWorld_sg N).ps × RDen (T_laws_eqWorld_sg N).rs) tab (T_laws_eqWorld_ctx N) T_laws_eqWorld_ann N (T_laws_eqWorld_sg N) Try.f35 (a1, b2, ()) some =
    (bif a1.1 != b2.1 then
    (some (α := ODen (T_laws_eqWorld_sg N).ps × RDen (T_laws_eqWorld_sg N).rs) ((), (false, ())))
    else
    (bif a1.2.1 != b2.2.1 then
      (some (α := ODen (T_laws_eqWorld_sg N).ps × RDen (T_laws_eqWorld_sg N).rs) ((), (false, ())))
      else
      ((T_laws_eqMem N a1.2.2.1 b2.2.2.1).bind fun o3 =>
        (bif !o3.2.1 then
          (some (α := ODen (T_laws_eqWorld_sg N).ps × RDen (T_laws_eqWorld_sg N).rs) ((), (false, ())))
          else
          ((T_laws_eqShelf N a1.2.2.2.1 b2.2.2.2.1).bind fun o4 =>
            (bif !o4.2.1 then
              (some (α := ODen (T_laws_eqWorld_sg N).ps × RDen (T_laws_eqWorld_sg N).rs) ((), (false, ())))
              else
              ((T_laws_eqHoldS N a1.2.2.2.2.1 b2.2.2.2.2.1).bind fun o5 =>
                (bif !o5.2.1 then
                  (some (α := ODen (T_laws_eqWorld_sg N).ps × RDen (T_laws_eqWorld_sg N).rs) ((), (false, ())))
                  else
                  ((T_laws_eqRootS N a1.2.2.2.2.2.1 b2.2.2.2.2.2.1).bind fun o6 =>
                    (bif !o6.2.1 then
                      (some (α := ODen (T_laws_eqWorld_sg N).ps × RDen (T_laws_eqWorld_sg N).rs) ((), (false, ())))
                      else
                      ((T_laws_eqWroteS N a1.2.2.2.2.2.2 b2.2.2.2.2.2.2).bind fun o7 =>
                        (bif !o7.2.1 then
                          (some (α := ODen (T_laws_eqWorld_sg N).ps × RDen (T_laws_eqWorld_sg N).rs) ((), (false, ())))
                          else
                          (some (α := ODen (T_laws_eqWorld_sg N).ps × RDen (T_laws_eqWorld_sg N).rs) ((), (true, ()))))))))))))))) := by kernel_rfl

theorem T_laws_eqWorld_ok (N : Nat) : chkBody Try.f35 (T_laws_eqWorld_sg N).ps = true := by kernel_rfl

theorem T_laws_eqWorld_callable : Callable Try.prog 35 := callable_of Try.func35 (show chkFn Try.f35 = true by kernel_rfl)

theorem T_laws_eqWorld_good (N : Nat) : Good Try.prog 35 (T_laws_eqWorld_sg N) :=
  good_body mixedOk tabOk (ctx_cons (T_laws_eqMem_good N) T_laws_eqMem_callable (ctx_cons (T_laws_eqShelf_good N) T_laws_eqShelf_callable (ctx_cons (T_laws_eqHoldS_good N) T_laws_eqHoldS_callable (ctx_cons (T_laws_eqRootS_good N) T_laws_eqRootS_callable (ctx_cons (T_laws_eqWroteS_good N) T_laws_eqWroteS_callable ctx_nil))))) Try.func35 (T_laws_eqWorld_ok N) (fun d _ h => ⟨N, (T_laws_eqWorld_den N d.1 d.2.1).trans h⟩)

noncomputable def T_laws_FnExactTallyOf_sg (N : Nat) : Sig := Sig.of [.v (TY_World) true] [.v (.bool) false] (fun d => T_laws_FnExactTallyOf N d.1)

def T_laws_FnExactTallyOf_ann : Nat → List Ghost
  | _ => []

noncomputable def T_laws_FnExactTallyOf_ctx (N : Nat) : Ctx := [(30, T_laws_szWorld_sg N), (32, T_laws_toWorld_sg N), (31, T_spec_TallyOf_sg N), (33, T_impl_TallyOf_sg N), (34, T_laws_eqTally_sg N), (35, T_laws_eqWorld_sg N)]

theorem T_laws_FnExactTallyOf_den (N : Nat) (aW1 : Y_World) :
    den (R := ODen (T_laws_FnExactTallyOf_sg N).ps × RDen (T_laws_FnExactTallyOf_sg N).rs) tab (T_laws_FnExactTallyOf_ctx N) T_laws_FnExactTallyOf_ann N (T_laws_FnExactTallyOf_sg N) Try.f6 (aW1, ()) some =
    ((T_laws_szWorld N aW1 (1048576 : Int)).bind fun o2 =>
    (bif decide (o2.2.1 < (0 : Int)) then
      (some (α := ODen (T_laws_FnExactTallyOf_sg N).ps × RDen (T_laws_FnExactTallyOf_sg N).rs) ((), (true, ())))
      else
      ((T_laws_toWorld N aW1).bind fun o3 =>
        ((T_spec_TallyOf N o3.2.1).bind fun o4 =>
          ((T_laws_toWorld N aW1).bind fun o5 =>
            ((T_impl_TallyOf N o5.2.1).bind fun o6 =>
              ((T_laws_eqTally N o6.2.1 o4.2.1).bind fun o7 =>
                (bif !o7.2.1 then
                  (some (α := ODen (T_laws_FnExactTallyOf_sg N).ps × RDen (T_laws_FnExactTallyOf_sg N).rs) ((), (false, ())))
                  else
                  ((T_laws_toWorld N aW1).bind fun o8 =>
                    ((T_laws_eqWorld N o5.2.1 o8.2.1).bind fun o9 =>
                      (bif !o9.2.1 then
                        (some (α := ODen (T_laws_FnExactTallyOf_sg N).ps × RDen (T_laws_FnExactTallyOf_sg N).rs) ((), (false, ())))
                        else
                        (some (α := ODen (T_laws_FnExactTallyOf_sg N).ps × RDen (T_laws_FnExactTallyOf_sg N).rs) ((), (true, ())))))))))))))) := by kernel_rfl

theorem T_laws_FnExactTallyOf_ok (N : Nat) : chkBody Try.f6 (T_laws_FnExactTallyOf_sg N).ps = true := by kernel_rfl

theorem T_laws_FnExactTallyOf_callable : Callable Try.prog 6 := callable_of Try.func6 (show chkFn Try.f6 = true by kernel_rfl)

theorem T_laws_FnExactTallyOf_good (N : Nat) : Good Try.prog 6 (T_laws_FnExactTallyOf_sg N) :=
  good_body mixedOk tabOk (ctx_cons (T_laws_szWorld_good N) T_laws_szWorld_callable (ctx_cons (T_laws_toWorld_good N) T_laws_toWorld_callable (ctx_cons (T_spec_TallyOf_good N) T_spec_TallyOf_callable (ctx_cons (T_impl_TallyOf_good N) T_impl_TallyOf_callable (ctx_cons (T_laws_eqTally_good N) T_laws_eqTally_callable (ctx_cons (T_laws_eqWorld_good N) T_laws_eqWorld_callable ctx_nil)))))) Try.func6 (T_laws_FnExactTallyOf_ok N) (fun d _ h => ⟨N, (T_laws_FnExactTallyOf_den N d.1).trans h⟩)

end Go.Sx
