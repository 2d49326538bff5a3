/- Each Go function does what its Lean function says. -/
import Derived.Test.YtceckfecihemnaaGreatT
import Derived.Test.YtceckfecihemnaaGreatProg
import Derived.Test.YtceckfecihemnaaGreatLay
namespace Go.Sx
open Go.Proofs
set_option linter.unusedVariables false
set_option linter.unusedSimpArgs false
def tab : Tab := [(3, ⟨.int .i64, false, .basic⟩), (4, ⟨.bool, false, .basic⟩), (22, ⟨.slice (.slice (.prod (.int .i64) (.prod (.int .i64) (.prod (.int .i64) (.int .i64))))), false, .slice 56⟩), (23, ⟨.slice (.int .i64), false, .slice 3⟩), (26, ⟨.prod (.int .i64) (.prod (.slice (.int .i64)) (.prod (.slice (.int .i64)) (.slice (.int .i64)))), true, .struct [(0, 3), (1, 23), (2, 23), (3, 23)]⟩), (28, ⟨.slice (.slice (.prod (.int .i64) (.prod (.int .i64) (.prod (.int .i64) (.int .i64))))), false, .slice 63⟩), (38, ⟨.slice (.prod (.int .i64) (.int .i64)), false, .slice 71⟩), (41, ⟨.slice (.prod (.int .i64) (.int .i64)), false, .slice 52⟩), (52, ⟨.prod (.int .i64) (.int .i64), true, .struct [(0, 3), (1, 3)]⟩), (54, ⟨.slice (.prod (.int .i64) (.prod (.int .i64) (.prod (.int .i64) (.int .i64)))), false, .slice 124⟩), (56, ⟨.slice (.prod (.int .i64) (.prod (.int .i64) (.prod (.int .i64) (.int .i64)))), true, .struct [(0, 54)]⟩), (58, ⟨.slice (.bool), false, .slice 4⟩), (61, ⟨.slice (.prod (.int .i64) (.prod (.int .i64) (.prod (.int .i64) (.int .i64)))), false, .slice 90⟩), (63, ⟨.slice (.prod (.int .i64) (.prod (.int .i64) (.prod (.int .i64) (.int .i64)))), true, .struct [(0, 61)]⟩), (71, ⟨.prod (.int .i64) (.int .i64), true, .struct [(0, 3), (1, 3)]⟩), (84, ⟨.prod (.slice (.int .i64)) (.prod (.slice (.int .i64)) (.int .i64)), true, .struct [(0, 23), (1, 23), (2, 3)]⟩), (86, ⟨.prod (.int .i64) (.prod (.slice (.int .i64)) (.prod (.slice (.int .i64)) (.prod (.slice (.int .i64)) (.int .i64)))), true, .struct [(0, 3), (1, 23), (2, 84)]⟩), (88, ⟨.slice (.prod (.int .i64) (.prod (.slice (.int .i64)) (.prod (.slice (.int .i64)) (.slice (.bool))))), false, .slice 93⟩), (90, ⟨.prod (.int .i64) (.prod (.int .i64) (.prod (.int .i64) (.int .i64))), true, .struct [(0, 3), (1, 3), (2, 3), (3, 3)]⟩), (93, ⟨.prod (.int .i64) (.prod (.slice (.int .i64)) (.prod (.slice (.int .i64)) (.slice (.bool)))), true, .struct [(0, 3), (1, 23), (2, 23), (3, 58)]⟩), (103, ⟨.slice (.prod (.int .i64) (.prod (.int .i64) (.slice (.int .i64)))), false, .slice 135⟩), (105, ⟨.prod (.slice (.int .i64)) (.prod (.slice (.int .i64)) (.prod (.slice (.prod (.int .i64) (.int .i64))) (.prod (.int .i64) (.prod (.slice (.prod (.int .i64) (.prod (.int .i64) (.slice (.int .i64))))) (.slice (.int .i64)))))), true, .struct [(0, 23), (1, 23), (2, 41), (3, 3), (4, 103), (5, 23)]⟩), (119, ⟨.slice (.prod (.int .i64) (.prod (.slice (.int .i64)) (.prod (.slice (.int .i64)) (.prod (.slice (.int .i64)) (.int .i64))))), false, .slice 121⟩), (121, ⟨.prod (.int .i64) (.prod (.slice (.int .i64)) (.prod (.slice (.int .i64)) (.prod (.slice (.int .i64)) (.int .i64)))), true, .struct [(0, 3), (1, 23), (2, 84)]⟩), (124, ⟨.prod (.int .i64) (.prod (.int .i64) (.prod (.int .i64) (.int .i64))), true, .struct [(0, 3), (1, 3), (2, 3), (3, 3)]⟩), (126, ⟨.slice (.prod (.int .i64) (.prod (.slice (.int .i64)) (.prod (.slice (.int .i64)) (.prod (.slice (.int .i64)) (.int .i64))))), false, .slice 128⟩), (128, ⟨.prod (.int .i64) (.prod (.slice (.int .i64)) (.prod (.slice (.int .i64)) (.prod (.slice (.int .i64)) (.int .i64)))), true, .struct [(0, 3), (1, 23), (2, 84)]⟩), (135, ⟨.prod (.int .i64) (.prod (.int .i64) (.slice (.int .i64))), true, .struct [(0, 3), (1, 3), (2, 23)]⟩)]
theorem mixedOk : Tryz.prog.follows .mixedOrders = true := by kernel_rfl
theorem tabOk : TabOk Tryz.prog tab := tab_ok (show chkTab Tryz.prog tab tab = true by kernel_rfl)
noncomputable def LM (x : Fn) (N : Nat) {R : Type} (i k n : Nat) (st : St) (K : Ex → St → Option R) : Option R := lpM tab (x.c N) x.a N x.F i k n st K
noncomputable def CF (x : Fn) (N : Nat) (p : List Nat) : Ex → St → Option (Qs (x.s N)) := cxF tab (x.c N) x.a N (x.s N) x.F p
noncomputable def CL (x : Fn) (N : Nat) {R : Type} (i k : Nat) (p : List Nat) (n : Nat) (K : Ex → St → Option R) : Ex → St → Option R := cxL tab (x.c N) x.a N x.F i k p n K
noncomputable def DN (x : Fn) (N : Nat) (d : PDen (x.s N).ps) : Option (Qs (x.s N)) := den (R := Qs (x.s N)) tab (x.c N) x.a N (x.s N) x.F d some
theorem GF (x : Fn) {k : FuncId} (N : Nat) (hf : Tryz.prog.funcs[k]? = some x.F) (hc : CtxOk Tryz.prog (x.c N)) (hok : chkBody x.F (x.s N).ps = true) (h : ∀ d, DN x N d = (x.s N).run d) : Good Tryz.prog k (x.s N) :=
  good_body mixedOk tabOk hc hf hok (fun d _ e => ⟨N, (h d).trans e⟩)
noncomputable def Zhy (N : Nat) : Sig := Sig.of [.v (.slice (.prod (.int .i64) (.prod (.int .i64) (.prod (.int .i64) (.int .i64))))) false, .v (.int .i64) false] [.v (.int .i64) false] (fun d => Zg7 N d.1 d.2.1)
noncomputable def Zrr : Fn := ⟨Tryz.f53, noAnn, Zhy, noCtx⟩
theorem Zrs : Callable Tryz.prog 53 := callable_of Tryz.func53 (show chkFn Tryz.f53 = true by kernel_rfl)
theorem Zrt (N : Nat) : Good Tryz.prog 53 (Zhy N) := GF Zrr N Tryz.func53 ctx_nil (by kernel_rfl) (fun d => by kernel_rfl)
noncomputable def Zhz (N : Nat) : Sig := Sig.of [.v (.slice (.prod (.int .i64) (.prod (.int .i64) (.prod (.int .i64) (.int .i64))))) true, .v (.int .i64) false] [.v (.int .i64) false] (fun d => Zg8 N d.1 d.2.1)
noncomputable def Zru : Fn := ⟨Tryz.f27, noAnn, Zhz, fun N => [(53, Zhy N)]⟩
theorem Zrv : Callable Tryz.prog 27 := callable_of Tryz.func27 (show chkFn Tryz.f27 = true by kernel_rfl)
theorem Zrw (N : Nat) : Good Tryz.prog 27 (Zhz N) := GF Zru N Tryz.func27 (ctx_cons (Zrt N) Zrs ctx_nil) (by kernel_rfl) (fun d => by kernel_rfl)
noncomputable def Zhc (N : Nat) : Sig := Sig.of [.v (.slice (.slice (.prod (.int .i64) (.prod (.int .i64) (.prod (.int .i64) (.int .i64)))))) false, .v (.int .i64) false] [.v (.int .i64) false] (fun d => Zcy N d.1 d.2.1)
noncomputable def Zez : Fn := ⟨Tryz.f6, fun | 5 => [.canon [0, 1, 5, 15]] | 6 => [.canon [0, 1, 5]] | 7 => [.canon [0, 1, 5]] | 8 => [.canon [0, 1, 5, 25]] | 9 => [.canon [4]] | 100005 => [.canon [0, 1, 5]] | _ => [], Zhc, fun N => [(27, Zhz N)]⟩
def Zma (a3 : List (List (Int × Int × Int × Int))) (left4 : Int) (i5 : Int) : St := ⟨[(0, vV (.slice (.slice (.prod (.int .i64) (.prod (.int .i64) (.prod (.int .i64) (.int .i64)))))) a3), (1, vI left4), (5, vI i5)], [], 0⟩
def Zke (a3 : List (List (Int × Int × Int × Int))) : St := ⟨[(4, vI (-1 : Int))], [], 0⟩
def Zkf (a3 : List (List (Int × Int × Int × Int))) (left7 : Int) (i8 : Int) (t9 : Bool) : St := ⟨[(0, vV (.slice (.slice (.prod (.int .i64) (.prod (.int .i64) (.prod (.int .i64) (.int .i64)))))) a3), (1, vI left7), (5, vI i8), (15, vB t9)], [], 0⟩
theorem Zmb (N : Nat) {R : Type} (K : Ex → St → Option R) {a3 : List (List (Int × Int × Int × Int))} {K0 : Option R} {K1 : Int → Int → Bool → Option R} (h0 : K0 = K .ret (Zke a3)) (h1 : K1 = fun left7 i8 t9 => K (.exit 0) (Zkf a3 left7 i8 t9)) (n : Nat) (left4 : Int) (i5 : Int) : Zbk N a3 K0 K1 n left4 i5 = LM Zez N 0 100005 n (Zma a3 left4 i5) K := by
  subst h0 h1
  induction n generalizing left4 i5 with
  | zero => kernel_rfl
  | succ n ih => rw [Zbk]; simp (disch := exact id (by kernel_rfl)) only [ih]; kernel_rfl
theorem Zp2 : Callable Tryz.prog 6 := callable_of Tryz.func6 (show chkFn Tryz.f6 = true by kernel_rfl)
theorem Zp3 (N : Nat) (a1 : List (List (Int × Int × Int × Int))) (left2 : Int) : DN Zez N (a1, left2, ()) = Zcy N a1 left2 := by
  have h : Zcy N a1 left2 = Zcy N a1 left2 := rfl
  conv at h => rhs; rw [Zcy]
  simp (disch := exact id (by kernel_rfl)) only [Zmb (R := Unit × (Int × Unit)) N (CF Zez N [1, 1, 1, 0, 1, 0])] at h
  exact Eq.trans (by kernel_rfl) h.symm
theorem Zp4 (N : Nat) : Good Tryz.prog 6 (Zhc N) := GF Zez N Tryz.func6 (ctx_cons (Zrw N) Zrv ctx_nil) (by kernel_rfl) (fun d => Zp3 N d.1 d.2.1)
noncomputable def Zhd (N : Nat) : Sig := Sig.of [.v (.slice (.prod (.int .i64) (.int .i64))) false, .v (.int .i64) false] [.v (.int .i64) false] (fun d => Zgl N d.1 d.2.1)
noncomputable def Zp5 : Fn := ⟨Tryz.f18, noAnn, Zhd, noCtx⟩
theorem Zp6 : Callable Tryz.prog 18 := callable_of Tryz.func18 (show chkFn Tryz.f18 = true by kernel_rfl)
theorem Zp7 (N : Nat) : Good Tryz.prog 18 (Zhd N) := GF Zp5 N Tryz.func18 ctx_nil (by kernel_rfl) (fun d => by kernel_rfl)
noncomputable def Zim (N : Nat) : Sig := Sig.of [.v (.prod (.int .i64) (.prod (.int .i64) (.prod (.int .i64) (.int .i64)))) true] [.v (.prod (.int .i64) (.prod (.int .i64) (.prod (.int .i64) (.int .i64)))) true] (fun d => Zih N d.1)
noncomputable def Zs0 : Fn := ⟨Tryz.f85, noAnn, Zim, noCtx⟩
theorem Zs1 : Callable Tryz.prog 85 := callable_of Tryz.func85 (show chkFn Tryz.f85 = true by kernel_rfl)
theorem Zs2 (N : Nat) : Good Tryz.prog 85 (Zim N) := GF Zs0 N Tryz.func85 ctx_nil (by kernel_rfl) (fun d => by kernel_rfl)
noncomputable def Zh0 (N : Nat) : Sig := Sig.of [.v (.slice (.prod (.int .i64) (.prod (.int .i64) (.prod (.int .i64) (.int .i64))))) false] [.v (.own (.prod (.int .i64) (.prod (.int .i64) (.prod (.int .i64) (.int .i64))))) false] (fun d => Zdg N d.1)
noncomputable def Zfz : Fn := ⟨Tryz.f60, fun | 3 => [.canon [0, 3, 4, 11]] | 4 => [.canon [0, 3, 4]] | 5 => [.canon [0, 3, 4]] | 100003 => [.canon [0, 3, 4]] | _ => [], Zh0, fun N => [(85, Zim N)]⟩
def Zn7 (a2 : List (Int × Int × Int × Int)) (i3 : Int) (l4 : List (Int × Int × Int × Int)) : St := ⟨[(0, vV (.slice (.prod (.int .i64) (.prod (.int .i64) (.prod (.int .i64) (.int .i64))))) a2), (3, vO 0), (4, vI i3)], [(0, .arr (.prod (.int .i64) (.prod (.int .i64) (.prod (.int .i64) (.int .i64)))) l4)], 1⟩
def Zmc (a2 : List (Int × Int × Int × Int)) (i6 : Int) (t7 : Bool) (l8 : List (Int × Int × Int × Int)) : St := ⟨[(0, vV (.slice (.prod (.int .i64) (.prod (.int .i64) (.prod (.int .i64) (.int .i64))))) a2), (3, vO 0), (4, vI i6), (11, vB t7)], [(0, .arr (.prod (.int .i64) (.prod (.int .i64) (.prod (.int .i64) (.int .i64)))) l8)], 1⟩
theorem Zn8 (N : Nat) {R : Type} (K : Ex → St → Option R) {a2 : List (Int × Int × Int × Int)} {K0 : Int → Bool → (List (Int × Int × Int × Int)) → Option R} (h0 : K0 = fun i6 t7 l8 => K (.exit 0) (Zmc a2 i6 t7 l8)) (n : Nat) (i3 : Int) (l4 : List (Int × Int × Int × Int)) : Zb2 N a2 K0 n i3 l4 = LM Zfz N 0 100003 n (Zn7 a2 i3 l4) K := by
  subst h0
  induction n generalizing i3 l4 with
  | zero => kernel_rfl
  | succ n ih => rw [Zb2]; simp (disch := exact id (by kernel_rfl)) only [ih]; kernel_rfl
theorem Zrx : Callable Tryz.prog 60 := callable_of Tryz.func60 (show chkFn Tryz.f60 = true by kernel_rfl)
theorem Zry (N : Nat) (a1 : List (Int × Int × Int × Int)) : DN Zfz N (a1, ()) = Zdg N a1 := by
  have h : Zdg N a1 = Zdg N a1 := rfl
  conv at h => rhs; rw [Zdg]
  simp (disch := exact id (by kernel_rfl)) only [Zn8 (R := Unit × ((List (Int × Int × Int × Int)) × Unit)) N (CF Zfz N [1, 1, 0, 1, 0])] at h
  exact Eq.trans (by kernel_rfl) h.symm
theorem Zrz (N : Nat) : Good Tryz.prog 60 (Zh0 N) := GF Zfz N Tryz.func60 (ctx_cons (Zs2 N) Zs1 ctx_nil) (by kernel_rfl) (fun d => Zry N d.1)
noncomputable def Zh1 (N : Nat) : Sig := Sig.of [.v (.slice (.prod (.int .i64) (.prod (.int .i64) (.prod (.int .i64) (.int .i64))))) true] [.v (.own (.prod (.int .i64) (.prod (.int .i64) (.prod (.int .i64) (.int .i64))))) true] (fun d => Zg9 N d.1)
noncomputable def Zr0 : Fn := ⟨Tryz.f32, noAnn, Zh1, fun N => [(60, Zh0 N)]⟩
theorem Zr1 : Callable Tryz.prog 32 := callable_of Tryz.func32 (show chkFn Tryz.f32 = true by kernel_rfl)
theorem Zr2 (N : Nat) : Good Tryz.prog 32 (Zh1 N) := GF Zr0 N Tryz.func32 (ctx_cons (Zrz N) Zrx ctx_nil) (by kernel_rfl) (fun d => by kernel_rfl)
noncomputable def Zhe (N : Nat) : Sig := Sig.of [.v (.slice (.slice (.prod (.int .i64) (.prod (.int .i64) (.prod (.int .i64) (.int .i64)))))) false] [.v (.own (.own (.prod (.int .i64) (.prod (.int .i64) (.prod (.int .i64) (.int .i64)))))) false] (fun d => Zbc N d.1)
noncomputable def Ze0 : Fn := ⟨Tryz.f8, fun | 1 => [.nest 7 (.own (.prod (.int .i64) (.prod (.int .i64) (.prod (.int .i64) (.int .i64)))))] | 3 => [.canon [0, 3, 4, 11]] | 4 => [.canon [0, 3, 4]] | 5 => [.canon [0, 3, 4]] | 100003 => [.canon [0, 3, 4]] | _ => [], Zhe, fun N => [(32, Zh1 N)]⟩
def Zmd (a2 : List (List (Int × Int × Int × Int))) (i3 : Int) (l4 : List (List (Int × Int × Int × Int))) : St := ⟨[(0, vV (.slice (.slice (.prod (.int .i64) (.prod (.int .i64) (.prod (.int .i64) (.int .i64)))))) a2), (3, vO 0), (4, vI i3)], [(0, .arr (.own (.prod (.int .i64) (.prod (.int .i64) (.prod (.int .i64) (.int .i64))))) l4)], 1⟩
def Zkg (a2 : List (List (Int × Int × Int × Int))) (i6 : Int) (t7 : Bool) (l8 : List (List (Int × Int × Int × Int))) : St := ⟨[(0, vV (.slice (.slice (.prod (.int .i64) (.prod (.int .i64) (.prod (.int .i64) (.int .i64)))))) a2), (3, vO 0), (4, vI i6), (11, vB t7)], [(0, .arr (.own (.prod (.int .i64) (.prod (.int .i64) (.prod (.int .i64) (.int .i64))))) l8)], 1⟩
theorem Zme (N : Nat) {R : Type} (K : Ex → St → Option R) {a2 : List (List (Int × Int × Int × Int))} {K0 : Int → Bool → (List (List (Int × Int × Int × Int))) → Option R} (h0 : K0 = fun i6 t7 l8 => K (.exit 0) (Zkg a2 i6 t7 l8)) (n : Nat) (i3 : Int) (l4 : List (List (Int × Int × Int × Int))) : Zbl N a2 K0 n i3 l4 = LM Ze0 N 0 100003 n (Zmd a2 i3 l4) K := by
  subst h0
  induction n generalizing i3 l4 with
  | zero => kernel_rfl
  | succ n ih => rw [Zbl]; simp (disch := exact id (by kernel_rfl)) only [ih]; kernel_rfl
theorem Zp8 : Callable Tryz.prog 8 := callable_of Tryz.func8 (show chkFn Tryz.f8 = true by kernel_rfl)
theorem Zp9 (N : Nat) (a1 : List (List (Int × Int × Int × Int))) : DN Ze0 N (a1, ()) = Zbc N a1 := by
  have h : Zbc N a1 = Zbc N a1 := rfl
  conv at h => rhs; rw [Zbc]
  simp (disch := exact id (by kernel_rfl)) only [Zme (R := Unit × ((List (List (Int × Int × Int × Int))) × Unit)) N (CF Ze0 N [1, 1, 0, 1, 0])] at h
  exact Eq.trans (by kernel_rfl) h.symm
theorem Zqa (N : Nat) : Good Tryz.prog 8 (Zhe N) := GF Ze0 N Tryz.func8 (ctx_cons (Zr2 N) Zr1 ctx_nil) (by kernel_rfl) (fun d => Zp9 N d.1)
noncomputable def Zhf (N : Nat) : Sig := Sig.of [.v (.slice (.int .i64)) false] [.v (.own (.int .i64)) false] (fun d => Zag N d.1)
noncomputable def Ze1 : Fn := ⟨Tryz.f9, fun | 3 => [.canon [0, 3, 4, 11]] | 4 => [.canon [0, 3, 4]] | 5 => [.canon [0, 3, 4]] | 100003 => [.canon [0, 3, 4]] | _ => [], Zhf, noCtx⟩
def Zmf (a2 : List Int) (i3 : Int) (l4 : List Int) : St := ⟨[(0, vV (.slice (.int .i64)) a2), (3, vO 0), (4, vI i3)], [(0, .arr (.int .i64) l4)], 1⟩
def Zkh (a2 : List Int) (i5 : Int) (t6 : Bool) (l7 : List Int) : St := ⟨[(0, vV (.slice (.int .i64)) a2), (3, vO 0), (4, vI i5), (11, vB t6)], [(0, .arr (.int .i64) l7)], 1⟩
theorem Zmg (N : Nat) {R : Type} (K : Ex → St → Option R) {a2 : List Int} {K0 : Int → Bool → (List Int) → Option R} (h0 : K0 = fun i5 t6 l7 => K (.exit 0) (Zkh a2 i5 t6 l7)) (n : Nat) (i3 : Int) (l4 : List Int) : Zbd N a2 K0 n i3 l4 = LM Ze1 N 0 100003 n (Zmf a2 i3 l4) K := by
  subst h0
  induction n generalizing i3 l4 with
  | zero => kernel_rfl
  | succ n ih => rw [Zbd]; simp (disch := exact id (by kernel_rfl)) only [ih]; kernel_rfl
theorem Zqb : Callable Tryz.prog 9 := callable_of Tryz.func9 (show chkFn Tryz.f9 = true by kernel_rfl)
theorem Zqc (N : Nat) (a1 : List Int) : DN Ze1 N (a1, ()) = Zag N a1 := by
  have h : Zag N a1 = Zag N a1 := rfl
  conv at h => rhs; rw [Zag]
  simp (disch := exact id (by kernel_rfl)) only [Zmg (R := Unit × ((List Int) × Unit)) N (CF Ze1 N [1, 1, 0, 1, 0])] at h
  exact Eq.trans (by kernel_rfl) h.symm
theorem Zqd (N : Nat) : Good Tryz.prog 9 (Zhf N) := GF Ze1 N Tryz.func9 ctx_nil (by kernel_rfl) (fun d => Zqc N d.1)
noncomputable def Zh2 (N : Nat) : Sig := Sig.of [.v (.prod (.int .i64) (.int .i64)) true] [.v (.prod (.int .i64) (.int .i64)) true] (fun d => Zg4 N d.1)
noncomputable def Zr3 : Fn := ⟨Tryz.f43, noAnn, Zh2, noCtx⟩
theorem Zr4 : Callable Tryz.prog 43 := callable_of Tryz.func43 (show chkFn Tryz.f43 = true by kernel_rfl)
theorem Zr5 (N : Nat) : Good Tryz.prog 43 (Zh2 N) := GF Zr3 N Tryz.func43 ctx_nil (by kernel_rfl) (fun d => by kernel_rfl)
noncomputable def Zhg (N : Nat) : Sig := Sig.of [.v (.slice (.prod (.int .i64) (.int .i64))) false] [.v (.own (.prod (.int .i64) (.int .i64))) false] (fun d => Zbb N d.1)
noncomputable def Ze2 : Fn := ⟨Tryz.f20, fun | 3 => [.canon [0, 3, 4, 11]] | 4 => [.canon [0, 3, 4]] | 5 => [.canon [0, 3, 4]] | 100003 => [.canon [0, 3, 4]] | _ => [], Zhg, fun N => [(43, Zh2 N)]⟩
def Zmh (a2 : List (Int × Int)) (i3 : Int) (l4 : List (Int × Int)) : St := ⟨[(0, vV (.slice (.prod (.int .i64) (.int .i64))) a2), (3, vO 0), (4, vI i3)], [(0, .arr (.prod (.int .i64) (.int .i64)) l4)], 1⟩
def Zki (a2 : List (Int × Int)) (i6 : Int) (t7 : Bool) (l8 : List (Int × Int)) : St := ⟨[(0, vV (.slice (.prod (.int .i64) (.int .i64))) a2), (3, vO 0), (4, vI i6), (11, vB t7)], [(0, .arr (.prod (.int .i64) (.int .i64)) l8)], 1⟩
theorem Zmi (N : Nat) {R : Type} (K : Ex → St → Option R) {a2 : List (Int × Int)} {K0 : Int → Bool → (List (Int × Int)) → Option R} (h0 : K0 = fun i6 t7 l8 => K (.exit 0) (Zki a2 i6 t7 l8)) (n : Nat) (i3 : Int) (l4 : List (Int × Int)) : Zbf N a2 K0 n i3 l4 = LM Ze2 N 0 100003 n (Zmh a2 i3 l4) K := by
  subst h0
  induction n generalizing i3 l4 with
  | zero => kernel_rfl
  | succ n ih => rw [Zbf]; simp (disch := exact id (by kernel_rfl)) only [ih]; kernel_rfl
theorem Zqe : Callable Tryz.prog 20 := callable_of Tryz.func20 (show chkFn Tryz.f20 = true by kernel_rfl)
theorem Zqf (N : Nat) (a1 : List (Int × Int)) : DN Ze2 N (a1, ()) = Zbb N a1 := by
  have h : Zbb N a1 = Zbb N a1 := rfl
  conv at h => rhs; rw [Zbb]
  simp (disch := exact id (by kernel_rfl)) only [Zmi (R := Unit × ((List (Int × Int)) × Unit)) N (CF Ze2 N [1, 1, 0, 1, 0])] at h
  exact Eq.trans (by kernel_rfl) h.symm
theorem Zqg (N : Nat) : Good Tryz.prog 20 (Zhg N) := GF Ze2 N Tryz.func20 (ctx_cons (Zr5 N) Zr4 ctx_nil) (by kernel_rfl) (fun d => Zqf N d.1)
noncomputable def Zdy (N : Nat) : Sig := Sig.of [.v (.int .i64) false, .v (.int .i64) false, .v (.int .i64) false] [.v (.bool) false] (fun d => Zd N d.1 d.2.1 d.2.2.1)
noncomputable def Zs3 : Fn := ⟨Tryz.f109, noAnn, Zdy, noCtx⟩
theorem Zgm : Callable Tryz.prog 109 := callable_of Tryz.func109 (show chkFn Tryz.f109 = true by kernel_rfl)
theorem Zgn (N : Nat) : Good Tryz.prog 109 (Zdy N) := GF Zs3 N Tryz.func109 ctx_nil (by kernel_rfl) (fun d => by kernel_rfl)
noncomputable def Zds (N : Nat) : Sig := Sig.of [.v (.int .i64) false] [.v (.bool) false] (fun d => Zdf N d.1)
noncomputable def Zr6 : Fn := ⟨Tryz.f72, noAnn, Zds, fun N => [(109, Zdy N)]⟩
theorem Zf0 : Callable Tryz.prog 72 := callable_of Tryz.func72 (show chkFn Tryz.f72 = true by kernel_rfl)
theorem Zf1 (N : Nat) : Good Tryz.prog 72 (Zds N) := GF Zr6 N Tryz.func72 (ctx_cons (Zgn N) Zgm ctx_nil) (by kernel_rfl) (fun d => by kernel_rfl)
noncomputable def Zdk (N : Nat) : Sig := Sig.of [.v (.slice (.int .i64)) false] [.v (.bool) false] (fun d => Zar N d.1)
noncomputable def Ze3 : Fn := ⟨Tryz.f54, fun | 4 => [.canon [0, 3, 10]] | 5 => [.canon [0, 3]] | 6 => [.canon [0, 3, 18]] | 7 => [.canon [2]] | 100004 => [.canon [0, 3]] | _ => [], Zdk, fun N => [(72, Zds N)]⟩
def Zmj (l2 : List Int) (i3 : Int) : St := ⟨[(0, vV (.slice (.int .i64)) l2), (3, vI i3)], [], 0⟩
def Zkj (l2 : List Int) : St := ⟨[(2, vB false)], [], 0⟩
def Zkk (l2 : List Int) (i5 : Int) (t6 : Bool) : St := ⟨[(0, vV (.slice (.int .i64)) l2), (3, vI i5), (10, vB t6)], [], 0⟩
theorem Zmk (N : Nat) {R : Type} (K : Ex → St → Option R) {l2 : List Int} {K0 : Option R} {K1 : Int → Bool → Option R} (h0 : K0 = K .ret (Zkj l2)) (h1 : K1 = fun i5 t6 => K (.exit 0) (Zkk l2 i5 t6)) (n : Nat) (i3 : Int) : Zbm N l2 K0 K1 n i3 = LM Ze3 N 0 100004 n (Zmj l2 i3) K := by
  subst h0 h1
  induction n generalizing i3 with
  | zero => kernel_rfl
  | succ n ih => rw [Zbm]; simp (disch := exact id (by kernel_rfl)) only [ih]; kernel_rfl
theorem Ze4 : Callable Tryz.prog 54 := callable_of Tryz.func54 (show chkFn Tryz.f54 = true by kernel_rfl)
theorem Zqh (N : Nat) (l1 : List Int) : DN Ze3 N (l1, ()) = Zar N l1 := by
  have h : Zar N l1 = Zar N l1 := rfl
  conv at h => rhs; rw [Zar]
  simp (disch := exact id (by kernel_rfl)) only [Zmk (R := Unit × (Bool × Unit)) N (CF Ze3 N [1, 1, 0, 1, 0])] at h
  exact Eq.trans (by kernel_rfl) h.symm
theorem Ze5 (N : Nat) : Good Tryz.prog 54 (Zdk N) := GF Ze3 N Tryz.func54 (ctx_cons (Zf1 N) Zf0 ctx_nil) (by kernel_rfl) (fun d => Zqh N d.1)
noncomputable def Zdl (N : Nat) : Sig := Sig.of [.v (.slice (.int .i64)) false] [.v (.bool) false] (fun d => Zah N d.1)
noncomputable def Ze6 : Fn := ⟨Tryz.f52, fun | 4 => [.canon [0, 3, 10]] | 5 => [.canon [0, 3]] | 6 => [.canon [0, 3, 18]] | 7 => [.canon [2]] | 100004 => [.canon [0, 3]] | _ => [], Zdl, fun N => [(72, Zds N)]⟩
def Zml (l2 : List Int) (i3 : Int) : St := ⟨[(0, vV (.slice (.int .i64)) l2), (3, vI i3)], [], 0⟩
def Zkl (l2 : List Int) : St := ⟨[(2, vB false)], [], 0⟩
def Zkm (l2 : List Int) (i5 : Int) (t6 : Bool) : St := ⟨[(0, vV (.slice (.int .i64)) l2), (3, vI i5), (10, vB t6)], [], 0⟩
theorem Zmm (N : Nat) {R : Type} (K : Ex → St → Option R) {l2 : List Int} {K0 : Option R} {K1 : Int → Bool → Option R} (h0 : K0 = K .ret (Zkl l2)) (h1 : K1 = fun i5 t6 => K (.exit 0) (Zkm l2 i5 t6)) (n : Nat) (i3 : Int) : Zbg N l2 K0 K1 n i3 = LM Ze6 N 0 100004 n (Zml l2 i3) K := by
  subst h0 h1
  induction n generalizing i3 with
  | zero => kernel_rfl
  | succ n ih => rw [Zbg]; simp (disch := exact id (by kernel_rfl)) only [ih]; kernel_rfl
theorem Ze7 : Callable Tryz.prog 52 := callable_of Tryz.func52 (show chkFn Tryz.f52 = true by kernel_rfl)
theorem Zqi (N : Nat) (l1 : List Int) : DN Ze6 N (l1, ()) = Zah N l1 := by
  have h : Zah N l1 = Zah N l1 := rfl
  conv at h => rhs; rw [Zah]
  simp (disch := exact id (by kernel_rfl)) only [Zmm (R := Unit × (Bool × Unit)) N (CF Ze6 N [1, 1, 0, 1, 0])] at h
  exact Eq.trans (by kernel_rfl) h.symm
theorem Ze8 (N : Nat) : Good Tryz.prog 52 (Zdl N) := GF Ze6 N Tryz.func52 (ctx_cons (Zf1 N) Zf0 ctx_nil) (by kernel_rfl) (fun d => Zqi N d.1)
noncomputable def Zh3 (N : Nat) : Sig := Sig.of [.v (.int .i64) false] [.v (.bool) false] (fun d => Za N d.1)
noncomputable def Zr7 : Fn := ⟨Tryz.f115, noAnn, Zh3, fun N => [(109, Zdy N)]⟩
theorem Zr8 : Callable Tryz.prog 115 := callable_of Tryz.func115 (show chkFn Tryz.f115 = true by kernel_rfl)
theorem Zr9 (N : Nat) : Good Tryz.prog 115 (Zh3 N) := GF Zr7 N Tryz.func115 (ctx_cons (Zgn N) Zgm ctx_nil) (by kernel_rfl) (fun d => by kernel_rfl)
noncomputable def Ze9 (N : Nat) : Sig := Sig.of [.v (.int .i64) false] [.v (.bool) false] (fun d => Zap N d.1)
noncomputable def Zqj : Fn := ⟨Tryz.f71, noAnn, Ze9, fun N => [(109, Zdy N)]⟩
theorem Zjb : Callable Tryz.prog 71 := callable_of Tryz.func71 (show chkFn Tryz.f71 = true by kernel_rfl)
theorem Zjc (N : Nat) : Good Tryz.prog 71 (Ze9 N) := GF Zqj N Tryz.func71 (ctx_cons (Zgn N) Zgm ctx_nil) (by kernel_rfl) (fun d => by kernel_rfl)
noncomputable def Zes (N : Nat) : Sig := Sig.of [.v (.prod (.int .i64) (.prod (.int .i64) (.prod (.int .i64) (.int .i64)))) true] [.v (.bool) false] (fun d => Zk N d.1)
noncomputable def Zs4 : Fn := ⟨Tryz.f84, noAnn, Zes, fun N => [(115, Zh3 N), (72, Zds N), (71, Ze9 N), (109, Zdy N)]⟩
theorem Zin : Callable Tryz.prog 84 := callable_of Tryz.func84 (show chkFn Tryz.f84 = true by kernel_rfl)
theorem Zio (N : Nat) : Good Tryz.prog 84 (Zes N) := GF Zs4 N Tryz.func84 (ctx_cons (Zr9 N) Zr8 (ctx_cons (Zf1 N) Zf0 (ctx_cons (Zjc N) Zjb (ctx_cons (Zgn N) Zgm ctx_nil)))) (by kernel_rfl) (fun d => by kernel_rfl)
noncomputable def Zhh (N : Nat) : Sig := Sig.of [.v (.slice (.prod (.int .i64) (.prod (.int .i64) (.prod (.int .i64) (.int .i64))))) false, .v (.int .i64) false] [.v (.bool) false] (fun d => Zcz N d.1 d.2.1)
noncomputable def Zfa : Fn := ⟨Tryz.f114, fun | 6 => [.canon [0, 5, 6, 7, 24]] | 7 => [.canon [0, 5, 6, 7]] | 8 => [.canon [0, 5, 6, 7, 32]] | 9 => [.canon [0, 5, 6, 7]] | 10 => [.canon [0, 5, 6, 7, 40]] | 11 => [.canon [0, 5, 6, 7]] | 12 => [.canon [0, 5, 6, 7, 44]] | 13 => [.canon [4]] | 100006 => [.canon [0, 5, 6, 7]] | _ => [], Zhh, noCtx⟩
def Zmn (code3 : List (Int × Int × Int × Int)) (to4 : Int) (d5 : Int) (k6 : Int) : St := ⟨[(0, vV (.slice (.prod (.int .i64) (.prod (.int .i64) (.prod (.int .i64) (.int .i64))))) code3), (5, vI to4), (6, vI d5), (7, vI k6)], [], 0⟩
def Zkn (code3 : List (Int × Int × Int × Int)) (to4 : Int) : St := ⟨[(4, vB false)], [], 0⟩
def Zko (code3 : List (Int × Int × Int × Int)) (to4 : Int) (d7 : Int) (k8 : Int) (t9 : Bool) : St := ⟨[(0, vV (.slice (.prod (.int .i64) (.prod (.int .i64) (.prod (.int .i64) (.int .i64))))) code3), (5, vI to4), (6, vI d7), (7, vI k8), (24, vB t9)], [], 0⟩
theorem Zmo (N : Nat) {R : Type} (K : Ex → St → Option R) {code3 : List (Int × Int × Int × Int)} {to4 : Int} {K0 : Option R} {K1 : Int → Int → Bool → Option R} (h0 : K0 = K .ret (Zkn code3 to4)) (h1 : K1 = fun d7 k8 t9 => K (.exit 0) (Zko code3 to4 d7 k8 t9)) (n : Nat) (d5 : Int) (k6 : Int) : Z7 N code3 to4 K0 K1 n d5 k6 = LM Zfa N 0 100006 n (Zmn code3 to4 d5 k6) K := by
  subst h0 h1
  induction n generalizing d5 k6 with
  | zero => kernel_rfl
  | succ n ih => rw [Z7]; simp (disch := exact id (by kernel_rfl)) only [ih]; kernel_rfl
theorem Zqk : Callable Tryz.prog 114 := callable_of Tryz.func114 (show chkFn Tryz.f114 = true by kernel_rfl)
theorem Zql (N : Nat) (code1 : List (Int × Int × Int × Int)) (i2 : Int) : DN Zfa N (code1, i2, ()) = Zcz N code1 i2 := by
  have h : Zcz N code1 i2 = Zcz N code1 i2 := rfl
  conv at h => rhs; rw [Zcz]
  simp (disch := exact id (by kernel_rfl)) only [Zmo (R := Unit × (Bool × Unit)) N (CF Zfa N [1, 1, 1, 1, 0, 1, 0])] at h
  exact Eq.trans (by kernel_rfl) h.symm
theorem Zqm (N : Nat) : Good Tryz.prog 114 (Zhh N) := GF Zfa N Tryz.func114 ctx_nil (by kernel_rfl) (fun d => Zql N d.1 d.2.1)
noncomputable def Zhi (N : Nat) : Sig := Sig.of [.v (.slice (.prod (.int .i64) (.prod (.int .i64) (.prod (.int .i64) (.int .i64))))) false] [.v (.bool) false] (fun d => Zc0 N d.1)
noncomputable def Zfb : Fn := ⟨Tryz.f80, fun | 6 => [.canon [0, 3, 4, 5, 12]] | 7 => [.canon [0, 3, 4, 5]] | 8 => [.canon [0, 3, 4, 5, 20]] | 9 => [.canon [2]] | 10 => [.canon [0, 3, 4, 5, 25]] | 11 => [.canon [0, 3, 4, 5, 25, 26]] | 12 => [.canon [0, 3, 4, 5]] | 13 => [.canon [0, 3, 4, 5, 25, 30]] | 14 => [.canon [0, 3, 4, 5]] | 15 => [.canon [0, 3, 4, 5, 25, 34]] | 16 => [.canon [0, 3, 4, 5, 39]] | 17 => [.canon [2]] | 18 => [.canon [0, 3, 4, 5, 40]] | 19 => [.canon [0, 3, 4, 5]] | 20 => [.canon [0, 3, 4, 5, 49]] | 21 => [.canon [2]] | 22 => [.canon [0, 3, 4, 5, 51]] | 23 => [.canon [2]] | 100006 => [.canon [0, 3, 4, 5]] | _ => [], Zhi, fun N => [(84, Zes N), (114, Zhh N)]⟩
def Zmp (code2 : List (Int × Int × Int × Int)) (d3 : Int) (forks4 : Int) (i5 : Int) : St := ⟨[(0, vV (.slice (.prod (.int .i64) (.prod (.int .i64) (.prod (.int .i64) (.int .i64))))) code2), (3, vI d3), (4, vI forks4), (5, vI i5)], [], 0⟩
def Zkp (code2 : List (Int × Int × Int × Int)) : St := ⟨[(2, vB false)], [], 0⟩
def Zkq (code2 : List (Int × Int × Int × Int)) (d8 : Int) (forks9 : Int) (i10 : Int) (t11 : Bool) : St := ⟨[(0, vV (.slice (.prod (.int .i64) (.prod (.int .i64) (.prod (.int .i64) (.int .i64))))) code2), (3, vI d8), (4, vI forks9), (5, vI i10), (12, vB t11)], [], 0⟩
theorem Zmq (N : Nat) {R : Type} (K : Ex → St → Option R) {code2 : List (Int × Int × Int × Int)} {K0 : Option R} {K1 : Int → Int → Int → Bool → Option R} (h0 : K0 = K .ret (Zkp code2)) (h1 : K1 = fun d8 forks9 i10 t11 => K (.exit 0) (Zkq code2 d8 forks9 i10 t11)) (n : Nat) (d3 : Int) (forks4 : Int) (i5 : Int) : Z8 N code2 K0 K1 n d3 forks4 i5 = LM Zfb N 0 100006 n (Zmp code2 d3 forks4 i5) K := by
  subst h0 h1
  induction n generalizing d3 forks4 i5 with
  | zero => kernel_rfl
  | succ n ih => rw [Z8]; simp (disch := exact id (by kernel_rfl)) only [ih]; kernel_rfl
theorem Zqn : Callable Tryz.prog 80 := callable_of Tryz.func80 (show chkFn Tryz.f80 = true by kernel_rfl)
theorem Zqo (N : Nat) (code1 : List (Int × Int × Int × Int)) : DN Zfb N (code1, ()) = Zc0 N code1 := by
  have h : Zc0 N code1 = Zc0 N code1 := rfl
  conv at h => rhs; rw [Zc0]
  simp (disch := exact id (by kernel_rfl)) only [Zmq (R := Unit × (Bool × Unit)) N (CF Zfb N [1, 1, 1, 1, 0, 1, 0])] at h
  exact Eq.trans (by kernel_rfl) h.symm
theorem Zqp (N : Nat) : Good Tryz.prog 80 (Zhi N) := GF Zfb N Tryz.func80 (ctx_cons (Zio N) Zin (ctx_cons (Zqm N) Zqk ctx_nil)) (by kernel_rfl) (fun d => Zqo N d.1)
noncomputable def Zgq (N : Nat) : Sig := Sig.of [.v (.slice (.prod (.int .i64) (.prod (.int .i64) (.prod (.int .i64) (.int .i64))))) false] [.v (.bool) false] (fun d => Zb9 N d.1)
noncomputable def Zei : Fn := ⟨Tryz.f81, fun | 2 => [.canon [0, 3, 7]] | 3 => [.canon [0, 3]] | 4 => [.canon [0, 3, 15]] | 5 => [.canon [2]] | 100002 => [.canon [0, 3]] | _ => [], Zgq, noCtx⟩
def Zkr (code2 : List (Int × Int × Int × Int)) (i3 : Int) : St := ⟨[(0, vV (.slice (.prod (.int .i64) (.prod (.int .i64) (.prod (.int .i64) (.int .i64))))) code2), (3, vI i3)], [], 0⟩
def Zj0 (code2 : List (Int × Int × Int × Int)) : St := ⟨[(2, vB true)], [], 0⟩
def Zj1 (code2 : List (Int × Int × Int × Int)) (i4 : Int) (t5 : Bool) : St := ⟨[(0, vV (.slice (.prod (.int .i64) (.prod (.int .i64) (.prod (.int .i64) (.int .i64))))) code2), (3, vI i4), (7, vB t5)], [], 0⟩
theorem Zks (N : Nat) {R : Type} (K : Ex → St → Option R) {code2 : List (Int × Int × Int × Int)} {K0 : Option R} {K1 : Int → Bool → Option R} (h0 : K0 = K .ret (Zj0 code2)) (h1 : K1 = fun i4 t5 => K (.exit 0) (Zj1 code2 i4 t5)) (n : Nat) (i3 : Int) : Za6 N code2 K0 K1 n i3 = LM Zei N 0 100002 n (Zkr code2 i3) K := by
  subst h0 h1
  induction n generalizing i3 with
  | zero => kernel_rfl
  | succ n ih => rw [Za6]; simp (disch := exact id (by kernel_rfl)) only [ih]; kernel_rfl
theorem Zpc : Callable Tryz.prog 81 := callable_of Tryz.func81 (show chkFn Tryz.f81 = true by kernel_rfl)
theorem Zpd (N : Nat) (code1 : List (Int × Int × Int × Int)) : DN Zei N (code1, ()) = Zb9 N code1 := by
  have h : Zb9 N code1 = Zb9 N code1 := rfl
  conv at h => rhs; rw [Zb9]
  simp (disch := exact id (by kernel_rfl)) only [Zks (R := Unit × (Bool × Unit)) N (CF Zei N [1, 0, 1, 0])] at h
  exact Eq.trans (by kernel_rfl) h.symm
theorem Zpe (N : Nat) : Good Tryz.prog 81 (Zgq N) := GF Zei N Tryz.func81 ctx_nil (by kernel_rfl) (fun d => Zpd N d.1)
noncomputable def Zgr (N : Nat) : Sig := Sig.of [.v (.prod (.int .i64) (.prod (.int .i64) (.prod (.int .i64) (.int .i64)))) true] [.v (.int .i64) false] (fun d => Za1 N d.1)
noncomputable def Zpf : Fn := ⟨Tryz.f82, noAnn, Zgr, fun N => [(84, Zes N)]⟩
theorem Zpg : Callable Tryz.prog 82 := callable_of Tryz.func82 (show chkFn Tryz.f82 = true by kernel_rfl)
theorem Zph (N : Nat) : Good Tryz.prog 82 (Zgr N) := GF Zpf N Tryz.func82 (ctx_cons (Zio N) Zin ctx_nil) (by kernel_rfl) (fun d => by kernel_rfl)
noncomputable def Zed (N : Nat) : Sig := Sig.of [.v (.slice (.prod (.int .i64) (.prod (.int .i64) (.prod (.int .i64) (.int .i64))))) false] [.v (.bool) false] (fun d => Za7 N d.1)
noncomputable def Zf2 : Fn := ⟨Tryz.f55, fun | 4 => [.canon [0, 3, 14]] | 5 => [.canon [0, 3]] | 6 => [.canon [0, 3, 22]] | 7 => [.canon [2]] | 100004 => [.canon [0, 3]] | _ => [], Zed, fun N => [(80, Zhi N), (81, Zgq N), (82, Zgr N)]⟩
def Zn9 (code4 : List (Int × Int × Int × Int)) (i5 : Int) : St := ⟨[(0, vV (.slice (.prod (.int .i64) (.prod (.int .i64) (.prod (.int .i64) (.int .i64))))) code4), (3, vI i5)], [], 0⟩
def Zmr (code4 : List (Int × Int × Int × Int)) : St := ⟨[(2, vB false)], [], 0⟩
def Zms (code4 : List (Int × Int × Int × Int)) (i7 : Int) (t8 : Bool) : St := ⟨[(0, vV (.slice (.prod (.int .i64) (.prod (.int .i64) (.prod (.int .i64) (.int .i64))))) code4), (3, vI i7), (14, vB t8)], [], 0⟩
theorem Zoa (N : Nat) {R : Type} (K : Ex → St → Option R) {code4 : List (Int × Int × Int × Int)} {K0 : Option R} {K1 : Int → Bool → Option R} (h0 : K0 = K .ret (Zmr code4)) (h1 : K1 = fun i7 t8 => K (.exit 0) (Zms code4 i7 t8)) (n : Nat) (i5 : Int) : Zb3 N code4 K0 K1 n i5 = LM Zf2 N 0 100004 n (Zn9 code4 i5) K := by
  subst h0 h1
  induction n generalizing i5 with
  | zero => kernel_rfl
  | succ n ih => rw [Zb3]; simp (disch := exact id (by kernel_rfl)) only [ih]; kernel_rfl
theorem Zh4 : Callable Tryz.prog 55 := callable_of Tryz.func55 (show chkFn Tryz.f55 = true by kernel_rfl)
theorem Zsa (N : Nat) (code1 : List (Int × Int × Int × Int)) : DN Zf2 N (code1, ()) = Za7 N code1 := by
  have h : Za7 N code1 = Za7 N code1 := rfl
  conv at h => rhs; rw [Za7]
  simp (disch := exact id (by kernel_rfl)) only [Zoa (R := Unit × (Bool × Unit)) N (CF Zf2 N [1, 1, 0, 1, 0])] at h
  exact Eq.trans (by kernel_rfl) h.symm
theorem Zh5 (N : Nat) : Good Tryz.prog 55 (Zed N) := GF Zf2 N Tryz.func55 (ctx_cons (Zqp N) Zqn (ctx_cons (Zpe N) Zpc (ctx_cons (Zph N) Zpg ctx_nil))) (by kernel_rfl) (fun d => Zsa N d.1)
noncomputable def Zfc (N : Nat) : Sig := Sig.of [.v (.slice (.slice (.prod (.int .i64) (.prod (.int .i64) (.prod (.int .i64) (.int .i64)))))) false, .v (.slice (.int .i64)) false, .v (.slice (.int .i64)) false] [.v (.bool) false] (fun d => Zb0 N d.1 d.2.1 d.2.2.1)
noncomputable def Zfd : Fn := ⟨Tryz.f28, fun | 4 => [.canon [0, 7, 24]] | 5 => [.canon [0, 7]] | 6 => [.canon [0, 7, 33]] | 7 => [.canon [6]] | 100004 => [.canon [0, 7]] | _ => [], Zfc, fun N => [(54, Zdk N), (52, Zdl N), (55, Zed N)]⟩
def Zmt (l6 : List (List (Int × Int × Int × Int))) (i7 : Int) : St := ⟨[(0, vV (.slice (.slice (.prod (.int .i64) (.prod (.int .i64) (.prod (.int .i64) (.int .i64)))))) l6), (7, vI i7)], [], 0⟩
def Zkt (l6 : List (List (Int × Int × Int × Int))) : St := ⟨[(6, vB false)], [], 0⟩
def Zku (l6 : List (List (Int × Int × Int × Int))) (i9 : Int) (t10 : Bool) : St := ⟨[(0, vV (.slice (.slice (.prod (.int .i64) (.prod (.int .i64) (.prod (.int .i64) (.int .i64)))))) l6), (7, vI i9), (24, vB t10)], [], 0⟩
theorem Zmu (N : Nat) {R : Type} (K : Ex → St → Option R) {l6 : List (List (Int × Int × Int × Int))} {K0 : Option R} {K1 : Int → Bool → Option R} (h0 : K0 = K .ret (Zkt l6)) (h1 : K1 = fun i9 t10 => K (.exit 0) (Zku l6 i9 t10)) (n : Nat) (i7 : Int) : Zbn N l6 K0 K1 n i7 = LM Zfd N 0 100004 n (Zmt l6 i7) K := by
  subst h0 h1
  induction n generalizing i7 with
  | zero => kernel_rfl
  | succ n ih => rw [Zbn]; simp (disch := exact id (by kernel_rfl)) only [ih]; kernel_rfl
theorem Zjd : Callable Tryz.prog 28 := callable_of Tryz.func28 (show chkFn Tryz.f28 = true by kernel_rfl)
theorem Zqq (N : Nat) (l1 : List (List (Int × Int × Int × Int))) (regs2 : List Int) (cells3 : List Int) : DN Zfd N (l1, regs2, cells3, ()) = Zb0 N l1 regs2 cells3 := by
  have h : Zb0 N l1 regs2 cells3 = Zb0 N l1 regs2 cells3 := rfl
  conv at h => rhs; rw [Zb0]
  simp (disch := exact id (by kernel_rfl)) only [Zmu (R := Unit × (Bool × Unit)) N (CF Zfd N [1, 1, 0, 1, 0])] at h
  exact Eq.trans (by kernel_rfl) h.symm
theorem Zje (N : Nat) : Good Tryz.prog 28 (Zfc N) := GF Zfd N Tryz.func28 (ctx_cons (Ze5 N) Ze4 (ctx_cons (Ze8 N) Ze7 (ctx_cons (Zh5 N) Zh4 ctx_nil))) (by kernel_rfl) (fun d => Zqq N d.1 d.2.1 d.2.2.1)
noncomputable def Zfe (N : Nat) : Sig := Sig.of [.v (.slice (.prod (.int .i64) (.int .i64))) false] [.v (.bool) false] (fun d => Zay N d.1)
noncomputable def Zff : Fn := ⟨Tryz.f42, fun | 4 => [.canon [0, 3, 10]] | 5 => [.canon [0, 3]] | 6 => [.canon [0, 3, 28]] | 7 => [.canon [2]] | 100004 => [.canon [0, 3]] | _ => [], Zfe, fun N => [(71, Ze9 N), (72, Zds N)]⟩
def Zmv (l2 : List (Int × Int)) (i3 : Int) : St := ⟨[(0, vV (.slice (.prod (.int .i64) (.int .i64))) l2), (3, vI i3)], [], 0⟩
def Zkv (l2 : List (Int × Int)) : St := ⟨[(2, vB false)], [], 0⟩
def Zkw (l2 : List (Int × Int)) (i6 : Int) (t7 : Bool) : St := ⟨[(0, vV (.slice (.prod (.int .i64) (.int .i64))) l2), (3, vI i6), (10, vB t7)], [], 0⟩
theorem Zmw (N : Nat) {R : Type} (K : Ex → St → Option R) {l2 : List (Int × Int)} {K0 : Option R} {K1 : Int → Bool → Option R} (h0 : K0 = K .ret (Zkv l2)) (h1 : K1 = fun i6 t7 => K (.exit 0) (Zkw l2 i6 t7)) (n : Nat) (i3 : Int) : Zbh N l2 K0 K1 n i3 = LM Zff N 0 100004 n (Zmv l2 i3) K := by
  subst h0 h1
  induction n generalizing i3 with
  | zero => kernel_rfl
  | succ n ih => rw [Zbh]; simp (disch := exact id (by kernel_rfl)) only [ih]; kernel_rfl
theorem Zjf : Callable Tryz.prog 42 := callable_of Tryz.func42 (show chkFn Tryz.f42 = true by kernel_rfl)
theorem Zqr (N : Nat) (l1 : List (Int × Int)) : DN Zff N (l1, ()) = Zay N l1 := by
  have h : Zay N l1 = Zay N l1 := rfl
  conv at h => rhs; rw [Zay]
  simp (disch := exact id (by kernel_rfl)) only [Zmw (R := Unit × (Bool × Unit)) N (CF Zff N [1, 1, 0, 1, 0])] at h
  exact Eq.trans (by kernel_rfl) h.symm
theorem Zjg (N : Nat) : Good Tryz.prog 42 (Zfe N) := GF Zff N Tryz.func42 (ctx_cons (Zjc N) Zjb (ctx_cons (Zf1 N) Zf0 ctx_nil)) (by kernel_rfl) (fun d => Zqr N d.1)
noncomputable def Zgs (N : Nat) : Sig := Sig.of [.v (.slice (.int .i64)) false, .v (.slice (.prod (.int .i64) (.int .i64))) false] [.v (.own (.int .i64)) false] (fun d => Zcc N d.1 d.2.1)
noncomputable def Zej : Fn := ⟨Tryz.f25, fun | 5 => [.canon [1, 5, 6, 22]] | 6 => [.canon [1, 5, 6]] | 7 => [.canon [1, 5, 6]] | 100005 => [.canon [1, 5, 6]] | _ => [], Zgs, fun N => [(52, Zdl N), (42, Zfe N)]⟩
def Zkx (l5 : List (Int × Int)) (i6 : Int) (l7 : List Int) : St := ⟨[(1, vV (.slice (.prod (.int .i64) (.int .i64))) l5), (5, vO 0), (6, vI i6)], [(0, .arr (.int .i64) l7)], 1⟩
def Zj2 (l5 : List (Int × Int)) (i8 : Int) (t9 : Bool) (l10 : List Int) : St := ⟨[(1, vV (.slice (.prod (.int .i64) (.int .i64))) l5), (5, vO 0), (6, vI i8), (22, vB t9)], [(0, .arr (.int .i64) l10)], 1⟩
theorem Zky (N : Nat) {R : Type} (K : Ex → St → Option R) {l5 : List (Int × Int)} {K0 : Int → Bool → (List Int) → Option R} (h0 : K0 = fun i8 t9 l10 => K (.exit 0) (Zj2 l5 i8 t9 l10)) (n : Nat) (i6 : Int) (l7 : List Int) : Za9 N l5 K0 n i6 l7 = LM Zej N 0 100005 n (Zkx l5 i6 l7) K := by
  subst h0
  induction n generalizing i6 l7 with
  | zero => kernel_rfl
  | succ n ih => rw [Za9]; simp (disch := exact id (by kernel_rfl)) only [ih]; kernel_rfl
theorem Zpi : Callable Tryz.prog 25 := callable_of Tryz.func25 (show chkFn Tryz.f25 = true by kernel_rfl)
theorem Zpj (N : Nat) (cells1 : List Int) (l2 : List (Int × Int)) : DN Zej N (cells1, l2, ()) = Zcc N cells1 l2 := by
  have h : Zcc N cells1 l2 = Zcc N cells1 l2 := rfl
  conv at h => rhs; rw [Zcc]
  simp (disch := exact id (by kernel_rfl)) only [Zky (R := Unit × ((List Int) × Unit)) N (CF Zej N [1, 1, 1, 0, 1, 0])] at h
  exact Eq.trans (by kernel_rfl) h.symm
theorem Zpk (N : Nat) : Good Tryz.prog 25 (Zgs N) := GF Zej N Tryz.func25 (ctx_cons (Ze8 N) Ze7 (ctx_cons (Zjg N) Zjf ctx_nil)) (by kernel_rfl) (fun d => Zpj N d.1 d.2.1)
noncomputable def Zhj (N : Nat) : Sig := Sig.of [.v (.prod (.slice (.int .i64)) (.prod (.slice (.int .i64)) (.int .i64))) true] [.v (.prod (.own (.int .i64)) (.prod (.own (.int .i64)) (.int .i64))) true] (fun d => Zdp N d.1)
noncomputable def Zqs : Fn := ⟨Tryz.f83, noAnn, Zhj, noCtx⟩
theorem Zqt : Callable Tryz.prog 83 := callable_of Tryz.func83 (show chkFn Tryz.f83 = true by kernel_rfl)
theorem Zqu (N : Nat) : Good Tryz.prog 83 (Zhj N) := GF Zqs N Tryz.func83 ctx_nil (by kernel_rfl) (fun d => by kernel_rfl)
noncomputable def Zf3 (N : Nat) : Sig := Sig.of [.v (.slice (.prod (.int .i64) (.prod (.int .i64) (.prod (.int .i64) (.int .i64))))) false, .v (.int .i64) false] [.v (.int .i64) false] (fun d => Zba N d.1 d.2.1)
noncomputable def Zf4 : Fn := ⟨Tryz.f58, fun | 5 => [.canon [0, 5, 6, 27]] | 6 => [.canon [0, 5, 6]] | 7 => [.canon [0, 5, 6, 35]] | 8 => [.canon [0, 5, 6]] | 9 => [.canon [0, 5, 6, 43]] | 10 => [.canon [0, 5, 6]] | 11 => [.canon [0, 5, 6, 47]] | 12 => [.canon [4]] | 100005 => [.canon [0, 5, 6]] | _ => [], Zf3, noCtx⟩
def Zob (code3 : List (Int × Int × Int × Int)) (d4 : Int) (k5 : Int) : St := ⟨[(0, vV (.slice (.prod (.int .i64) (.prod (.int .i64) (.prod (.int .i64) (.int .i64))))) code3), (5, vI d4), (6, vI k5)], [], 0⟩
def Zmx (code3 : List (Int × Int × Int × Int)) (t6 : Int) : St := ⟨[(4, vI t6)], [], 0⟩
def Zmy (code3 : List (Int × Int × Int × Int)) (d7 : Int) (k8 : Int) (t9 : Bool) : St := ⟨[(0, vV (.slice (.prod (.int .i64) (.prod (.int .i64) (.prod (.int .i64) (.int .i64))))) code3), (5, vI d7), (6, vI k8), (27, vB t9)], [], 0⟩
theorem Zoc (N : Nat) {R : Type} (K : Ex → St → Option R) {code3 : List (Int × Int × Int × Int)} {K0 : Int → Option R} {K1 : Int → Int → Bool → Option R} (h0 : K0 = fun t6 => K .ret (Zmx code3 t6)) (h1 : K1 = fun d7 k8 t9 => K (.exit 0) (Zmy code3 d7 k8 t9)) (n : Nat) (d4 : Int) (k5 : Int) : Zac N code3 K0 K1 n d4 k5 = LM Zf4 N 0 100005 n (Zob code3 d4 k5) K := by
  subst h0 h1
  induction n generalizing d4 k5 with
  | zero => kernel_rfl
  | succ n ih => rw [Zac]; simp (disch := exact id (by kernel_rfl)) only [ih]; kernel_rfl
theorem Zj3 : Callable Tryz.prog 58 := callable_of Tryz.func58 (show chkFn Tryz.f58 = true by kernel_rfl)
theorem Zsb (N : Nat) (code1 : List (Int × Int × Int × Int)) (i2 : Int) : DN Zf4 N (code1, i2, ()) = Zba N code1 i2 := by
  have h : Zba N code1 i2 = Zba N code1 i2 := rfl
  conv at h => rhs; rw [Zba]
  simp (disch := exact id (by kernel_rfl)) only [Zoc (R := Unit × (Int × Unit)) N (CF Zf4 N [1, 1, 1, 0, 1, 0])] at h
  exact Eq.trans (by kernel_rfl) h.symm
theorem Zj4 (N : Nat) : Good Tryz.prog 58 (Zf3 N) := GF Zf4 N Tryz.func58 ctx_nil (by kernel_rfl) (fun d => Zsb N d.1 d.2.1)
noncomputable def Zgo (N : Nat) : Sig := Sig.of [.v (.prod (.int .i64) (.prod (.int .i64) (.prod (.int .i64) (.int .i64)))) true, .v (.slice (.int .i64)) false] [.v (.own (.int .i64)) false, .v (.bool) false] (fun d => Zew N d.1 d.2.1)
noncomputable def Zs5 : Fn := ⟨Tryz.f59, noAnn, Zgo, fun N => [(84, Zes N), (54, Zdk N)]⟩
theorem Zl6 : Callable Tryz.prog 59 := callable_of Tryz.func59 (show chkFn Tryz.f59 = true by kernel_rfl)
theorem Zl7 (N : Nat) : Good Tryz.prog 59 (Zgo N) := GF Zs5 N Tryz.func59 (ctx_cons (Zio N) Zin (ctx_cons (Ze5 N) Ze4 ctx_nil)) (by kernel_rfl) (fun d => by kernel_rfl)
noncomputable def Zek (N m : Nat) : Sig := Sig.of [.v (.slice (.prod (.int .i64) (.prod (.int .i64) (.prod (.int .i64) (.int .i64))))) false, .v (.slice (.slice (.prod (.int .i64) (.prod (.int .i64) (.prod (.int .i64) (.int .i64)))))) false, .v (.slice (.int .i64)) false, .v (.slice (.int .i64)) false, .v (.prod (.slice (.int .i64)) (.prod (.slice (.int .i64)) (.int .i64))) true] [.v (.prod (.int .i64) (.prod (.own (.int .i64)) (.prod (.own (.int .i64)) (.prod (.own (.int .i64)) (.int .i64))))) true] (fun d => Z6 N m d.1 d.2.1 d.2.2.1 d.2.2.2.1 d.2.2.2.2.1)
noncomputable def Zjh (N : Nat) : Sig := Zek N N
noncomputable def Zbu (m : Nat) : Fn := ⟨Tryz.f56, fun | 6 => [.canon [0, 1, 2, 3, 9, 10, 11, 12, 13, 37]] | 7 => [.canon [0, 1, 2, 3, 9, 10, 11, 12, 13, 14]] | 8 => [.canon [0, 1, 2, 3, 9, 10, 11, 12, 13, 14, 15]] | 9 => [.canon [0, 1, 2, 3, 9, 10, 11, 12, 13, 14, 15, 45]] | 10 => [.canon [0, 1, 2, 9, 10, 11, 12, 15, 24]] | 11 => [.canon [0, 1, 2, 3, 9, 10, 11, 12, 15]] | 12 => [.canon [0, 1, 2, 3, 9, 10, 11, 12, 13, 14, 15, 45, 53]] | 13 => [.canon [0, 1, 2, 3, 9, 10, 11, 12, 15]] | 14 => [.canon [0, 1, 2, 3, 9, 10, 11, 12, 13, 14, 15, 45, 65]] | 15 => [.canon [0, 1, 2, 3, 9, 10, 11, 12, 15]] | 16 => [.canon [0, 1, 2, 3, 9, 10, 11, 12, 13, 14, 15, 45, 77]] | 17 => [.canon [0, 1, 2, 3, 9, 10, 11, 12, 14, 15, 84]] | 18 => [.canon [0, 1, 2, 3, 9, 10, 11, 12, 15]] | 19 => [.canon [0, 1, 2, 3, 9, 10, 11, 12, 13, 14, 15, 45, 89]] | 20 => [.canon [0, 1, 2, 3, 9, 10, 11, 12, 15]] | 21 => [.canon [0, 1, 2, 3, 9, 10, 11, 12, 14, 15, 45, 101]] | 22 => [.canon [0, 1, 2, 3, 9, 10, 11, 12, 15, 16]] | 23 => [.canon [0, 1, 2, 3, 9, 10, 11, 12, 15, 16]] | 24 => [.canon [0, 1, 2, 3, 9, 10, 11, 12, 15]] | 25 => [.canon [0, 1, 2, 3, 9, 10, 11, 12, 14, 15, 45, 122]] | 26 => [.canon [0, 1, 2, 3, 9, 10, 11, 12, 126]] | 27 => [.canon [10]] | 28 => [.canon [0, 1, 2, 9, 10, 11, 12, 17]] | 29 => [.canon [0, 1, 2, 9, 10, 11, 12, 17]] | 30 => [.canon [0, 1, 2, 3, 9, 10, 11, 12, 17]] | 31 => [.canon [0, 1, 2, 3, 9, 10, 11, 12, 17]] | 32 => [.canon [0, 1, 2, 3, 9, 10, 11, 12, 17]] | 33 => [.canon [0, 1, 2, 3, 9, 10, 11, 12, 15]] | 34 => [.canon [0, 1, 2, 3, 9, 10, 11, 12, 14, 15, 45, 161]] | 35 => [.canon [0, 1, 2, 3, 9, 10, 11, 12, 15, 18]] | 36 => [.canon [0, 1, 2, 3, 9, 10, 11, 12, 15, 18, 19]] | 37 => [.canon [0, 1, 2, 3, 9, 10, 11, 12, 15, 18, 19, 169]] | 38 => [.canon [0, 1, 2, 3, 9, 10, 11, 12, 15, 18, 19]] | 39 => [.canon [0, 1, 2, 3, 9, 10, 11, 12, 15, 18, 19, 20]] | 40 => [.canon [0, 1, 2, 3, 9, 10, 11, 12, 15, 18, 19, 20]] | 41 => [.canon [0, 1, 2, 3, 9, 10, 11, 12, 15, 18, 19, 20, 187]] | 42 => [.canon [0, 1, 2, 3, 9, 10, 11, 12, 15, 18, 19]] | 43 => [.canon [0, 1, 2, 3, 9, 10, 11, 12, 15, 18, 21]] | 44 => [.canon [0, 1, 2, 3, 9, 10, 11, 12, 15, 18, 21, 201]] | 45 => [.canon [0, 1, 2, 3, 9, 10, 11, 12, 15, 18, 21]] | 46 => [.canon [0, 1, 2, 3, 9, 10, 11, 12, 15, 18, 21]] | 47 => [.canon [0, 1, 2, 3, 9, 10, 11, 12, 14, 15, 45, 211]] | 48 => [.canon [0, 1, 2, 3, 9, 10, 11, 12, 14, 15, 22]] | 49 => [.canon [0, 1, 2, 3, 9, 10, 11, 12, 14, 15, 22]] | 50 => [.canon [0, 1, 2, 3, 9, 10, 11, 12, 15]] | 51 => [.canon [0, 1, 2, 3, 9, 10, 11, 12, 14, 15, 45, 236]] | 52 => [.canon [0, 1, 2, 3, 9, 10, 11, 12, 15]] | 53 => [.canon [0, 1, 2, 3, 9, 10, 11, 12, 14, 15, 45, 249]] | 54 => [.canon [0, 1, 2, 3, 9, 10, 11, 12, 14, 15, 23]] | 55 => [.canon [0, 1, 2, 3, 9, 10, 11, 12, 14, 15, 23]] | 56 => [.canon [0, 1, 2, 3, 9, 10, 11, 12, 15]] | 57 => [.canon [0, 1, 2, 3, 9, 10, 11, 12, 14, 15, 45, 268]] | 58 => [.canon [0, 1, 2, 3, 9, 10, 11, 12, 15]] | 59 => [.canon [0, 1, 2, 3, 9, 10, 11, 12, 14, 15, 280]] | 60 => [.canon [0, 1, 2, 3, 9, 10, 11, 12, 15]] | 61 => [.canon [0, 1, 2, 3, 9, 10, 11, 12, 13]] | 100006 => [.canon [0, 1, 2, 3, 9, 10, 11, 12, 13]] | 100037 => [.canon [0, 1, 2, 3, 9, 10, 11, 12, 15, 18, 19]] | 100044 => [.canon [0, 1, 2, 3, 9, 10, 11, 12, 15, 18, 21]] | _ => [], fun N => Zek N (m + 1), fun N => [(83, Zhj N), (58, Zf3 N), (56, Zek N m), (59, Zgo N)]⟩
def Zmz (code25 : List (Int × Int × Int × Int)) (kids26 : List (List (Int × Int × Int × Int))) (order27 : List Int) (next28 : Int) (i29 : Int) (l30 : List Int) (b31 : Int) (b32 : Int) (b33 : Int) (b34 : Int) (l35 : List (Int × List Int × List Int × List Int × Int)) (l36 : List Int) (l37 : List Int) (l38 : List Int) (l39 : List Int) (l40 : List Int) : St := ⟨[(0, vV (.slice (.prod (.int .i64) (.prod (.int .i64) (.prod (.int .i64) (.int .i64))))) code25), (1, vV (.slice (.slice (.prod (.int .i64) (.prod (.int .i64) (.prod (.int .i64) (.int .i64)))))) kids26), (2, vV (.slice (.int .i64)) order27), (3, vO 0), (9, vP 1 0), (10, vP 2 0), (11, vP 3 0), (12, vO 4), (15, vI next28), (18, vO 5), (19, vI i29)], [(0, .arr (.int .i64) l30), (1, .box [.own 6, .own 7, .val (.int .i64) b31]), (2, .box [.val (.int .i64) b32, .nils, .nils, .nils, .val (.int .i64) b33]), (3, .box [.own 8, .own 9, .val (.int .i64) b34]), (4, .arr (.prod (.int .i64) (.prod (.slice (.int .i64)) (.prod (.slice (.int .i64)) (.prod (.slice (.int .i64)) (.int .i64))))) l35), (5, .arr (.int .i64) l36), (6, .arr (.int .i64) l37), (7, .arr (.int .i64) l38), (8, .arr (.int .i64) l39), (9, .arr (.int .i64) l40)], 10⟩
def Zkz (code25 : List (Int × Int × Int × Int)) (kids26 : List (List (Int × Int × Int × Int))) (order27 : List Int) (next28 : Int) (l30 : List Int) (b32 : Int) (b33 : Int) (b34 : Int) (l35 : List (Int × List Int × List Int × List Int × Int)) (l39 : List Int) (l40 : List Int) (i43 : Int) (t44 : Bool) (b45 : Int) (l46 : List Int) (l47 : List Int) (l48 : List Int) : St := ⟨[(0, vV (.slice (.prod (.int .i64) (.prod (.int .i64) (.prod (.int .i64) (.int .i64))))) code25), (1, vV (.slice (.slice (.prod (.int .i64) (.prod (.int .i64) (.prod (.int .i64) (.int .i64)))))) kids26), (2, vV (.slice (.int .i64)) order27), (3, vO 0), (9, vP 1 0), (10, vP 2 0), (11, vP 3 0), (12, vO 4), (15, vI next28), (18, vO 5), (19, vI i43), (169, vB t44)], [(0, .arr (.int .i64) l30), (1, .box [.own 6, .own 7, .val (.int .i64) b45]), (2, .box [.val (.int .i64) b32, .nils, .nils, .nils, .val (.int .i64) b33]), (3, .box [.own 8, .own 9, .val (.int .i64) b34]), (4, .arr (.prod (.int .i64) (.prod (.slice (.int .i64)) (.prod (.slice (.int .i64)) (.prod (.slice (.int .i64)) (.int .i64))))) l35), (5, .arr (.int .i64) l46), (6, .arr (.int .i64) l47), (7, .arr (.int .i64) l48), (8, .arr (.int .i64) l39), (9, .arr (.int .i64) l40)], 10⟩
theorem Zm0 (N m : Nat) {R : Type} (K : Ex → St → Option R) {code25 : List (Int × Int × Int × Int)} {kids26 : List (List (Int × Int × Int × Int))} {order27 : List Int} {next28 : Int} {l30 : List Int} {b32 : Int} {b33 : Int} {b34 : Int} {l35 : List (Int × List Int × List Int × List Int × Int)} {l39 : List Int} {l40 : List Int} {K0 : Int → Bool → Int → (List Int) → (List Int) → (List Int) → Option R} (h0 : K0 = fun i43 t44 b45 l46 l47 l48 => K (.exit 3) (Zkz code25 kids26 order27 next28 l30 b32 b33 b34 l35 l39 l40 i43 t44 b45 l46 l47 l48)) (n : Nat) (i29 : Int) (b31 : Int) (l36 : List Int) (l37 : List Int) (l38 : List Int) : Zbp N (Z6 N m) code25 kids26 order27 next28 l30 b32 b33 b34 l35 l39 l40 K0 n i29 b31 l36 l37 l38 = LM (Zbu m) N 1 100037 n (Zmz code25 kids26 order27 next28 i29 l30 b31 b32 b33 b34 l35 l36 l37 l38 l39 l40) K := by
  subst h0
  induction n generalizing i29 b31 l36 l37 l38 with
  | zero => kernel_rfl
  | succ n ih => rw [Zbp]; simp (disch := exact id (by kernel_rfl)) only [ih]; kernel_rfl
def Zm1 (code57 : List (Int × Int × Int × Int)) (kids58 : List (List (Int × Int × Int × Int))) (order59 : List Int) (next60 : Int) (i61 : Int) (l62 : List Int) (b63 : Int) (b64 : Int) (b65 : Int) (b66 : Int) (l67 : List (Int × List Int × List Int × List Int × Int)) (l68 : List Int) (l69 : List Int) (l70 : List Int) (l71 : List Int) (l72 : List Int) : St := ⟨[(0, vV (.slice (.prod (.int .i64) (.prod (.int .i64) (.prod (.int .i64) (.int .i64))))) code57), (1, vV (.slice (.slice (.prod (.int .i64) (.prod (.int .i64) (.prod (.int .i64) (.int .i64)))))) kids58), (2, vV (.slice (.int .i64)) order59), (3, vO 0), (9, vP 1 0), (10, vP 2 0), (11, vP 3 0), (12, vO 4), (15, vI next60), (18, vO 5), (21, vI i61)], [(0, .arr (.int .i64) l62), (1, .box [.own 6, .own 7, .val (.int .i64) b63]), (2, .box [.val (.int .i64) b64, .nils, .nils, .nils, .val (.int .i64) b65]), (3, .box [.own 8, .own 9, .val (.int .i64) b66]), (4, .arr (.prod (.int .i64) (.prod (.slice (.int .i64)) (.prod (.slice (.int .i64)) (.prod (.slice (.int .i64)) (.int .i64))))) l67), (5, .arr (.int .i64) l68), (6, .arr (.int .i64) l69), (7, .arr (.int .i64) l70), (8, .arr (.int .i64) l71), (9, .arr (.int .i64) l72)], 10⟩
def Zk0 (code57 : List (Int × Int × Int × Int)) (kids58 : List (List (Int × Int × Int × Int))) (order59 : List Int) (next60 : Int) (b63 : Int) (b64 : Int) (b65 : Int) (b66 : Int) (l67 : List (Int × List Int × List Int × List Int × Int)) (l68 : List Int) (l69 : List Int) (l70 : List Int) (l71 : List Int) (l72 : List Int) (i73 : Int) (t74 : Bool) (l75 : List Int) : St := ⟨[(0, vV (.slice (.prod (.int .i64) (.prod (.int .i64) (.prod (.int .i64) (.int .i64))))) code57), (1, vV (.slice (.slice (.prod (.int .i64) (.prod (.int .i64) (.prod (.int .i64) (.int .i64)))))) kids58), (2, vV (.slice (.int .i64)) order59), (3, vO 0), (9, vP 1 0), (10, vP 2 0), (11, vP 3 0), (12, vO 4), (15, vI next60), (18, vO 5), (21, vI i73), (201, vB t74)], [(0, .arr (.int .i64) l75), (1, .box [.own 6, .own 7, .val (.int .i64) b63]), (2, .box [.val (.int .i64) b64, .nils, .nils, .nils, .val (.int .i64) b65]), (3, .box [.own 8, .own 9, .val (.int .i64) b66]), (4, .arr (.prod (.int .i64) (.prod (.slice (.int .i64)) (.prod (.slice (.int .i64)) (.prod (.slice (.int .i64)) (.int .i64))))) l67), (5, .arr (.int .i64) l68), (6, .arr (.int .i64) l69), (7, .arr (.int .i64) l70), (8, .arr (.int .i64) l71), (9, .arr (.int .i64) l72)], 10⟩
theorem Zm2 (N m : Nat) {R : Type} (K : Ex → St → Option R) {code57 : List (Int × Int × Int × Int)} {kids58 : List (List (Int × Int × Int × Int))} {order59 : List Int} {next60 : Int} {b63 : Int} {b64 : Int} {b65 : Int} {b66 : Int} {l67 : List (Int × List Int × List Int × List Int × Int)} {l68 : List Int} {l69 : List Int} {l70 : List Int} {l71 : List Int} {l72 : List Int} {K0 : Int → Bool → (List Int) → Option R} (h0 : K0 = fun i73 t74 l75 => K (.exit 5) (Zk0 code57 kids58 order59 next60 b63 b64 b65 b66 l67 l68 l69 l70 l71 l72 i73 t74 l75)) (n : Nat) (i61 : Int) (l62 : List Int) : Zd8 N (Z6 N m) code57 kids58 order59 next60 b63 b64 b65 b66 l67 l68 l69 l70 l71 l72 K0 n i61 l62 = LM (Zbu m) N 2 100044 n (Zm1 code57 kids58 order59 next60 i61 l62 b63 b64 b65 b66 l67 l68 l69 l70 l71 l72) K := by
  subst h0
  induction n generalizing i61 l62 with
  | zero => kernel_rfl
  | succ n ih => rw [Zd8]; simp (disch := exact id (by kernel_rfl)) only [ih]; kernel_rfl
def Zm3 (code8 : List (Int × Int × Int × Int)) (kids9 : List (List (Int × Int × Int × Int))) (order10 : List Int) (pc11 : Int) (l12 : List Int) (b13 : Int) (b16 : Int) (l17 : List (Int × List Int × List Int × List Int × Int)) (l18 : List Int) (l19 : List Int) (l20 : List Int) (l21 : List Int) : St := ⟨[(0, vV (.slice (.prod (.int .i64) (.prod (.int .i64) (.prod (.int .i64) (.int .i64))))) code8), (1, vV (.slice (.slice (.prod (.int .i64) (.prod (.int .i64) (.prod (.int .i64) (.int .i64)))))) kids9), (2, vV (.slice (.int .i64)) order10), (3, vO 0), (9, vP 1 0), (10, vP 2 0), (11, vP 3 0), (12, vO 4), (13, vI pc11)], [(0, .arr (.int .i64) l12), (1, .box [.own 5, .own 6, .val (.int .i64) b13]), (2, .box [.val (.int .i64) (0 : Int), .nils, .nils, .nils, .val (.int .i64) (0 : Int)]), (3, .box [.own 7, .own 8, .val (.int .i64) b16]), (4, .arr (.prod (.int .i64) (.prod (.slice (.int .i64)) (.prod (.slice (.int .i64)) (.prod (.slice (.int .i64)) (.int .i64))))) l17), (5, .arr (.int .i64) l18), (6, .arr (.int .i64) l19), (7, .arr (.int .i64) l20), (8, .arr (.int .i64) l21)], 9⟩
def Zk1 (code8 : List (Int × Int × Int × Int)) (kids9 : List (List (Int × Int × Int × Int))) (order10 : List Int) (b16 : Int) (l20 : List Int) (l21 : List Int) (l93 : List Int) : St := ⟨[(10, vP 0 0)], [(0, .box [.val (.int .i64) (2 : Int), .own 1, .own 2, .own 3, .val (.int .i64) b16]), (1, .arr (.int .i64) l93), (2, .arr (.int .i64) l20), (3, .arr (.int .i64) l21)], 4⟩
def Zk2 (code8 : List (Int × Int × Int × Int)) (kids9 : List (List (Int × Int × Int × Int))) (order10 : List Int) (b16 : Int) (l20 : List Int) (l21 : List Int) (pc94 : Int) (t95 : Bool) (l96 : List Int) (b97 : Int) (l98 : List (Int × List Int × List Int × List Int × Int)) (l99 : List Int) (l100 : List Int) : St := ⟨[(0, vV (.slice (.prod (.int .i64) (.prod (.int .i64) (.prod (.int .i64) (.int .i64))))) code8), (1, vV (.slice (.slice (.prod (.int .i64) (.prod (.int .i64) (.prod (.int .i64) (.int .i64)))))) kids9), (2, vV (.slice (.int .i64)) order10), (3, vO 0), (9, vP 1 0), (10, vP 2 0), (11, vP 3 0), (12, vO 4), (13, vI pc94), (37, vB t95)], [(0, .arr (.int .i64) l96), (1, .box [.own 5, .own 6, .val (.int .i64) b97]), (2, .box [.val (.int .i64) (0 : Int), .nils, .nils, .nils, .val (.int .i64) (0 : Int)]), (3, .box [.own 7, .own 8, .val (.int .i64) b16]), (4, .arr (.prod (.int .i64) (.prod (.slice (.int .i64)) (.prod (.slice (.int .i64)) (.prod (.slice (.int .i64)) (.int .i64))))) l98), (5, .arr (.int .i64) l99), (6, .arr (.int .i64) l100), (7, .arr (.int .i64) l20), (8, .arr (.int .i64) l21)], 9⟩
theorem Zm4 (N m : Nat) {R : Type} (K : Ex → St → Option R) {code8 : List (Int × Int × Int × Int)} {kids9 : List (List (Int × Int × Int × Int))} {order10 : List Int} {b16 : Int} {l20 : List Int} {l21 : List Int} {K0 : (List Int) → Option R} {K1 : Int → Bool → (List Int) → Int → (List (Int × List Int × List Int × List Int × Int)) → (List Int) → (List Int) → Option R} (h0 : K0 = fun l93 => K .ret (Zk1 code8 kids9 order10 b16 l20 l21 l93)) (h1 : K1 = fun pc94 t95 l96 b97 l98 l99 l100 => K (.exit 0) (Zk2 code8 kids9 order10 b16 l20 l21 pc94 t95 l96 b97 l98 l99 l100)) (n : Nat) (pc11 : Int) (l12 : List Int) (b13 : Int) (l17 : List (Int × List Int × List Int × List Int × Int)) (l18 : List Int) (l19 : List Int) : Zm N (Z6 N m) code8 kids9 order10 b16 l20 l21 K0 K1 n pc11 l12 b13 l17 l18 l19 = LM (Zbu m) N 0 100006 n (Zm3 code8 kids9 order10 pc11 l12 b13 b16 l17 l18 l19 l20 l21) K := by
  subst h0 h1
  induction n generalizing pc11 l12 b13 l17 l18 l19 with
  | zero => kernel_rfl
  | succ n ih => rw [Zm]; simp (disch := exact id (by kernel_rfl)) only [ih, Zm0 N m (CL (Zbu m) N 0 100006 [1, 0, 1, 1, 0, 1, 0, 1, 1, 1, 1, 1, 1, 1, 1, 1, 1, 1, 1, 1, 0, 1, 0, 1, 0] n K), Zm2 N m (CL (Zbu m) N 0 100006 [1, 0, 1, 1, 0, 1, 0, 1, 1, 1, 1, 1, 1, 1, 1, 1, 1, 1, 1, 1, 0, 1, 1, 1, 0] n K)]; kernel_rfl
theorem Zji : Callable Tryz.prog 56 := callable_of Tryz.func56 (show chkFn Tryz.f56 = true by kernel_rfl)
theorem Zqv (N m : Nat) (code1 : List (Int × Int × Int × Int)) (kids2 : List (List (Int × Int × Int × Int))) (order3 : List Int) (regs4 : List Int) (s5 : List Int × List Int × Int) : DN (Zbu m) N (code1, kids2, order3, regs4, s5, ()) = Z6 N (m + 1) code1 kids2 order3 regs4 s5 := by
  have h : Z6 N (m + 1) code1 kids2 order3 regs4 s5 = Z6 N (m + 1) code1 kids2 order3 regs4 s5 := rfl
  conv at h => rhs; rw [Z6]
  simp (disch := exact id (by kernel_rfl)) only [Zm4 (R := Unit × ((Int × List Int × List Int × List Int × Int) × Unit)) N m (CF (Zbu m) N [1, 1, 1, 1, 1, 1, 0, 0])] at h
  exact Eq.trans (by kernel_rfl) h.symm
theorem Zis (N : Nat) : ∀ m, Good Tryz.prog 56 (Zek N m)
  | 0 => fun d o h => nomatch (show none = some o from h)
  | m + 1 => GF (Zbu m) N Tryz.func56 (ctx_cons (Zqu N) Zqt (ctx_cons (Zj4 N) Zj3 (ctx_cons (Zis N m) Zji (ctx_cons (Zl7 N) Zl6 ctx_nil)))) (by kernel_rfl) (fun d => Zqv N m d.1 d.2.1 d.2.2.1 d.2.2.2.1 d.2.2.2.2.1)
theorem Zqw (N : Nat) : Good Tryz.prog 56 (Zjh N) := Zis N N
noncomputable def Zft (N : Nat) : Sig := Sig.of [.v (.slice (.prod (.int .i64) (.prod (.int .i64) (.prod (.int .i64) (.int .i64))))) false, .v (.slice (.int .i64)) false, .v (.slice (.int .i64)) false] [.v (.int .i64) false, .v (.own (.int .i64)) false, .v (.own (.int .i64)) false] (fun d => Zeg N d.1 d.2.1 d.2.2.1)
noncomputable def Zod : Fn := ⟨Tryz.f29, noAnn, Zft, fun N => [(55, Zed N), (54, Zdk N), (52, Zdl N), (56, Zjh N)]⟩
theorem Zoe : Callable Tryz.prog 29 := callable_of Tryz.func29 (show chkFn Tryz.f29 = true by kernel_rfl)
theorem Zof (N : Nat) : Good Tryz.prog 29 (Zft N) := GF Zod N Tryz.func29 (ctx_cons (Zh5 N) Zh4 (ctx_cons (Ze5 N) Ze4 (ctx_cons (Ze8 N) Ze7 (ctx_cons (Zqw N) Zji ctx_nil)))) (by kernel_rfl) (fun d => by kernel_rfl)
noncomputable def Zel (N : Nat) : Sig := Sig.of [.v (.slice (.int .i64)) false] [.v (.own (.int .i64)) false] (fun d => Zq N d.1)
noncomputable def Zpl : Fn := ⟨Tryz.f31, noAnn, Zel, noCtx⟩
theorem Zit : Callable Tryz.prog 31 := callable_of Tryz.func31 (show chkFn Tryz.f31 = true by kernel_rfl)
theorem Ziu (N : Nat) : Good Tryz.prog 31 (Zel N) := GF Zpl N Tryz.func31 ctx_nil (by kernel_rfl) (fun d => by kernel_rfl)
noncomputable def Zf9 (N : Nat) : Sig := Sig.of [.v (.slice (.bool)) false] [.v (.own (.bool)) false] (fun d => Zd1 N d.1)
noncomputable def Zoz : Fn := ⟨Tryz.f57, noAnn, Zf9, noCtx⟩
theorem Zo0 : Callable Tryz.prog 57 := callable_of Tryz.func57 (show chkFn Tryz.f57 = true by kernel_rfl)
theorem Zo1 (N : Nat) : Good Tryz.prog 57 (Zf9 N) := GF Zoz N Tryz.func57 ctx_nil (by kernel_rfl) (fun d => by kernel_rfl)
noncomputable def Zgt (N : Nat) : Sig := Sig.of [.v (.slice (.prod (.int .i64) (.prod (.int .i64) (.prod (.int .i64) (.int .i64))))) false, .v (.slice (.int .i64)) false, .v (.slice (.int .i64)) false] [.v (.own (.int .i64)) false] (fun d => Zcd N d.1 d.2.1 d.2.2.1)
noncomputable def Zdb : Fn := ⟨Tryz.f30, fun | 9 => [.canon [0, 1, 2, 7, 8, 9, 10, 43]] | 10 => [.canon [0, 1, 2, 7, 8, 9, 10, 11]] | 11 => [.canon [0, 1, 2, 7, 8, 9, 10, 11, 12]] | 12 => [.canon [0, 1, 2, 7, 8, 9, 10, 11, 12, 51]] | 13 => [.canon [0, 2, 7, 8, 9, 12, 15]] | 14 => [.canon [0, 1, 2, 7, 8, 9, 12]] | 15 => [.canon [0, 1, 2, 7, 8, 9, 10, 11, 12, 51, 59]] | 16 => [.canon [0, 1, 2, 7, 8, 9, 11, 12]] | 17 => [.canon [0, 1, 2, 7, 8, 9, 12]] | 18 => [.canon [0, 1, 2, 7, 8, 9, 10, 11, 12, 51, 87]] | 19 => [.canon [0, 1, 2, 7, 8, 9, 11, 12]] | 20 => [.canon [0, 1, 2, 7, 8, 9, 12]] | 21 => [.canon [0, 1, 2, 7, 8, 9, 10, 11, 12, 51, 102]] | 22 => [.canon [0, 1, 2, 7, 8, 9, 11, 12, 109]] | 23 => [.canon [0, 1, 2, 7, 8, 9, 12]] | 24 => [.canon [0, 1, 2, 7, 8, 9, 10, 11, 12, 51, 114]] | 25 => [.canon [0, 1, 2, 7, 8, 9, 12]] | 26 => [.canon [0, 1, 2, 7, 8, 9, 11, 12, 51, 127]] | 27 => [.canon [0, 1, 2, 7, 8, 9, 12, 13]] | 28 => [.canon [0, 1, 2, 7, 8, 9, 12, 13]] | 29 => [.canon [0, 1, 2, 7, 8, 9, 12]] | 30 => [.canon [0, 1, 2, 7, 8, 9, 11, 12, 148]] | 31 => [.canon [0, 1, 2, 7, 8, 9, 12]] | 32 => [.canon [0, 1, 2, 7, 8, 9, 12, 154]] | 33 => [.canon [0, 8, 9, 14]] | 34 => [.canon [0, 8, 9, 14]] | 35 => [.canon [0, 1, 8, 9, 14]] | 36 => [.canon [0, 1, 2, 8, 9, 14]] | 37 => [.canon [0, 1, 2, 7, 8, 9, 14]] | 38 => [.canon [0, 1, 2, 7, 8, 9, 14]] | 39 => [.canon [0, 1, 2, 7, 8, 9, 12]] | 40 => [.canon [0, 1, 2, 7, 8, 9, 10]] | 43 => [.canon [8, 17, 18, 193]] | 44 => [.canon [8, 17, 18]] | 45 => [.canon [8, 17, 18, 199]] | 46 => [.canon [8, 17, 18]] | 100009 => [.canon [0, 1, 2, 7, 8, 9, 10]] | 100043 => [.canon [8, 17, 18]] | _ => [], Zgt, fun N => [(55, Zed N), (54, Zdk N), (52, Zdl N), (31, Zel N), (57, Zf9 N), (58, Zf3 N), (59, Zgo N)]⟩
def Zk3 (code9 : List (Int × Int × Int × Int)) (pc10 : Int) (l11 : List Int) (l12 : List Int) (l13 : List Bool) (l14 : List Bool) (l15 : List (Int × List Int × List Int × List Bool)) : St := ⟨[(0, vV (.slice (.prod (.int .i64) (.prod (.int .i64) (.prod (.int .i64) (.int .i64))))) code9), (1, vO 0), (2, vO 1), (7, vO 2), (8, vO 3), (9, vO 4), (10, vI pc10)], [(0, .arr (.int .i64) l11), (1, .arr (.int .i64) l12), (2, .arr (.bool) l13), (3, .arr (.bool) l14), (4, .arr (.prod (.int .i64) (.prod (.slice (.int .i64)) (.prod (.slice (.int .i64)) (.slice (.bool))))) l15)], 5⟩
def Zj5 (code9 : List (Int × Int × Int × Int)) (pc24 : Int) (t25 : Bool) (l26 : List Int) (l27 : List Int) (l28 : List Bool) (l29 : List Bool) (l30 : List (Int × List Int × List Int × List Bool)) : St := ⟨[(0, vV (.slice (.prod (.int .i64) (.prod (.int .i64) (.prod (.int .i64) (.int .i64))))) code9), (1, vO 0), (2, vO 1), (7, vO 2), (8, vO 3), (9, vO 4), (10, vI pc24), (43, vB t25)], [(0, .arr (.int .i64) l26), (1, .arr (.int .i64) l27), (2, .arr (.bool) l28), (3, .arr (.bool) l29), (4, .arr (.prod (.int .i64) (.prod (.slice (.int .i64)) (.prod (.slice (.int .i64)) (.slice (.bool))))) l30)], 5⟩
theorem Zk4 (N : Nat) {R : Type} (K : Ex → St → Option R) {code9 : List (Int × Int × Int × Int)} {K0 : Int → Bool → (List Int) → (List Int) → (List Bool) → (List Bool) → (List (Int × List Int × List Int × List Bool)) → Option R} (h0 : K0 = fun pc24 t25 l26 l27 l28 l29 l30 => K (.exit 0) (Zj5 code9 pc24 t25 l26 l27 l28 l29 l30)) (n : Nat) (pc10 : Int) (l11 : List Int) (l12 : List Int) (l13 : List Bool) (l14 : List Bool) (l15 : List (Int × List Int × List Int × List Bool)) : Zo N code9 K0 n pc10 l11 l12 l13 l14 l15 = LM Zdb N 0 100009 n (Zk3 code9 pc10 l11 l12 l13 l14 l15) K := by
  subst h0
  induction n generalizing pc10 l11 l12 l13 l14 l15 with
  | zero => kernel_rfl
  | succ n ih => rw [Zo]; simp (disch := exact id (by kernel_rfl)) only [ih]; kernel_rfl
def Zk5 (i46 : Int) (l47 : List Bool) (l48 : List Int) : St := ⟨[(8, vO 0), (17, vO 1), (18, vI i46)], [(0, .arr (.bool) l47), (1, .arr (.int .i64) l48)], 2⟩
def Zj6 (l47 : List Bool) (i49 : Int) (t50 : Bool) (l51 : List Int) : St := ⟨[(8, vO 0), (17, vO 1), (18, vI i49), (193, vB t50)], [(0, .arr (.bool) l47), (1, .arr (.int .i64) l51)], 2⟩
theorem Zk6 (N : Nat) {R : Type} (K : Ex → St → Option R) {l47 : List Bool} {K0 : Int → Bool → (List Int) → Option R} (h0 : K0 = fun i49 t50 l51 => K (.exit 3) (Zj6 l47 i49 t50 l51)) (n : Nat) (i46 : Int) (l48 : List Int) : Zai N l47 K0 n i46 l48 = LM Zdb N 1 100043 n (Zk5 i46 l47 l48) K := by
  subst h0
  induction n generalizing i46 l48 with
  | zero => kernel_rfl
  | succ n ih => rw [Zai]; simp (disch := exact id (by kernel_rfl)) only [ih]; kernel_rfl
theorem Zpm : Callable Tryz.prog 30 := callable_of Tryz.func30 (show chkFn Tryz.f30 = true by kernel_rfl)
theorem Zpn (N : Nat) (code1 : List (Int × Int × Int × Int)) (regs2 : List Int) (cells3 : List Int) : DN Zdb N (code1, regs2, cells3, ()) = Zcd N code1 regs2 cells3 := by
  have h : Zcd N code1 regs2 cells3 = Zcd N code1 regs2 cells3 := rfl
  conv at h => rhs; rw [Zcd]
  simp (disch := exact id (by kernel_rfl)) only [Zk4 (R := Unit × ((List Int) × Unit)) N (CF Zdb N [1, 1, 1, 1, 1, 1, 1, 1, 0, 0]), Zk6 (R := Unit × ((List Int) × Unit)) N (CF Zdb N [1, 1, 1, 1, 1, 1, 1, 1, 1, 1, 0, 1, 0])] at h
  exact Eq.trans (by kernel_rfl) h.symm
theorem Zpo (N : Nat) : Good Tryz.prog 30 (Zgt N) := GF Zdb N Tryz.func30 (ctx_cons (Zh5 N) Zh4 (ctx_cons (Ze5 N) Ze4 (ctx_cons (Ze8 N) Ze7 (ctx_cons (Ziu N) Zit (ctx_cons (Zo1 N) Zo0 (ctx_cons (Zj4 N) Zj3 (ctx_cons (Zl7 N) Zl6 ctx_nil))))))) (by kernel_rfl) (fun d => Zpn N d.1 d.2.1 d.2.2.1)
noncomputable def Zhk (N : Nat) : Sig := Sig.of [.v (.slice (.slice (.prod (.int .i64) (.prod (.int .i64) (.prod (.int .i64) (.int .i64)))))) false, .v (.slice (.int .i64)) false, .v (.slice (.int .i64)) false] [.v (.prod (.int .i64) (.prod (.own (.int .i64)) (.prod (.own (.int .i64)) (.own (.int .i64))))) true] (fun d => Zc2 N d.1 d.2.1 d.2.2.1)
noncomputable def Zbv : Fn := ⟨Tryz.f7, fun | 5 => [.canon [0, 1, 2, 6, 7, 8, 26]] | 6 => [.canon [0, 1, 2, 6, 7, 8]] | 7 => [.canon [0, 1, 2, 6, 7, 8, 9, 10, 11]] | 8 => [.canon [0, 1, 2, 6, 7, 8, 10, 11, 42]] | 9 => [.canon [6]] | 10 => [.canon [0, 1, 2, 6, 7, 8, 12]] | 11 => [.canon [0, 1, 2, 6, 7, 8, 12, 13]] | 12 => [.canon [0, 1, 2, 6, 7, 8, 12, 13, 58]] | 13 => [.canon [0, 1, 2, 6, 7, 8, 12, 13]] | 14 => [.canon [0, 1, 2, 6, 7, 8, 12, 13]] | 17 => [.canon [6, 7, 14, 15, 75]] | 18 => [.canon [6, 7, 14, 15]] | 19 => [.canon [6, 7, 14, 15, 81]] | 20 => [.canon [6, 7, 14, 15]] | 100005 => [.canon [0, 1, 2, 6, 7, 8]] | 100012 => [.canon [0, 1, 2, 6, 7, 8, 12, 13]] | 100017 => [.adoptC 14 3 (.int .i64), .canon [6, 7, 14, 15]] | _ => [], Zhk, fun N => [(28, Zfc N), (29, Zft N), (30, Zgt N), (31, Zel N)]⟩
def Zm5 (l13 : List (List (Int × Int × Int × Int))) (regs14 : List Int) (cells15 : List Int) (i16 : Int) (k17 : Int) (b18 : Int) (l19 : List Bool) (l20 : List Int) : St := ⟨[(0, vV (.slice (.slice (.prod (.int .i64) (.prod (.int .i64) (.prod (.int .i64) (.int .i64)))))) l13), (1, vV (.slice (.int .i64)) regs14), (2, vV (.slice (.int .i64)) cells15), (6, vP 0 0), (7, vO 1), (8, vI i16), (12, vO 2), (13, vI k17)], [(0, .box [.val (.int .i64) b18, .nils, .nils, .nils]), (1, .arr (.bool) l19), (2, .arr (.int .i64) l20)], 3⟩
def Zk7 (l13 : List (List (Int × Int × Int × Int))) (regs14 : List Int) (cells15 : List Int) (i16 : Int) (b18 : Int) (l20 : List Int) (k21 : Int) (t22 : Bool) (l23 : List Bool) : St := ⟨[(0, vV (.slice (.slice (.prod (.int .i64) (.prod (.int .i64) (.prod (.int .i64) (.int .i64)))))) l13), (1, vV (.slice (.int .i64)) regs14), (2, vV (.slice (.int .i64)) cells15), (6, vP 0 0), (7, vO 1), (8, vI i16), (12, vO 2), (13, vI k21), (58, vB t22)], [(0, .box [.val (.int .i64) b18, .nils, .nils, .nils]), (1, .arr (.bool) l23), (2, .arr (.int .i64) l20)], 3⟩
theorem Zm6 (N : Nat) {R : Type} (K : Ex → St → Option R) {l13 : List (List (Int × Int × Int × Int))} {regs14 : List Int} {cells15 : List Int} {i16 : Int} {b18 : Int} {l20 : List Int} {K0 : Int → Bool → (List Bool) → Option R} (h0 : K0 = fun k21 t22 l23 => K (.exit 2) (Zk7 l13 regs14 cells15 i16 b18 l20 k21 t22 l23)) (n : Nat) (k17 : Int) (l19 : List Bool) : Zbq N l13 regs14 cells15 i16 b18 l20 K0 n k17 l19 = LM Zbv N 1 100012 n (Zm5 l13 regs14 cells15 i16 k17 b18 l19 l20) K := by
  subst h0
  induction n generalizing k17 l19 with
  | zero => kernel_rfl
  | succ n ih => rw [Zbq]; simp (disch := exact id (by kernel_rfl)) only [ih]; kernel_rfl
def Zm7 (l5 : List (List (Int × Int × Int × Int))) (regs6 : List Int) (cells7 : List Int) (i8 : Int) (l10 : List Bool) : St := ⟨[(0, vV (.slice (.slice (.prod (.int .i64) (.prod (.int .i64) (.prod (.int .i64) (.int .i64)))))) l5), (1, vV (.slice (.int .i64)) regs6), (2, vV (.slice (.int .i64)) cells7), (6, vP 0 0), (7, vO 1), (8, vI i8)], [(0, .box [.val (.int .i64) (0 : Int), .nils, .nils, .nils]), (1, .arr (.bool) l10)], 2⟩
def Zk8 (l5 : List (List (Int × Int × Int × Int))) (regs6 : List Int) (cells7 : List Int) (b32 : Int) (l33 : List Int) (l34 : List Int) : St := ⟨[(6, vP 0 0)], [(0, .box [.val (.int .i64) b32, .own 1, .own 2, .nils]), (1, .arr (.int .i64) l33), (2, .arr (.int .i64) l34)], 3⟩
def Zk9 (l5 : List (List (Int × Int × Int × Int))) (regs6 : List Int) (cells7 : List Int) (i35 : Int) (t36 : Bool) (l37 : List Bool) : St := ⟨[(0, vV (.slice (.slice (.prod (.int .i64) (.prod (.int .i64) (.prod (.int .i64) (.int .i64)))))) l5), (1, vV (.slice (.int .i64)) regs6), (2, vV (.slice (.int .i64)) cells7), (6, vP 0 0), (7, vO 1), (8, vI i35), (26, vB t36)], [(0, .box [.val (.int .i64) (0 : Int), .nils, .nils, .nils]), (1, .arr (.bool) l37)], 2⟩
theorem Zm8 (N : Nat) {R : Type} (K : Ex → St → Option R) {l5 : List (List (Int × Int × Int × Int))} {regs6 : List Int} {cells7 : List Int} {K0 : Int → (List Int) → (List Int) → Option R} {K1 : Int → Bool → (List Bool) → Option R} (h0 : K0 = fun b32 l33 l34 => K .ret (Zk8 l5 regs6 cells7 b32 l33 l34)) (h1 : K1 = fun i35 t36 l37 => K (.exit 0) (Zk9 l5 regs6 cells7 i35 t36 l37)) (n : Nat) (i8 : Int) (l10 : List Bool) : Za2 N l5 regs6 cells7 K0 K1 n i8 l10 = LM Zbv N 0 100005 n (Zm7 l5 regs6 cells7 i8 l10) K := by
  subst h0 h1
  induction n generalizing i8 l10 with
  | zero => kernel_rfl
  | succ n ih => rw [Za2]; simp (disch := exact id (by kernel_rfl)) only [ih, Zm6 N (CL Zbv N 0 100005 [1, 0, 0, 1, 1, 1, 1, 0] n K)]; kernel_rfl
def Zm9 (i51 : Int) (l53 : List Bool) (l55 : List Int) (l56 : List Int) (l57 : List Int) : St := ⟨[(6, vP 0 0), (7, vO 1), (14, vP 2 0), (15, vI i51)], [(0, .box [.val (.int .i64) (0 : Int), .nils, .nils, .nils]), (1, .arr (.bool) l53), (2, .box [.val (.int .i64) (-1 : Int), .own 3, .own 4, .own 5]), (3, .arr (.int .i64) l55), (4, .arr (.int .i64) l56), (5, .arr (.int .i64) l57)], 6⟩
def Zla (l53 : List Bool) (l55 : List Int) (l56 : List Int) (i58 : Int) (t59 : Bool) (l60 : List Int) : St := ⟨[(6, vP 0 0), (7, vO 1), (14, vP 2 0), (15, vI i58), (75, vB t59)], [(0, .box [.val (.int .i64) (0 : Int), .nils, .nils, .nils]), (1, .arr (.bool) l53), (2, .box [.val (.int .i64) (-1 : Int), .own 3, .own 4, .own 5]), (3, .arr (.int .i64) l55), (4, .arr (.int .i64) l56), (5, .arr (.int .i64) l60)], 6⟩
theorem Zna (N : Nat) {R : Type} (K : Ex → St → Option R) {l53 : List Bool} {l55 : List Int} {l56 : List Int} {K0 : Int → Bool → (List Int) → Option R} (h0 : K0 = fun i58 t59 l60 => K (.exit 4) (Zla l53 l55 l56 i58 t59 l60)) (n : Nat) (i51 : Int) (l57 : List Int) : Zaf N l53 l55 l56 K0 n i51 l57 = LM Zbv N 2 100017 n (Zm9 i51 l53 l55 l56 l57) K := by
  subst h0
  induction n generalizing i51 l57 with
  | zero => kernel_rfl
  | succ n ih => rw [Zaf]; simp (disch := exact id (by kernel_rfl)) only [ih]; kernel_rfl
theorem Zqx : Callable Tryz.prog 7 := callable_of Tryz.func7 (show chkFn Tryz.f7 = true by kernel_rfl)
theorem Zqy (N : Nat) (l1 : List (List (Int × Int × Int × Int))) (regs2 : List Int) (cells3 : List Int) : DN Zbv N (l1, regs2, cells3, ()) = Zc2 N l1 regs2 cells3 := by
  have h : Zc2 N l1 regs2 cells3 = Zc2 N l1 regs2 cells3 := rfl
  conv at h => rhs; rw [Zc2]
  simp (disch := exact id (by kernel_rfl)) only [Zm8 (R := Unit × ((Int × List Int × List Int × List Int) × Unit)) N (CF Zbv N [1, 1, 1, 0, 1, 0]), Zna (R := Unit × ((Int × List Int × List Int × List Int) × Unit)) N (CF Zbv N [1, 1, 1, 1, 1, 0, 1, 0])] at h
  exact Eq.trans (by kernel_rfl) h.symm
theorem Zqz (N : Nat) : Good Tryz.prog 7 (Zhk N) := GF Zbv N Tryz.func7 (ctx_cons (Zje N) Zjd (ctx_cons (Zof N) Zoe (ctx_cons (Zpo N) Zpm (ctx_cons (Ziu N) Zit ctx_nil)))) (by kernel_rfl) (fun d => Zqy N d.1 d.2.1 d.2.2.1)
noncomputable def Zhl (N : Nat) : Sig := Sig.of [.v (.slice (.slice (.prod (.int .i64) (.prod (.int .i64) (.prod (.int .i64) (.int .i64)))))) false, .v (.slice (.int .i64)) false, .v (.slice (.int .i64)) false, .v (.slice (.prod (.int .i64) (.int .i64))) false] [.v (.int .i64) false] (fun d => Zc4 N d.1 d.2.1 d.2.2.1 d.2.2.2.1)
noncomputable def Zfg : Fn := ⟨Tryz.f19, fun | 4 => [.canon [0, 1, 2, 3, 9, 23]] | 5 => [.canon [0, 1, 2, 3, 9]] | 6 => [.canon [0, 1, 2, 3, 9, 35]] | 7 => [.canon [8]] | 100004 => [.canon [0, 1, 2, 3, 9]] | _ => [], Zhl, fun N => [(28, Zfc N), (42, Zfe N), (25, Zgs N), (7, Zhk N)]⟩
def Znb (l7 : List (List (Int × Int × Int × Int))) (regs8 : List Int) (cells9 : List Int) (rows10 : List (Int × Int)) (n11 : Int) : St := ⟨[(0, vV (.slice (.slice (.prod (.int .i64) (.prod (.int .i64) (.prod (.int .i64) (.int .i64)))))) l7), (1, vV (.slice (.int .i64)) regs8), (2, vV (.slice (.int .i64)) cells9), (3, vV (.slice (.prod (.int .i64) (.int .i64))) rows10), (9, vI n11)], [], 0⟩
def Zlb (l7 : List (List (Int × Int × Int × Int))) (regs8 : List Int) (cells9 : List Int) (rows10 : List (Int × Int)) (t14 : Int) : St := ⟨[(8, vI t14)], [], 0⟩
def Zlc (l7 : List (List (Int × Int × Int × Int))) (regs8 : List Int) (cells9 : List Int) (rows10 : List (Int × Int)) (n15 : Int) (t16 : Bool) : St := ⟨[(0, vV (.slice (.slice (.prod (.int .i64) (.prod (.int .i64) (.prod (.int .i64) (.int .i64)))))) l7), (1, vV (.slice (.int .i64)) regs8), (2, vV (.slice (.int .i64)) cells9), (3, vV (.slice (.prod (.int .i64) (.int .i64))) rows10), (9, vI n15), (23, vB t16)], [], 0⟩
theorem Znc (N : Nat) {R : Type} (K : Ex → St → Option R) {l7 : List (List (Int × Int × Int × Int))} {regs8 : List Int} {cells9 : List Int} {rows10 : List (Int × Int)} {K0 : Int → Option R} {K1 : Int → Bool → Option R} (h0 : K0 = fun t14 => K .ret (Zlb l7 regs8 cells9 rows10 t14)) (h1 : K1 = fun n15 t16 => K (.exit 0) (Zlc l7 regs8 cells9 rows10 n15 t16)) (n : Nat) (n11 : Int) : Zbs N l7 regs8 cells9 rows10 K0 K1 n n11 = LM Zfg N 0 100004 n (Znb l7 regs8 cells9 rows10 n11) K := by
  subst h0 h1
  induction n generalizing n11 with
  | zero => kernel_rfl
  | succ n ih => rw [Zbs]; simp (disch := exact id (by kernel_rfl)) only [ih]; kernel_rfl
theorem Zq0 : Callable Tryz.prog 19 := callable_of Tryz.func19 (show chkFn Tryz.f19 = true by kernel_rfl)
theorem Zq1 (N : Nat) (l1 : List (List (Int × Int × Int × Int))) (regs2 : List Int) (cells3 : List Int) (rows4 : List (Int × Int)) : DN Zfg N (l1, regs2, cells3, rows4, ()) = Zc4 N l1 regs2 cells3 rows4 := by
  have h : Zc4 N l1 regs2 cells3 rows4 = Zc4 N l1 regs2 cells3 rows4 := rfl
  conv at h => rhs; rw [Zc4]
  simp (disch := exact id (by kernel_rfl)) only [Znc (R := Unit × (Int × Unit)) N (CF Zfg N [1, 1, 0, 1, 0])] at h
  exact Eq.trans (by kernel_rfl) h.symm
theorem Zq2 (N : Nat) : Good Tryz.prog 19 (Zhl N) := GF Zfg N Tryz.func19 (ctx_cons (Zje N) Zjd (ctx_cons (Zjg N) Zjf (ctx_cons (Zpk N) Zpi (ctx_cons (Zqz N) Zqx ctx_nil)))) (by kernel_rfl) (fun d => Zq1 N d.1 d.2.1 d.2.2.1 d.2.2.2.1)
noncomputable def Zbw (N : Nat) : Sig := Sig.of [.v (.int .i64) false, .v (.int .i64) false, .v (.int .i64) false] [.v (.bool) false] (fun d => Zao N d.1 d.2.1 d.2.2.1)
noncomputable def Zq3 : Fn := ⟨Tryz.f110, noAnn, Zbw, noCtx⟩
theorem Zdm : Callable Tryz.prog 110 := callable_of Tryz.func110 (show chkFn Tryz.f110 = true by kernel_rfl)
theorem Zdn (N : Nat) : Good Tryz.prog 110 (Zbw N) := GF Zq3 N Tryz.func110 ctx_nil (by kernel_rfl) (fun d => by kernel_rfl)
noncomputable def Zdv (N : Nat) : Sig := Sig.of [.v (.int .i64) false] [.v (.bool) false] (fun d => Zda N d.1)
noncomputable def Zpp : Fn := ⟨Tryz.f74, noAnn, Zdv, fun N => [(110, Zbw N)]⟩
theorem Zgu : Callable Tryz.prog 74 := callable_of Tryz.func74 (show chkFn Tryz.f74 = true by kernel_rfl)
theorem Zgv (N : Nat) : Good Tryz.prog 74 (Zdv N) := GF Zpp N Tryz.func74 (ctx_cons (Zdn N) Zdm ctx_nil) (by kernel_rfl) (fun d => by kernel_rfl)
noncomputable def Zau (N : Nat) : Sig := Sig.of [.v (.slice (.int .i64)) false, .v (.int .i64) false] [.v (.bool) false] (fun d => Zr N d.1 d.2.1)
noncomputable def Zd2 : Fn := ⟨Tryz.f61, fun | 2 => [.canon [0, 1, 7, 8, 9, 10]] | 3 => [.canon [0, 1, 6, 7, 8, 9]] | 4 => [.canon [0, 1, 7, 8, 9, 15]] | 5 => [.canon [4]] | 6 => [.canon [0, 1, 7, 8, 9]] | 100002 => [.canon [0, 1, 7, 8, 9]] | _ => [], Zau, fun N => [(74, Zdv N)]⟩
def Zjp (l3 : List Int) (n4 : Int) (t7 : Int) : St := ⟨[(0, vV (.slice (.int .i64)) l3), (1, vI n4), (7, vV (.slice (.int .i64)) l3), (8, vI (ilen l3)), (9, vI t7)], [], 0⟩
def Ziy (l3 : List Int) (n4 : Int) : St := ⟨[(4, vB false)], [], 0⟩
def Ziz (l3 : List Int) (n4 : Int) (t10 : Int) (t11 : Bool) : St := ⟨[(0, vV (.slice (.int .i64)) l3), (1, vI n4), (7, vV (.slice (.int .i64)) l3), (8, vI (ilen l3)), (9, vI t10), (10, vB t11)], [], 0⟩
theorem Zjq (N : Nat) {R : Type} (K : Ex → St → Option R) {l3 : List Int} {n4 : Int} {K0 : Option R} {K1 : Int → Bool → Option R} (h0 : K0 = K .ret (Ziy l3 n4)) (h1 : K1 = fun t10 t11 => K (.exit 0) (Ziz l3 n4 t10 t11)) (n : Nat) (t7 : Int) : Z4 N l3 n4 K0 K1 n t7 = LM Zd2 N 0 100002 n (Zjp l3 n4 t7) K := by
  subst h0 h1
  induction n generalizing t7 with
  | zero => kernel_rfl
  | succ n ih => rw [Z4]; simp (disch := exact id (by kernel_rfl)) only [ih]; kernel_rfl
theorem Zce : Callable Tryz.prog 61 := callable_of Tryz.func61 (show chkFn Tryz.f61 = true by kernel_rfl)
theorem Zog (N : Nat) (l1 : List Int) (n2 : Int) : DN Zd2 N (l1, n2, ()) = Zr N l1 n2 := by
  have h : Zr N l1 n2 = Zr N l1 n2 := rfl
  conv at h => rhs; rw [Zr]
  simp (disch := exact id (by kernel_rfl)) only [Zjq (R := Unit × (Bool × Unit)) N (CF Zd2 N [1, 0, 1, 0])] at h
  exact Eq.trans (by kernel_rfl) h.symm
theorem Zcf (N : Nat) : Good Tryz.prog 61 (Zau N) := GF Zd2 N Tryz.func61 (ctx_cons (Zgv N) Zgu ctx_nil) (by kernel_rfl) (fun d => Zog N d.1 d.2.1)
noncomputable def Zh6 (N : Nat) : Sig := Sig.of [.v (.int .i64) false] [.v (.bool) false] (fun d => Zb N d.1)
noncomputable def Zsc : Fn := ⟨Tryz.f131, noAnn, Zh6, fun N => [(110, Zbw N)]⟩
theorem Zsd : Callable Tryz.prog 131 := callable_of Tryz.func131 (show chkFn Tryz.f131 = true by kernel_rfl)
theorem Zse (N : Nat) : Good Tryz.prog 131 (Zh6 N) := GF Zsc N Tryz.func131 (ctx_cons (Zdn N) Zdm ctx_nil) (by kernel_rfl) (fun d => by kernel_rfl)
noncomputable def Zfh (N : Nat) : Sig := Sig.of [.v (.int .i64) false] [.v (.bool) false] (fun d => Zaq N d.1)
noncomputable def Zq4 : Fn := ⟨Tryz.f73, noAnn, Zfh, fun N => [(110, Zbw N)]⟩
theorem Zjj : Callable Tryz.prog 73 := callable_of Tryz.func73 (show chkFn Tryz.f73 = true by kernel_rfl)
theorem Zjk (N : Nat) : Good Tryz.prog 73 (Zfh N) := GF Zq4 N Tryz.func73 (ctx_cons (Zdn N) Zdm ctx_nil) (by kernel_rfl) (fun d => by kernel_rfl)
noncomputable def Zh7 (N : Nat) : Sig := Sig.of [.v (.int .i64) false] [.v (.bool) false] (fun d => Zc N d.1)
noncomputable def Zsf : Fn := ⟨Tryz.f132, noAnn, Zh7, fun N => [(110, Zbw N)]⟩
theorem Zsg : Callable Tryz.prog 132 := callable_of Tryz.func132 (show chkFn Tryz.f132 = true by kernel_rfl)
theorem Zsh (N : Nat) : Good Tryz.prog 132 (Zh7 N) := GF Zsf N Tryz.func132 (ctx_cons (Zdn N) Zdm ctx_nil) (by kernel_rfl) (fun d => by kernel_rfl)
noncomputable def Zet (N : Nat) : Sig := Sig.of [.v (.prod (.int .i64) (.prod (.int .i64) (.prod (.int .i64) (.int .i64)))) true] [.v (.bool) false] (fun d => Zl N d.1)
noncomputable def Zs6 : Fn := ⟨Tryz.f116, noAnn, Zet, fun N => [(131, Zh6 N), (74, Zdv N), (73, Zfh N), (110, Zbw N), (132, Zh7 N)]⟩
theorem Zip : Callable Tryz.prog 116 := callable_of Tryz.func116 (show chkFn Tryz.f116 = true by kernel_rfl)
theorem Ziq (N : Nat) : Good Tryz.prog 116 (Zet N) := GF Zs6 N Tryz.func116 (ctx_cons (Zse N) Zsd (ctx_cons (Zgv N) Zgu (ctx_cons (Zjk N) Zjj (ctx_cons (Zdn N) Zdm (ctx_cons (Zsh N) Zsg ctx_nil))))) (by kernel_rfl) (fun d => by kernel_rfl)
noncomputable def Zgw (N : Nat) : Sig := Sig.of [.v (.prod (.int .i64) (.prod (.int .i64) (.prod (.int .i64) (.int .i64)))) true] [.v (.int .i64) false] (fun d => Zeb N d.1)
noncomputable def Zpq : Fn := ⟨Tryz.f87, noAnn, Zgw, fun N => [(116, Zet N)]⟩
theorem Zpr : Callable Tryz.prog 87 := callable_of Tryz.func87 (show chkFn Tryz.f87 = true by kernel_rfl)
theorem Zps (N : Nat) : Good Tryz.prog 87 (Zgw N) := GF Zpq N Tryz.func87 (ctx_cons (Ziq N) Zip ctx_nil) (by kernel_rfl) (fun d => by kernel_rfl)
noncomputable def Zee (N : Nat) : Sig := Sig.of [.v (.prod (.int .i64) (.prod (.int .i64) (.prod (.int .i64) (.int .i64)))) true] [.v (.int .i64) false] (fun d => Zec N d.1)
noncomputable def Zsi : Fn := ⟨Tryz.f119, noAnn, Zee, noCtx⟩
theorem Zh8 : Callable Tryz.prog 119 := callable_of Tryz.func119 (show chkFn Tryz.f119 = true by kernel_rfl)
theorem Zh9 (N : Nat) : Good Tryz.prog 119 (Zee N) := GF Zsi N Tryz.func119 ctx_nil (by kernel_rfl) (fun d => by kernel_rfl)
noncomputable def Zex (N : Nat) : Sig := Sig.of [.v (.slice (.prod (.int .i64) (.prod (.int .i64) (.prod (.int .i64) (.int .i64))))) false] [.v (.bool) false] (fun d => Zak N d.1)
noncomputable def Zdx : Fn := ⟨Tryz.f117, fun | 3 => [.canon [3, 6, 7, 8, 9]] | 4 => [.canon [3, 5, 6, 7, 8]] | 5 => [.canon [3, 6, 7, 8]] | 6 => [.canon [3, 6, 7, 8, 17]] | 7 => [.canon [2]] | 8 => [.canon [3, 6, 7, 8]] | 100003 => [.canon [3, 6, 7, 8]] | _ => [], Zex, fun N => [(119, Zee N)]⟩
def Zi0 (n2 : Int) (t3 : List (Int × Int × Int × Int)) (t5 : Int) : St := ⟨[(3, vI n2), (6, vV (.slice (.prod (.int .i64) (.prod (.int .i64) (.prod (.int .i64) (.int .i64))))) t3), (7, vI (ilen t3)), (8, vI t5)], [], 0⟩
def Ziv (t3 : List (Int × Int × Int × Int)) : St := ⟨[(2, vB false)], [], 0⟩
def Ziw (t3 : List (Int × Int × Int × Int)) (n8 : Int) (t9 : Int) (t10 : Bool) : St := ⟨[(3, vI n8), (6, vV (.slice (.prod (.int .i64) (.prod (.int .i64) (.prod (.int .i64) (.int .i64))))) t3), (7, vI (ilen t3)), (8, vI t9), (9, vB t10)], [], 0⟩
theorem Zi1 (N : Nat) {R : Type} (K : Ex → St → Option R) {t3 : List (Int × Int × Int × Int)} {K0 : Option R} {K1 : Int → Int → Bool → Option R} (h0 : K0 = K .ret (Ziv t3)) (h1 : K1 = fun n8 t9 t10 => K (.exit 0) (Ziw t3 n8 t9 t10)) (n : Nat) (n2 : Int) (t5 : Int) : Zas N t3 K0 K1 n n2 t5 = LM Zdx N 0 100003 n (Zi0 n2 t3 t5) K := by
  subst h0 h1
  induction n generalizing n2 t5 with
  | zero => kernel_rfl
  | succ n ih => rw [Zas]; simp (disch := exact id (by kernel_rfl)) only [ih]; kernel_rfl
theorem Znd : Callable Tryz.prog 117 := callable_of Tryz.func117 (show chkFn Tryz.f117 = true by kernel_rfl)
theorem Zne (N : Nat) (code1 : List (Int × Int × Int × Int)) : DN Zdx N (code1, ()) = Zak N code1 := by
  have h : Zak N code1 = Zak N code1 := rfl
  conv at h => rhs; rw [Zak]
  simp (disch := exact id (by kernel_rfl)) only [Zi1 (R := Unit × (Bool × Unit)) N (CF Zdx N [1, 1, 0, 1, 0])] at h
  exact Eq.trans (by kernel_rfl) h.symm
theorem Znf (N : Nat) : Good Tryz.prog 117 (Zex N) := GF Zdx N Tryz.func117 (ctx_cons (Zh9 N) Zh8 ctx_nil) (by kernel_rfl) (fun d => Zne N d.1)
noncomputable def Zgx (N : Nat) : Sig := Sig.of [.v (.slice (.prod (.int .i64) (.prod (.int .i64) (.prod (.int .i64) (.int .i64))))) false, .v (.int .i64) false] [.v (.int .i64) false] (fun d => Zca N d.1 d.2.1)
noncomputable def Zem : Fn := ⟨Tryz.f118, fun | 3 => [.canon [1, 5, 8, 9, 10, 11]] | 4 => [.canon [1, 5, 6, 7, 8, 9, 10]] | 5 => [.canon [1, 5, 7, 8, 9, 10, 17]] | 6 => [.canon [1, 5, 8, 9, 10]] | 7 => [.canon [1, 5, 8, 9, 10]] | 100003 => [.canon [1, 5, 8, 9, 10]] | _ => [], Zgx, fun N => [(119, Zee N)]⟩
def Zld (i3 : Int) (n4 : Int) (t5 : List (Int × Int × Int × Int)) (t7 : Int) : St := ⟨[(1, vI i3), (5, vI n4), (8, vV (.slice (.prod (.int .i64) (.prod (.int .i64) (.prod (.int .i64) (.int .i64))))) t5), (9, vI (ilen t5)), (10, vI t7)], [], 0⟩
def Zj7 (i3 : Int) (t5 : List (Int × Int × Int × Int)) (n10 : Int) (t11 : Int) (t12 : Bool) : St := ⟨[(1, vI i3), (5, vI n10), (8, vV (.slice (.prod (.int .i64) (.prod (.int .i64) (.prod (.int .i64) (.int .i64))))) t5), (9, vI (ilen t5)), (10, vI t11), (11, vB t12)], [], 0⟩
theorem Zle (N : Nat) {R : Type} (K : Ex → St → Option R) {i3 : Int} {t5 : List (Int × Int × Int × Int)} {K0 : Int → Int → Bool → Option R} (h0 : K0 = fun n10 t11 t12 => K (.exit 0) (Zj7 i3 t5 n10 t11 t12)) (n : Nat) (n4 : Int) (t7 : Int) : Zat N i3 t5 K0 n n4 t7 = LM Zem N 0 100003 n (Zld i3 n4 t5 t7) K := by
  subst h0
  induction n generalizing n4 t7 with
  | zero => kernel_rfl
  | succ n ih => rw [Zat]; simp (disch := exact id (by kernel_rfl)) only [ih]; kernel_rfl
theorem Zpt : Callable Tryz.prog 118 := callable_of Tryz.func118 (show chkFn Tryz.f118 = true by kernel_rfl)
theorem Zpu (N : Nat) (code1 : List (Int × Int × Int × Int)) (i2 : Int) : DN Zem N (code1, i2, ()) = Zca N code1 i2 := by
  have h : Zca N code1 i2 = Zca N code1 i2 := rfl
  conv at h => rhs; rw [Zca]
  simp (disch := exact id (by kernel_rfl)) only [Zle (R := Unit × (Int × Unit)) N (CF Zem N [1, 1, 0, 1, 0])] at h
  exact Eq.trans (by kernel_rfl) h.symm
theorem Zpv (N : Nat) : Good Tryz.prog 118 (Zgx N) := GF Zem N Tryz.func118 (ctx_cons (Zh9 N) Zh8 ctx_nil) (by kernel_rfl) (fun d => Zpu N d.1 d.2.1)
noncomputable def Zhm (N : Nat) : Sig := Sig.of [.v (.slice (.prod (.int .i64) (.prod (.int .i64) (.prod (.int .i64) (.int .i64))))) false] [.v (.bool) false] (fun d => Zb1 N d.1)
noncomputable def Zfi : Fn := ⟨Tryz.f88, fun | 5 => [.canon [0, 3, 14, 15, 16, 17]] | 6 => [.canon [0, 3, 4, 5, 14, 15, 16]] | 7 => [.canon [0, 3, 4, 5, 14, 15, 16, 23]] | 8 => [.canon [2]] | 9 => [.canon [0, 3, 4, 5, 14, 15, 16, 25]] | 10 => [.canon [0, 3, 4, 5, 14, 15, 16, 25, 26]] | 11 => [.canon [0, 3, 14, 15, 16, 48]] | 12 => [.canon [2]] | 13 => [.canon [0, 3, 4, 14, 15, 16, 49]] | 14 => [.canon [0, 3, 4, 14, 15, 16]] | 15 => [.canon [0, 3, 14, 15, 16, 60]] | 16 => [.canon [2]] | 17 => [.canon [0, 3, 14, 15, 16]] | 100005 => [.canon [0, 3, 14, 15, 16]] | _ => [], Zhm, fun N => [(117, Zex N), (116, Zet N), (118, Zgx N)]⟩
def Zng (code3 : List (Int × Int × Int × Int)) (forks4 : Int) (t7 : Int) : St := ⟨[(0, vV (.slice (.prod (.int .i64) (.prod (.int .i64) (.prod (.int .i64) (.int .i64))))) code3), (3, vI forks4), (14, vV (.slice (.prod (.int .i64) (.prod (.int .i64) (.prod (.int .i64) (.int .i64))))) code3), (15, vI (ilen code3)), (16, vI t7)], [], 0⟩
def Zlf (code3 : List (Int × Int × Int × Int)) : St := ⟨[(2, vB false)], [], 0⟩
def Zlg (code3 : List (Int × Int × Int × Int)) (forks14 : Int) (t15 : Int) (t16 : Bool) : St := ⟨[(0, vV (.slice (.prod (.int .i64) (.prod (.int .i64) (.prod (.int .i64) (.int .i64))))) code3), (3, vI forks14), (14, vV (.slice (.prod (.int .i64) (.prod (.int .i64) (.prod (.int .i64) (.int .i64))))) code3), (15, vI (ilen code3)), (16, vI t15), (17, vB t16)], [], 0⟩
theorem Znh (N : Nat) {R : Type} (K : Ex → St → Option R) {code3 : List (Int × Int × Int × Int)} {K0 : Option R} {K1 : Int → Int → Bool → Option R} (h0 : K0 = K .ret (Zlf code3)) (h1 : K1 = fun forks14 t15 t16 => K (.exit 0) (Zlg code3 forks14 t15 t16)) (n : Nat) (forks4 : Int) (t7 : Int) : Zal N code3 K0 K1 n forks4 t7 = LM Zfi N 0 100005 n (Zng code3 forks4 t7) K := by
  subst h0 h1
  induction n generalizing forks4 t7 with
  | zero => kernel_rfl
  | succ n ih => rw [Zal]; simp (disch := exact id (by kernel_rfl)) only [ih]; kernel_rfl
theorem Zq5 : Callable Tryz.prog 88 := callable_of Tryz.func88 (show chkFn Tryz.f88 = true by kernel_rfl)
theorem Zq6 (N : Nat) (code1 : List (Int × Int × Int × Int)) : DN Zfi N (code1, ()) = Zb1 N code1 := by
  have h : Zb1 N code1 = Zb1 N code1 := rfl
  conv at h => rhs; rw [Zb1]
  simp (disch := exact id (by kernel_rfl)) only [Znh (R := Unit × (Bool × Unit)) N (CF Zfi N [1, 1, 1, 0, 1, 0])] at h
  exact Eq.trans (by kernel_rfl) h.symm
theorem Zq7 (N : Nat) : Good Tryz.prog 88 (Zhm N) := GF Zfi N Tryz.func88 (ctx_cons (Znf N) Znd (ctx_cons (Ziq N) Zip (ctx_cons (Zpv N) Zpt ctx_nil))) (by kernel_rfl) (fun d => Zq6 N d.1)
noncomputable def Zef (N : Nat) : Sig := Sig.of [.v (.slice (.prod (.int .i64) (.prod (.int .i64) (.prod (.int .i64) (.int .i64))))) false] [.v (.bool) false] (fun d => Zby N d.1)
noncomputable def Zf5 : Fn := ⟨Tryz.f64, fun | 2 => [.canon [0, 5, 6, 7, 8]] | 3 => [.canon [0, 4, 5, 6, 7]] | 4 => [.canon [0, 5, 6, 7, 18]] | 5 => [.canon [2]] | 6 => [.canon [0, 5, 6, 7]] | 100002 => [.canon [0, 5, 6, 7]] | _ => [], Zef, fun N => [(87, Zgw N), (88, Zhm N)]⟩
def Zoh (code2 : List (Int × Int × Int × Int)) (t5 : Int) : St := ⟨[(0, vV (.slice (.prod (.int .i64) (.prod (.int .i64) (.prod (.int .i64) (.int .i64))))) code2), (5, vV (.slice (.prod (.int .i64) (.prod (.int .i64) (.prod (.int .i64) (.int .i64))))) code2), (6, vI (ilen code2)), (7, vI t5)], [], 0⟩
def Zni (code2 : List (Int × Int × Int × Int)) : St := ⟨[(2, vB false)], [], 0⟩
def Znj (code2 : List (Int × Int × Int × Int)) (t8 : Int) (t9 : Bool) : St := ⟨[(0, vV (.slice (.prod (.int .i64) (.prod (.int .i64) (.prod (.int .i64) (.int .i64))))) code2), (5, vV (.slice (.prod (.int .i64) (.prod (.int .i64) (.prod (.int .i64) (.int .i64))))) code2), (6, vI (ilen code2)), (7, vI t8), (8, vB t9)], [], 0⟩
theorem Zoi (N : Nat) {R : Type} (K : Ex → St → Option R) {code2 : List (Int × Int × Int × Int)} {K0 : Option R} {K1 : Int → Bool → Option R} (h0 : K0 = K .ret (Zni code2)) (h1 : K1 = fun t8 t9 => K (.exit 0) (Znj code2 t8 t9)) (n : Nat) (t5 : Int) : Zb4 N code2 K0 K1 n t5 = LM Zf5 N 0 100002 n (Zoh code2 t5) K := by
  subst h0 h1
  induction n generalizing t5 with
  | zero => kernel_rfl
  | succ n ih => rw [Zb4]; simp (disch := exact id (by kernel_rfl)) only [ih]; kernel_rfl
theorem Zia : Callable Tryz.prog 64 := callable_of Tryz.func64 (show chkFn Tryz.f64 = true by kernel_rfl)
theorem Zsj (N : Nat) (code1 : List (Int × Int × Int × Int)) : DN Zf5 N (code1, ()) = Zby N code1 := by
  have h : Zby N code1 = Zby N code1 := rfl
  conv at h => rhs; rw [Zby]
  simp (disch := exact id (by kernel_rfl)) only [Zoi (R := Unit × (Bool × Unit)) N (CF Zf5 N [1, 0, 1, 0])] at h
  exact Eq.trans (by kernel_rfl) h.symm
theorem Zib (N : Nat) : Good Tryz.prog 64 (Zef N) := GF Zf5 N Tryz.func64 (ctx_cons (Zps N) Zpr (ctx_cons (Zq7 N) Zq5 ctx_nil)) (by kernel_rfl) (fun d => Zsj N d.1)
noncomputable def Zga (N : Nat) : Sig := Sig.of [.v (.slice (.prod (.int .i64) (.prod (.int .i64) (.prod (.int .i64) (.int .i64))))) true] [.v (.bool) false] (fun d => Zha N d.1)
noncomputable def Zo2 : Fn := ⟨Tryz.f63, noAnn, Zga, fun N => [(64, Zef N)]⟩
theorem Zo3 : Callable Tryz.prog 63 := callable_of Tryz.func63 (show chkFn Tryz.f63 = true by kernel_rfl)
theorem Zo4 (N : Nat) : Good Tryz.prog 63 (Zga N) := GF Zo2 N Tryz.func63 (ctx_cons (Zib N) Zia ctx_nil) (by kernel_rfl) (fun d => by kernel_rfl)
noncomputable def Z1 (N : Nat) : Sig := Sig.of [.v (.slice (.slice (.prod (.int .i64) (.prod (.int .i64) (.prod (.int .i64) (.int .i64)))))) false, .clos 63 0] [.v (.int .i64) false] (fun d => Zj N d.1)
noncomputable def Zw : Fn := ⟨Tryz.f86, fun | 2 => [.canon [0, 1, 7, 8, 9]] | 3 => [.canon [0, 1, 5, 7, 8]] | 4 => [.canon [0, 1, 5, 7, 8, 16]] | 5 => [.canon [1, 4]] | 6 => [.canon [0, 1, 7, 8]] | 100002 => [.canon [0, 1, 7, 8]] | _ => [], Z1, fun N => [(63, Zga N)]⟩
def Zcp (s2 : List (List (Int × Int × Int × Int))) (t4 : Int) : St := ⟨[(0, vV (.slice (.slice (.prod (.int .i64) (.prod (.int .i64) (.prod (.int .i64) (.int .i64)))))) s2), (1, .s (.one (.clos 63 []))), (7, vI (ilen s2)), (8, vI t4)], [], 0⟩
def Zcl (s2 : List (List (Int × Int × Int × Int))) (t7 : Int) : St := ⟨[(1, .s (.one (.clos 63 []))), (4, vI t7)], [], 0⟩
def Zcm (s2 : List (List (Int × Int × Int × Int))) (t8 : Int) (t9 : Bool) : St := ⟨[(0, vV (.slice (.slice (.prod (.int .i64) (.prod (.int .i64) (.prod (.int .i64) (.int .i64)))))) s2), (1, .s (.one (.clos 63 []))), (7, vI (ilen s2)), (8, vI t8), (9, vB t9)], [], 0⟩
theorem Zcq (N : Nat) {R : Type} (K : Ex → St → Option R) {s2 : List (List (Int × Int × Int × Int))} {K0 : Int → Option R} {K1 : Int → Bool → Option R} (h0 : K0 = fun t7 => K .ret (Zcl s2 t7)) (h1 : K1 = fun t8 t9 => K (.exit 0) (Zcm s2 t8 t9)) (n : Nat) (t4 : Int) : Zh N s2 K0 K1 n t4 = LM Zw N 0 100002 n (Zcp s2 t4) K := by
  subst h0 h1
  induction n generalizing t4 with
  | zero => kernel_rfl
  | succ n ih => rw [Zh]; simp (disch := exact id (by kernel_rfl)) only [ih]; kernel_rfl
theorem Zdc : Callable Tryz.prog 86 := callable_of Tryz.func86 (show chkFn Tryz.f86 = true by kernel_rfl)
theorem Zdd (N : Nat) (s1 : List (List (Int × Int × Int × Int))) : DN Zw N (s1, ()) = Zj N s1 := by
  have h : Zj N s1 = Zj N s1 := rfl
  conv at h => rhs; rw [Zj]
  simp (disch := exact id (by kernel_rfl)) only [Zcq (R := Unit × (Int × Unit)) N (CF Zw N [1, 0, 1, 0])] at h
  exact Eq.trans (by kernel_rfl) h.symm
theorem Zde (N : Nat) : Good Tryz.prog 86 (Z1 N) := GF Zw N Tryz.func86 (ctx_cons (Zo4 N) Zo3 ctx_nil) (by kernel_rfl) (fun d => Zdd N d.1)
noncomputable def Zz (N : Nat) : Sig := Sig.of [.v (.slice (.slice (.prod (.int .i64) (.prod (.int .i64) (.prod (.int .i64) (.int .i64)))))) false, .clos 63 0] [.v (.bool) false] (fun d => Zu N d.1)
noncomputable def Zcs : Fn := ⟨Tryz.f62, noAnn, Zz, fun N => [(86, Z1 N)]⟩
theorem Zct : Callable Tryz.prog 62 := callable_of Tryz.func62 (show chkFn Tryz.f62 = true by kernel_rfl)
theorem Zcu (N : Nat) : Good Tryz.prog 62 (Zz N) := GF Zcs N Tryz.func62 (ctx_cons (Zde N) Zdc ctx_nil) (by kernel_rfl) (fun d => by kernel_rfl)
noncomputable def Zfj (N : Nat) : Sig := Sig.of [.v (.slice (.slice (.prod (.int .i64) (.prod (.int .i64) (.prod (.int .i64) (.int .i64)))))) false, .v (.slice (.int .i64)) false, .v (.slice (.int .i64)) false] [.v (.bool) false] (fun d => Zer N d.1 d.2.1 d.2.2.1)
noncomputable def Zq8 : Fn := ⟨Tryz.f33, noAnn, Zfj, fun N => [(61, Zau N), (62, Zz N)]⟩
theorem Zjl : Callable Tryz.prog 33 := callable_of Tryz.func33 (show chkFn Tryz.f33 = true by kernel_rfl)
theorem Zjm (N : Nat) : Good Tryz.prog 33 (Zfj N) := GF Zq8 N Tryz.func33 (ctx_cons (Zcf N) Zce (ctx_cons (Zcu N) Zct ctx_nil)) (by kernel_rfl) (fun d => by kernel_rfl)
noncomputable def Zd3 (N : Nat) : Sig := Sig.of [.v (.slice (.prod (.int .i64) (.int .i64))) false] [.v (.bool) false] (fun d => Zaz N d.1)
noncomputable def Zfk : Fn := ⟨Tryz.f44, fun | 2 => [.canon [0, 5, 6, 7, 8]] | 3 => [.canon [0, 4, 5, 6, 7]] | 4 => [.canon [0, 5, 6, 7, 20]] | 5 => [.canon [2]] | 6 => [.canon [0, 5, 6, 7]] | 100002 => [.canon [0, 5, 6, 7]] | _ => [], Zd3, fun N => [(73, Zfh N), (74, Zdv N)]⟩
def Znk (l2 : List (Int × Int)) (t5 : Int) : St := ⟨[(0, vV (.slice (.prod (.int .i64) (.int .i64))) l2), (5, vV (.slice (.prod (.int .i64) (.int .i64))) l2), (6, vI (ilen l2)), (7, vI t5)], [], 0⟩
def Zlh (l2 : List (Int × Int)) : St := ⟨[(2, vB false)], [], 0⟩
def Zli (l2 : List (Int × Int)) (t10 : Int) (t11 : Bool) : St := ⟨[(0, vV (.slice (.prod (.int .i64) (.int .i64))) l2), (5, vV (.slice (.prod (.int .i64) (.int .i64))) l2), (6, vI (ilen l2)), (7, vI t10), (8, vB t11)], [], 0⟩
theorem Znl (N : Nat) {R : Type} (K : Ex → St → Option R) {l2 : List (Int × Int)} {K0 : Option R} {K1 : Int → Bool → Option R} (h0 : K0 = K .ret (Zlh l2)) (h1 : K1 = fun t10 t11 => K (.exit 0) (Zli l2 t10 t11)) (n : Nat) (t5 : Int) : Zbi N l2 K0 K1 n t5 = LM Zfk N 0 100002 n (Znk l2 t5) K := by
  subst h0 h1
  induction n generalizing t5 with
  | zero => kernel_rfl
  | succ n ih => rw [Zbi]; simp (disch := exact id (by kernel_rfl)) only [ih]; kernel_rfl
theorem Zhn : Callable Tryz.prog 44 := callable_of Tryz.func44 (show chkFn Tryz.f44 = true by kernel_rfl)
theorem Zq9 (N : Nat) (l1 : List (Int × Int)) : DN Zfk N (l1, ()) = Zaz N l1 := by
  have h : Zaz N l1 = Zaz N l1 := rfl
  conv at h => rhs; rw [Zaz]
  simp (disch := exact id (by kernel_rfl)) only [Znl (R := Unit × (Bool × Unit)) N (CF Zfk N [1, 0, 1, 0])] at h
  exact Eq.trans (by kernel_rfl) h.symm
theorem Zho (N : Nat) : Good Tryz.prog 44 (Zd3 N) := GF Zfk N Tryz.func44 (ctx_cons (Zjk N) Zjj (ctx_cons (Zgv N) Zgu ctx_nil)) (by kernel_rfl) (fun d => Zq9 N d.1)
noncomputable def Z9 (N : Nat) : Sig := Sig.of [.v (.slice (.int .i64)) false] [.v (.own (.int .i64)) false] (fun d => Zg N d.1)
noncomputable def Zo5 : Fn := ⟨Tryz.f37, noAnn, Z9, noCtx⟩
theorem Zam : Callable Tryz.prog 37 := callable_of Tryz.func37 (show chkFn Tryz.f37 = true by kernel_rfl)
theorem Zan (N : Nat) : Good Tryz.prog 37 (Z9 N) := GF Zo5 N Tryz.func37 ctx_nil (by kernel_rfl) (fun d => by kernel_rfl)
noncomputable def Zgy (N : Nat) : Sig := Sig.of [.v (.slice (.int .i64)) false, .v (.slice (.prod (.int .i64) (.int .i64))) false] [.v (.own (.int .i64)) false] (fun d => Zcb N d.1 d.2.1)
noncomputable def Zen : Fn := ⟨Tryz.f45, fun | 5 => [.canon [5, 18, 19, 20, 21]] | 6 => [.canon [5, 7, 18, 19, 20]] | 7 => [.canon [5, 18, 19, 20]] | 8 => [.canon [5, 18, 19, 20]] | 100005 => [.canon [5, 18, 19, 20]] | _ => [], Zgy, fun N => [(61, Zau N), (44, Zd3 N), (37, Z9 N)]⟩
def Zlj (t6 : List (Int × Int)) (t8 : Int) (l9 : List Int) : St := ⟨[(5, vO 0), (18, vV (.slice (.prod (.int .i64) (.int .i64))) t6), (19, vI (ilen t6)), (20, vI t8)], [(0, .arr (.int .i64) l9)], 1⟩
def Zj8 (t6 : List (Int × Int)) (t10 : Int) (t11 : Bool) (l12 : List Int) : St := ⟨[(5, vO 0), (18, vV (.slice (.prod (.int .i64) (.int .i64))) t6), (19, vI (ilen t6)), (20, vI t10), (21, vB t11)], [(0, .arr (.int .i64) l12)], 1⟩
theorem Zlk (N : Nat) {R : Type} (K : Ex → St → Option R) {t6 : List (Int × Int)} {K0 : Int → Bool → (List Int) → Option R} (h0 : K0 = fun t10 t11 l12 => K (.exit 0) (Zj8 t6 t10 t11 l12)) (n : Nat) (t8 : Int) (l9 : List Int) : Za8 N t6 K0 n t8 l9 = LM Zen N 0 100005 n (Zlj t6 t8 l9) K := by
  subst h0
  induction n generalizing t8 l9 with
  | zero => kernel_rfl
  | succ n ih => rw [Za8]; simp (disch := exact id (by kernel_rfl)) only [ih]; kernel_rfl
theorem Zpw : Callable Tryz.prog 45 := callable_of Tryz.func45 (show chkFn Tryz.f45 = true by kernel_rfl)
theorem Zpx (N : Nat) (cells1 : List Int) (l2 : List (Int × Int)) : DN Zen N (cells1, l2, ()) = Zcb N cells1 l2 := by
  have h : Zcb N cells1 l2 = Zcb N cells1 l2 := rfl
  conv at h => rhs; rw [Zcb]
  simp (disch := exact id (by kernel_rfl)) only [Zlk (R := Unit × ((List Int) × Unit)) N (CF Zen N [1, 1, 1, 0, 1, 0])] at h
  exact Eq.trans (by kernel_rfl) h.symm
theorem Zpy (N : Nat) : Good Tryz.prog 45 (Zgy N) := GF Zen N Tryz.func45 (ctx_cons (Zcf N) Zce (ctx_cons (Zho N) Zhn (ctx_cons (Zan N) Zam ctx_nil))) (by kernel_rfl) (fun d => Zpx N d.1 d.2.1)
noncomputable def Zey (N : Nat) : Sig := Sig.of [.v (.prod (.slice (.int .i64)) (.prod (.slice (.int .i64)) (.int .i64))) true] [.v (.prod (.own (.int .i64)) (.prod (.own (.int .i64)) (.int .i64))) true] (fun d => Z2 N d.1)
noncomputable def Znm : Fn := ⟨Tryz.f89, noAnn, Zey, fun N => [(37, Z9 N)]⟩
theorem Znn : Callable Tryz.prog 89 := callable_of Tryz.func89 (show chkFn Tryz.f89 = true by kernel_rfl)
theorem Zno (N : Nat) : Good Tryz.prog 89 (Zey N) := GF Znm N Tryz.func89 (ctx_cons (Zan N) Zam ctx_nil) (by kernel_rfl) (fun d => by kernel_rfl)
noncomputable def Zgp (N : Nat) : Sig := Sig.of [.v (.prod (.int .i64) (.prod (.int .i64) (.prod (.int .i64) (.int .i64)))) true, .v (.slice (.int .i64)) false] [.v (.own (.int .i64)) false, .v (.bool) false] (fun d => Zdr N d.1 d.2.1)
noncomputable def Zs7 : Fn := ⟨Tryz.f90, noAnn, Zgp, fun N => [(37, Z9 N), (116, Zet N), (61, Zau N)]⟩
theorem Zl8 : Callable Tryz.prog 90 := callable_of Tryz.func90 (show chkFn Tryz.f90 = true by kernel_rfl)
theorem Zl9 (N : Nat) : Good Tryz.prog 90 (Zgp N) := GF Zs7 N Tryz.func90 (ctx_cons (Zan N) Zam (ctx_cons (Ziq N) Zip (ctx_cons (Zcf N) Zce ctx_nil))) (by kernel_rfl) (fun d => by kernel_rfl)
noncomputable def Zf6 (N : Nat) : Sig := Sig.of [.v (.slice (.prod (.int .i64) (.prod (.int .i64) (.prod (.int .i64) (.int .i64))))) false, .v (.int .i64) false] [.v (.int .i64) false] (fun d => Za0 N d.1 d.2.1)
noncomputable def Zf7 : Fn := ⟨Tryz.f91, fun | 5 => [.canon [0, 5, 6, 25]] | 6 => [.canon [0, 5, 6]] | 7 => [.canon [0, 5, 6]] | 8 => [.canon [0, 5, 6, 36]] | 9 => [.canon [4]] | 100005 => [.canon [0, 5, 6]] | _ => [], Zf6, fun N => [(110, Zbw N), (119, Zee N)]⟩
def Zoj (code4 : List (Int × Int × Int × Int)) (n5 : Int) (k6 : Int) : St := ⟨[(0, vV (.slice (.prod (.int .i64) (.prod (.int .i64) (.prod (.int .i64) (.int .i64))))) code4), (5, vI n5), (6, vI k6)], [], 0⟩
def Znp (code4 : List (Int × Int × Int × Int)) (t8 : Int) : St := ⟨[(4, vI t8)], [], 0⟩
def Znq (code4 : List (Int × Int × Int × Int)) (n9 : Int) (k10 : Int) (t11 : Bool) : St := ⟨[(0, vV (.slice (.prod (.int .i64) (.prod (.int .i64) (.prod (.int .i64) (.int .i64))))) code4), (5, vI n9), (6, vI k10), (25, vB t11)], [], 0⟩
theorem Zok (N : Nat) {R : Type} (K : Ex → St → Option R) {code4 : List (Int × Int × Int × Int)} {K0 : Int → Option R} {K1 : Int → Int → Bool → Option R} (h0 : K0 = fun t8 => K .ret (Znp code4 t8)) (h1 : K1 = fun n9 k10 t11 => K (.exit 0) (Znq code4 n9 k10 t11)) (n : Nat) (n5 : Int) (k6 : Int) : Zb6 N code4 K0 K1 n n5 k6 = LM Zf7 N 0 100005 n (Zoj code4 n5 k6) K := by
  subst h0 h1
  induction n generalizing n5 k6 with
  | zero => kernel_rfl
  | succ n ih => rw [Zb6]; simp (disch := exact id (by kernel_rfl)) only [ih]; kernel_rfl
theorem Zj9 : Callable Tryz.prog 91 := callable_of Tryz.func91 (show chkFn Tryz.f91 = true by kernel_rfl)
theorem Zsk (N : Nat) (code1 : List (Int × Int × Int × Int)) (i2 : Int) : DN Zf7 N (code1, i2, ()) = Za0 N code1 i2 := by
  have h : Za0 N code1 i2 = Za0 N code1 i2 := rfl
  conv at h => rhs; rw [Za0]
  simp (disch := exact id (by kernel_rfl)) only [Zok (R := Unit × (Int × Unit)) N (CF Zf7 N [1, 1, 1, 0, 1, 0])] at h
  exact Eq.trans (by kernel_rfl) h.symm
theorem Zka (N : Nat) : Good Tryz.prog 91 (Zf6 N) := GF Zf7 N Tryz.func91 (ctx_cons (Zdn N) Zdm (ctx_cons (Zh9 N) Zh8 ctx_nil)) (by kernel_rfl) (fun d => Zsk N d.1 d.2.1)
noncomputable def Zdj (N : Nat) : Sig := Sig.of [.v (.slice (.int .i64)) false, .v (.int .i64) false] [.v (.int .i64) false] (fun d => Zaj N d.1 d.2.1)
noncomputable def Zbx : Fn := ⟨Tryz.f133, fun | 2 => [.canon [0, 1, 7, 8, 9]] | 3 => [.canon [0, 1, 5, 7, 8]] | 4 => [.canon [0, 1, 5, 7, 8, 16]] | 5 => [.canon [4]] | 6 => [.canon [0, 1, 7, 8]] | 100002 => [.canon [0, 1, 7, 8]] | _ => [], Zdj, noCtx⟩
def Zg2 (s3 : List Int) (v4 : Int) (t6 : Int) : St := ⟨[(0, vV (.slice (.int .i64)) s3), (1, vI v4), (7, vI (ilen s3)), (8, vI t6)], [], 0⟩
def Zgz (s3 : List Int) (v4 : Int) (t7 : Int) : St := ⟨[(4, vI t7)], [], 0⟩
def Zg0 (s3 : List Int) (v4 : Int) (t8 : Int) (t9 : Bool) : St := ⟨[(0, vV (.slice (.int .i64)) s3), (1, vI v4), (7, vI (ilen s3)), (8, vI t8), (9, vB t9)], [], 0⟩
theorem Zg3 (N : Nat) {R : Type} (K : Ex → St → Option R) {s3 : List Int} {v4 : Int} {K0 : Int → Option R} {K1 : Int → Bool → Option R} (h0 : K0 = fun t7 => K .ret (Zgz s3 v4 t7)) (h1 : K1 = fun t8 t9 => K (.exit 0) (Zg0 s3 v4 t8 t9)) (n : Nat) (t6 : Int) : Za4 N s3 v4 K0 K1 n t6 = LM Zbx N 0 100002 n (Zg2 s3 v4 t6) K := by
  subst h0 h1
  induction n generalizing t6 with
  | zero => kernel_rfl
  | succ n ih => rw [Za4]; simp (disch := exact id (by kernel_rfl)) only [ih]; kernel_rfl
theorem Zij : Callable Tryz.prog 133 := callable_of Tryz.func133 (show chkFn Tryz.f133 = true by kernel_rfl)
theorem Zik (N : Nat) (s1 : List Int) (v2 : Int) : DN Zbx N (s1, v2, ()) = Zaj N s1 v2 := by
  have h : Zaj N s1 v2 = Zaj N s1 v2 := rfl
  conv at h => rhs; rw [Zaj]
  simp (disch := exact id (by kernel_rfl)) only [Zg3 (R := Unit × (Int × Unit)) N (CF Zbx N [1, 0, 1, 0])] at h
  exact Eq.trans (by kernel_rfl) h.symm
theorem Zil (N : Nat) : Good Tryz.prog 133 (Zdj N) := GF Zbx N Tryz.func133 ctx_nil (by kernel_rfl) (fun d => Zik N d.1 d.2.1)
noncomputable def Zcr (N : Nat) : Sig := Sig.of [.v (.slice (.int .i64)) false, .v (.int .i64) false] [.v (.bool) false] (fun d => Zea N d.1 d.2.1)
noncomputable def Zhp : Fn := ⟨Tryz.f120, noAnn, Zcr, fun N => [(133, Zdj N)]⟩
theorem Zhq : Callable Tryz.prog 120 := callable_of Tryz.func120 (show chkFn Tryz.f120 = true by kernel_rfl)
theorem Zhr (N : Nat) : Good Tryz.prog 120 (Zcr N) := GF Zhp N Tryz.func120 (ctx_cons (Zil N) Zij ctx_nil) (by kernel_rfl) (fun d => by kernel_rfl)
noncomputable def Zfu (N : Nat) : Sig := Sig.of [.v (.slice (.int .i64)) false, .v (.int .i64) false] [.v (.own (.int .i64)) false] (fun d => Zaw N d.1 d.2.1)
noncomputable def Zd4 : Fn := ⟨Tryz.f92, fun | 3 => [.canon [0, 5, 9, 10, 11]] | 4 => [.canon [0, 5, 6, 9, 10]] | 5 => [.canon [0, 5, 6, 9, 10, 16]] | 6 => [.canon [0, 5, 9, 10]] | 7 => [.canon [0, 5, 9, 10]] | 100003 => [.canon [0, 5, 9, 10]] | _ => [], Zfu, fun N => [(37, Z9 N), (120, Zcr N)]⟩
def Zjr (order4 : List Int) (t5 : Int) (t6 : Int) (l7 : List Int) : St := ⟨[(0, vV (.slice (.int .i64)) order4), (5, vO 0), (9, vI t5), (10, vI t6)], [(0, .arr (.int .i64) l7)], 1⟩
def Zi2 (order4 : List Int) (t5 : Int) (t9 : Int) (t10 : Bool) (l11 : List Int) : St := ⟨[(0, vV (.slice (.int .i64)) order4), (5, vO 0), (9, vI t5), (10, vI t9), (11, vB t10)], [(0, .arr (.int .i64) l11)], 1⟩
theorem Zjs (N : Nat) {R : Type} (K : Ex → St → Option R) {order4 : List Int} {t5 : Int} {K0 : Int → Bool → (List Int) → Option R} (h0 : K0 = fun t9 t10 l11 => K (.exit 0) (Zi2 order4 t5 t9 t10 l11)) (n : Nat) (t6 : Int) (l7 : List Int) : Zcn N order4 t5 K0 n t6 l7 = LM Zd4 N 0 100003 n (Zjr order4 t5 t6 l7) K := by
  subst h0
  induction n generalizing t6 l7 with
  | zero => kernel_rfl
  | succ n ih => rw [Zcn]; simp (disch := exact id (by kernel_rfl)) only [ih]; kernel_rfl
theorem Zol : Callable Tryz.prog 92 := callable_of Tryz.func92 (show chkFn Tryz.f92 = true by kernel_rfl)
theorem Zom (N : Nat) (order1 : List Int) (kids2 : Int) : DN Zd4 N (order1, kids2, ()) = Zaw N order1 kids2 := by
  have h : Zaw N order1 kids2 = Zaw N order1 kids2 := rfl
  conv at h => rhs; rw [Zaw]
  simp (disch := exact id (by kernel_rfl)) only [Zjs (R := Unit × ((List Int) × Unit)) N (CF Zd4 N [1, 1, 0, 1, 0])] at h
  exact Eq.trans (by kernel_rfl) h.symm
theorem Zon (N : Nat) : Good Tryz.prog 92 (Zfu N) := GF Zd4 N Tryz.func92 (ctx_cons (Zan N) Zam (ctx_cons (Zhr N) Zhq ctx_nil)) (by kernel_rfl) (fun d => Zom N d.1 d.2.1)
noncomputable def Zic (N : Nat) : Sig := Sig.of [.v (.prod (.int .i64) (.prod (.int .i64) (.prod (.int .i64) (.int .i64)))) true, .mut (.int .i64), .box (.prod (.own (.int .i64)) (.prod (.own (.int .i64)) (.int .i64)))] [] (fun d => Zdu N d.1 d.2.1 d.2.2.1)
noncomputable def Zsl : Fn := ⟨Tryz.f93, noAnn, Zic, noCtx⟩
theorem Zsm : Callable Tryz.prog 93 := callable_of Tryz.func93 (show chkFn Tryz.f93 = true by kernel_rfl)
theorem Zsn (N : Nat) : Good Tryz.prog 93 (Zic N) := GF Zsl N Tryz.func93 ctx_nil (by kernel_rfl) (fun d => by kernel_rfl)
noncomputable def Zeo (N m : Nat) : Sig := Sig.of [.v (.slice (.prod (.int .i64) (.prod (.int .i64) (.prod (.int .i64) (.int .i64))))) false, .v (.slice (.slice (.prod (.int .i64) (.prod (.int .i64) (.prod (.int .i64) (.int .i64)))))) false, .v (.slice (.int .i64)) false, .v (.slice (.int .i64)) false, .v (.prod (.slice (.int .i64)) (.prod (.slice (.int .i64)) (.int .i64))) true] [.v (.prod (.int .i64) (.prod (.own (.int .i64)) (.prod (.own (.int .i64)) (.prod (.own (.int .i64)) (.int .i64))))) true] (fun d => Zab N m d.1 d.2.1 d.2.2.1 d.2.2.2.1 d.2.2.2.2.1)
noncomputable def Zjn (N : Nat) : Sig := Zeo N N
noncomputable def Zdo (m : Nat) : Fn := ⟨Tryz.f65, fun | 3 => [.empt 25 (.prod (.int .i64) (.prod (.own (.int .i64)) (.prod (.own (.int .i64)) (.prod (.own (.int .i64)) (.int .i64)))))] | 5 => [.canon [0, 1, 2, 3, 9, 10, 11, 12, 13, 29]] | 6 => [.canon [0, 1, 2, 3, 9, 10, 11, 12, 13]] | 7 => [.canon [0, 1, 2, 3, 9, 10, 11, 12, 13, 14]] | 8 => [.canon [0, 1, 2, 3, 9, 10, 11, 12, 13, 14, 37]] | 9 => [.canon [0, 1, 2, 3, 9, 10, 11, 12, 13]] | 10 => [.canon [0, 1, 2, 3, 9, 10, 11, 12, 13, 14, 37, 41]] | 11 => [.canon [0, 1, 2, 3, 9, 10, 11, 12, 13, 14, 37, 41]] | 12 => [.canon [0, 1, 2, 3, 9, 10, 11, 12, 13, 14, 37, 41]] | 13 => [.canon [0, 1, 2, 3, 9, 10, 11, 12, 13, 14, 37, 41]] | 14 => [.canon [0, 1, 2, 3, 9, 10, 11, 12, 13]] | 15 => [.canon [0, 1, 2, 3, 9, 10, 11, 12, 13, 14, 37, 52]] | 16 => [.canon [0, 1, 2, 3, 9, 10, 11, 12, 13, 14, 59]] | 17 => [.canon [0, 1, 2, 3, 9, 10, 11, 12, 13]] | 18 => [.canon [0, 1, 2, 3, 9, 10, 11, 12, 13, 14, 37, 64]] | 19 => [.nest 73 (.prod (.int .i64) (.prod (.own (.int .i64)) (.prod (.own (.int .i64)) (.prod (.own (.int .i64)) (.int .i64))))), .canon [0, 1, 2, 3, 9, 10, 11, 12, 13]] | 20 => [.canon [0, 1, 2, 3, 9, 10, 11, 12, 13, 14, 37, 75]] | 21 => [.opn 81, .canon [0, 1, 2, 3, 9, 10, 11, 12, 13, 15]] | 22 => [.canon [0, 1, 2, 3, 9, 10, 11, 12, 13, 15]] | 23 => [.canon [0, 1, 2, 3, 9, 10, 11, 12, 13]] | 24 => [.canon [0, 1, 2, 3, 9, 10, 11, 12, 13, 14, 37, 96]] | 25 => [.canon [0, 1, 2, 3, 9, 10, 11, 12, 100]] | 26 => [.canon [10]] | 27 => [.opn 109, .canon [0, 1, 2, 9, 10, 11, 12, 16]] | 28 => [.canon [0, 1, 2, 9, 10, 11, 12, 16]] | 29 => [.canon [0, 1, 2, 3, 9, 10, 11, 12, 16]] | 30 => [.canon [0, 1, 2, 3, 9, 10, 11, 12, 16]] | 31 => [.canon [0, 1, 2, 3, 9, 10, 11, 12, 13]] | 32 => [.canon [0, 1, 2, 3, 9, 10, 11, 12, 13, 14, 132]] | 33 => [.canon [0, 1, 2, 3, 9, 10, 11, 12, 13, 17]] | 34 => [.canon [0, 1, 2, 3, 9, 10, 11, 12, 13, 17, 139, 140, 141]] | 35 => [.canon [0, 1, 2, 3, 9, 10, 11, 12, 13, 17, 139, 140, 141, 142]] | 36 => [.canon [0, 1, 2, 3, 9, 10, 11, 12, 13, 17, 19, 139, 140, 141]] | 37 => [.canon [0, 1, 2, 3, 9, 10, 11, 12, 13, 17, 19, 20, 139, 140, 141]] | 38 => [.canon [0, 1, 2, 3, 9, 10, 11, 12, 13, 17, 19, 20, 139, 140, 141]] | 39 => [.canon [0, 1, 2, 3, 9, 10, 11, 12, 13, 17, 19, 20, 139, 140, 141]] | 40 => [.canon [0, 1, 2, 3, 9, 10, 11, 12, 13, 17, 19, 20, 139, 140, 141, 165]] | 41 => [.canon [0, 1, 2, 3, 9, 10, 11, 12, 13, 17, 139, 140, 141]] | 42 => [.canon [0, 1, 2, 3, 9, 10, 11, 12, 13, 17, 139, 140, 141]] | 100005 => [.canon [0, 1, 2, 3, 9, 10, 11, 12, 13]] | 100035 => [.canon [0, 1, 2, 3, 9, 10, 11, 12, 13, 17, 139, 140, 141]] | _ => [], fun N => Zeo N (m + 1), fun N => [(37, Z9 N), (89, Zey N), (90, Zgp N), (91, Zf6 N), (92, Zfu N), (65, Zeo N m), (93, Zic N)]⟩
def Znr (code27 : List (Int × Int × Int × Int)) (kids28 : List (List (Int × Int × Int × Int))) (order29 : List Int) (i30 : Int) (t31 : Int) (t32 : Int) (l33 : List Int) (b34 : List Int × List Int × Int) (b35 : Int) (b36 : Int) (b37 : Int) (l38 : List (Int × List Int × List Int × List Int × Int)) (l39 : List Int) (l40 : List Int) (l41 : List Int) (l42 : List Int) : St := ⟨[(0, vV (.slice (.prod (.int .i64) (.prod (.int .i64) (.prod (.int .i64) (.int .i64))))) code27), (1, vV (.slice (.slice (.prod (.int .i64) (.prod (.int .i64) (.prod (.int .i64) (.int .i64)))))) kids28), (2, vV (.slice (.int .i64)) order29), (3, vO 0), (9, vP 1 0), (10, vP 2 0), (11, vP 3 0), (12, vO 4), (13, vI i30), (17, vO 5), (139, vO 6), (140, vI t31), (141, vI t32)], [(0, .arr (.int .i64) l33), (1, .box [.val (.slice (.int .i64)) b34.1, .val (.slice (.int .i64)) b34.2.1, .val (.int .i64) b34.2.2]), (2, .box [.val (.int .i64) b35, .nils, .nils, .nils, .val (.int .i64) b36]), (3, .box [.own 7, .own 8, .val (.int .i64) b37]), (4, .arr (.prod (.int .i64) (.prod (.own (.int .i64)) (.prod (.own (.int .i64)) (.prod (.own (.int .i64)) (.int .i64))))) l38), (5, .arr (.int .i64) l39), (6, .arr (.int .i64) l40), (7, .arr (.int .i64) l41), (8, .arr (.int .i64) l42)], 9⟩
def Zll (code27 : List (Int × Int × Int × Int)) (kids28 : List (List (Int × Int × Int × Int))) (order29 : List Int) (i30 : Int) (t31 : Int) (b34 : List Int × List Int × Int) (b35 : Int) (b36 : Int) (b37 : Int) (l38 : List (Int × List Int × List Int × List Int × Int)) (l39 : List Int) (l40 : List Int) (l42 : List Int) (t49 : Int) (t50 : Bool) (l51 : List Int) (l52 : List Int) : St := ⟨[(0, vV (.slice (.prod (.int .i64) (.prod (.int .i64) (.prod (.int .i64) (.int .i64))))) code27), (1, vV (.slice (.slice (.prod (.int .i64) (.prod (.int .i64) (.prod (.int .i64) (.int .i64)))))) kids28), (2, vV (.slice (.int .i64)) order29), (3, vO 0), (9, vP 1 0), (10, vP 2 0), (11, vP 3 0), (12, vO 4), (13, vI i30), (17, vO 5), (139, vO 6), (140, vI t31), (141, vI t49), (142, vB t50)], [(0, .arr (.int .i64) l51), (1, .box [.val (.slice (.int .i64)) b34.1, .val (.slice (.int .i64)) b34.2.1, .val (.int .i64) b34.2.2]), (2, .box [.val (.int .i64) b35, .nils, .nils, .nils, .val (.int .i64) b36]), (3, .box [.own 7, .own 8, .val (.int .i64) b37]), (4, .arr (.prod (.int .i64) (.prod (.own (.int .i64)) (.prod (.own (.int .i64)) (.prod (.own (.int .i64)) (.int .i64))))) l38), (5, .arr (.int .i64) l39), (6, .arr (.int .i64) l40), (7, .arr (.int .i64) l52), (8, .arr (.int .i64) l42)], 9⟩
theorem Zns (N m : Nat) {R : Type} (K : Ex → St → Option R) {code27 : List (Int × Int × Int × Int)} {kids28 : List (List (Int × Int × Int × Int))} {order29 : List Int} {i30 : Int} {t31 : Int} {b34 : List Int × List Int × Int} {b35 : Int} {b36 : Int} {b37 : Int} {l38 : List (Int × List Int × List Int × List Int × Int)} {l39 : List Int} {l40 : List Int} {l42 : List Int} {K0 : Int → Bool → (List Int) → (List Int) → Option R} (h0 : K0 = fun t49 t50 l51 l52 => K (.exit 3) (Zll code27 kids28 order29 i30 t31 b34 b35 b36 b37 l38 l39 l40 l42 t49 t50 l51 l52)) (n : Nat) (t32 : Int) (l33 : List Int) (l41 : List Int) : Z3 N (Zab N m) code27 kids28 order29 i30 t31 b34 b35 b36 b37 l38 l39 l40 l42 K0 n t32 l33 l41 = LM (Zdo m) N 1 100035 n (Znr code27 kids28 order29 i30 t31 t32 l33 b34 b35 b36 b37 l38 l39 l40 l41 l42) K := by
  subst h0
  induction n generalizing t32 l33 l41 with
  | zero => kernel_rfl
  | succ n ih => rw [Z3]; simp (disch := exact id (by kernel_rfl)) only [ih]; kernel_rfl
def Znt (code8 : List (Int × Int × Int × Int)) (kids9 : List (List (Int × Int × Int × Int))) (order10 : List Int) (i11 : Int) (l12 : List Int) (b13 : List Int × List Int × Int) (b16 : Int) (l17 : List (Int × List Int × List Int × List Int × Int)) (l18 : List Int) (l19 : List Int) : St := ⟨[(0, vV (.slice (.prod (.int .i64) (.prod (.int .i64) (.prod (.int .i64) (.int .i64))))) code8), (1, vV (.slice (.slice (.prod (.int .i64) (.prod (.int .i64) (.prod (.int .i64) (.int .i64)))))) kids9), (2, vV (.slice (.int .i64)) order10), (3, vO 0), (9, vP 1 0), (10, vP 2 0), (11, vP 3 0), (12, vO 4), (13, vI i11)], [(0, .arr (.int .i64) l12), (1, .box [.val (.slice (.int .i64)) b13.1, .val (.slice (.int .i64)) b13.2.1, .val (.int .i64) b13.2.2]), (2, .box [.val (.int .i64) (0 : Int), .nils, .nils, .nils, .val (.int .i64) (0 : Int)]), (3, .box [.own 5, .own 6, .val (.int .i64) b16]), (4, .arr (.prod (.int .i64) (.prod (.own (.int .i64)) (.prod (.own (.int .i64)) (.prod (.own (.int .i64)) (.int .i64))))) l17), (5, .arr (.int .i64) l18), (6, .arr (.int .i64) l19)], 7⟩
def Zlm (code8 : List (Int × Int × Int × Int)) (kids9 : List (List (Int × Int × Int × Int))) (order10 : List Int) (b13 : List Int × List Int × Int) (b148 : Int) (l149 : List Int) (l150 : List Int) (l151 : List Int) : St := ⟨[(10, vP 0 0)], [(0, .box [.val (.int .i64) (2 : Int), .own 1, .own 2, .own 3, .val (.int .i64) b148]), (1, .arr (.int .i64) l149), (2, .arr (.int .i64) l150), (3, .arr (.int .i64) l151)], 4⟩
def Zln (code8 : List (Int × Int × Int × Int)) (kids9 : List (List (Int × Int × Int × Int))) (order10 : List Int) (b13 : List Int × List Int × Int) (i152 : Int) (t153 : Bool) (l154 : List Int) (b155 : Int) (l156 : List (Int × List Int × List Int × List Int × Int)) (l157 : List Int) (l158 : List Int) : St := ⟨[(0, vV (.slice (.prod (.int .i64) (.prod (.int .i64) (.prod (.int .i64) (.int .i64))))) code8), (1, vV (.slice (.slice (.prod (.int .i64) (.prod (.int .i64) (.prod (.int .i64) (.int .i64)))))) kids9), (2, vV (.slice (.int .i64)) order10), (3, vO 0), (9, vP 1 0), (10, vP 2 0), (11, vP 3 0), (12, vO 4), (13, vI i152), (29, vB t153)], [(0, .arr (.int .i64) l154), (1, .box [.val (.slice (.int .i64)) b13.1, .val (.slice (.int .i64)) b13.2.1, .val (.int .i64) b13.2.2]), (2, .box [.val (.int .i64) (0 : Int), .nils, .nils, .nils, .val (.int .i64) (0 : Int)]), (3, .box [.own 5, .own 6, .val (.int .i64) b155]), (4, .arr (.prod (.int .i64) (.prod (.own (.int .i64)) (.prod (.own (.int .i64)) (.prod (.own (.int .i64)) (.int .i64))))) l156), (5, .arr (.int .i64) l157), (6, .arr (.int .i64) l158)], 7⟩
theorem Znu (N m : Nat) {R : Type} (K : Ex → St → Option R) {code8 : List (Int × Int × Int × Int)} {kids9 : List (List (Int × Int × Int × Int))} {order10 : List Int} {b13 : List Int × List Int × Int} {K0 : Int → (List Int) → (List Int) → (List Int) → Option R} {K1 : Int → Bool → (List Int) → Int → (List (Int × List Int × List Int × List Int × Int)) → (List Int) → (List Int) → Option R} (h0 : K0 = fun b148 l149 l150 l151 => K .ret (Zlm code8 kids9 order10 b13 b148 l149 l150 l151)) (h1 : K1 = fun i152 t153 l154 b155 l156 l157 l158 => K (.exit 0) (Zln code8 kids9 order10 b13 i152 t153 l154 b155 l156 l157 l158)) (n : Nat) (i11 : Int) (l12 : List Int) (b16 : Int) (l17 : List (Int × List Int × List Int × List Int × Int)) (l18 : List Int) (l19 : List Int) : Ze N (Zab N m) code8 kids9 order10 b13 K0 K1 n i11 l12 b16 l17 l18 l19 = LM (Zdo m) N 0 100005 n (Znt code8 kids9 order10 i11 l12 b13 b16 l17 l18 l19) K := by
  subst h0 h1
  induction n generalizing i11 l12 b16 l17 l18 l19 with
  | zero => kernel_rfl
  | succ n ih => rw [Ze]; simp (disch := exact id (by kernel_rfl)) only [ih, Zns N m (CL (Zdo m) N 0 100005 [1, 0, 0, 1, 1, 0, 1, 1, 1, 1, 1, 1, 1, 1, 1, 1, 1, 0, 1, 1, 0] n K)]; kernel_rfl
theorem Zjo : Callable Tryz.prog 65 := callable_of Tryz.func65 (show chkFn Tryz.f65 = true by kernel_rfl)
theorem Zra (N m : Nat) (code1 : List (Int × Int × Int × Int)) (kids2 : List (List (Int × Int × Int × Int))) (order3 : List Int) (regs4 : List Int) (first5 : List Int × List Int × Int) : DN (Zdo m) N (code1, kids2, order3, regs4, first5, ()) = Zab N (m + 1) code1 kids2 order3 regs4 first5 := by
  have h : Zab N (m + 1) code1 kids2 order3 regs4 first5 = Zab N (m + 1) code1 kids2 order3 regs4 first5 := rfl
  conv at h => rhs; rw [Zab]
  simp (disch := exact id (by kernel_rfl)) only [Znu (R := Unit × ((Int × List Int × List Int × List Int × Int) × Unit)) N m (CF (Zdo m) N [1, 1, 1, 1, 0, 1, 0])] at h
  exact Eq.trans (by kernel_rfl) h.symm
theorem Zix (N : Nat) : ∀ m, Good Tryz.prog 65 (Zeo N m)
  | 0 => fun d o h => nomatch (show none = some o from h)
  | m + 1 => GF (Zdo m) N Tryz.func65 (ctx_cons (Zan N) Zam (ctx_cons (Zno N) Znn (ctx_cons (Zl9 N) Zl8 (ctx_cons (Zka N) Zj9 (ctx_cons (Zon N) Zol (ctx_cons (Zix N m) Zjo (ctx_cons (Zsn N) Zsm ctx_nil))))))) (by kernel_rfl) (fun d => Zra N m d.1 d.2.1 d.2.2.1 d.2.2.2.1 d.2.2.2.2.1)
theorem Zrb (N : Nat) : Good Tryz.prog 65 (Zjn N) := Zix N N
noncomputable def Zfv (N : Nat) : Sig := Sig.of [.v (.slice (.prod (.int .i64) (.prod (.int .i64) (.prod (.int .i64) (.int .i64))))) false, .v (.slice (.int .i64)) false, .v (.slice (.int .i64)) false] [.v (.int .i64) false, .v (.own (.int .i64)) false, .v (.own (.int .i64)) false] (fun d => Zeh N d.1 d.2.1 d.2.2.1)
noncomputable def Zoo : Fn := ⟨Tryz.f34, noAnn, Zfv, fun N => [(64, Zef N), (61, Zau N), (65, Zjn N)]⟩
theorem Zop : Callable Tryz.prog 34 := callable_of Tryz.func34 (show chkFn Tryz.f34 = true by kernel_rfl)
theorem Zoq (N : Nat) : Good Tryz.prog 34 (Zfv N) := GF Zoo N Tryz.func34 (ctx_cons (Zib N) Zia (ctx_cons (Zcf N) Zce (ctx_cons (Zrb N) Zjo ctx_nil))) (by kernel_rfl) (fun d => by kernel_rfl)
noncomputable def Zid (N : Nat) : Sig := Sig.of [.v (.slice (.prod (.int .i64) (.prod (.int .i64) (.prod (.int .i64) (.int .i64))))) false, .v (.slice (.int .i64)) false, .v (.slice (.int .i64)) false] [.box (.prod (.own (.int .i64)) (.prod (.own (.int .i64)) (.prod (.own (.prod (.int .i64) (.int .i64))) (.prod (.int .i64) (.prod (.own (.prod (.int .i64) (.prod (.int .i64) (.own (.int .i64))))) (.own (.int .i64))))))), .v (.bool) false] (fun d => Zfr N d.1 d.2.1 d.2.2.1)
noncomputable def Zso : Fn := ⟨Tryz.f66, noAnn, Zid, fun N => [(64, Zef N), (61, Zau N), (37, Z9 N)]⟩
theorem Zsp : Callable Tryz.prog 66 := callable_of Tryz.func66 (show chkFn Tryz.f66 = true by kernel_rfl)
theorem Zsq (N : Nat) : Good Tryz.prog 66 (Zid N) := GF Zso N Tryz.func66 (ctx_cons (Zib N) Zia (ctx_cons (Zcf N) Zce (ctx_cons (Zan N) Zam ctx_nil))) (by kernel_rfl) (fun d => by kernel_rfl)
noncomputable def Zep (N : Nat) : Sig := Sig.of [.v (.prod (.int .i64) (.int .i64)) true, .box (.prod (.int .i64) (.prod (.int .i64) (.prod (.int .i64) (.int .i64))))] [.v (.bool) false] (fun d => Zfs N d.1 d.2.1)
noncomputable def Zlo : Fn := ⟨Tryz.f95, noAnn, Zep, noCtx⟩
theorem Zlp : Callable Tryz.prog 95 := callable_of Tryz.func95 (show chkFn Tryz.f95 = true by kernel_rfl)
theorem Zlq (N : Nat) : Good Tryz.prog 95 (Zep N) := GF Zlo N Tryz.func95 ctx_nil (by kernel_rfl) (fun d => by kernel_rfl)
noncomputable def Z0 (N : Nat) : Sig := Sig.of [.v (.slice (.prod (.int .i64) (.int .i64))) false, .clos 95 1, .box (.prod (.int .i64) (.prod (.int .i64) (.prod (.int .i64) (.int .i64))))] [.v (.int .i64) false] (fun d => Zi N d.1 d.2.1)
noncomputable def Zt : Fn := ⟨Tryz.f121, fun | 2 => [.canon [0, 1, 7, 8, 9]] | 3 => [.canon [0, 1, 5, 7, 8]] | 4 => [.canon [0, 1, 5, 7, 8, 16]] | 5 => [.canon [1, 4]] | 6 => [.canon [0, 1, 7, 8]] | 100002 => [.canon [0, 1, 7, 8]] | _ => [], Z0, fun N => [(95, Zep N)]⟩
def Zcg (s3 : List (Int × Int)) (t5 : Int) (b6 : Int × Int × Int × Int) : St := ⟨[(0, vV (.slice (.prod (.int .i64) (.int .i64))) s3), (1, .s (.one (.clos 95 [0]))), (7, vI (ilen s3)), (8, vI t5)], [(0, .box [.val (.int .i64) b6.1, .val (.int .i64) b6.2.1, .val (.int .i64) b6.2.2.1, .val (.int .i64) b6.2.2.2])], 1⟩
def Zb7 (s3 : List (Int × Int)) (t9 : Int) (b10 : Int × Int × Int × Int) : St := ⟨[(1, .s (.one (.clos 95 [0]))), (4, vI t9)], [(0, .box [.val (.int .i64) b10.1, .val (.int .i64) b10.2.1, .val (.int .i64) b10.2.2.1, .val (.int .i64) b10.2.2.2])], 1⟩
def Zb8 (s3 : List (Int × Int)) (t11 : Int) (t12 : Bool) (b13 : Int × Int × Int × Int) : St := ⟨[(0, vV (.slice (.prod (.int .i64) (.int .i64))) s3), (1, .s (.one (.clos 95 [0]))), (7, vI (ilen s3)), (8, vI t11), (9, vB t12)], [(0, .box [.val (.int .i64) b13.1, .val (.int .i64) b13.2.1, .val (.int .i64) b13.2.2.1, .val (.int .i64) b13.2.2.2])], 1⟩
theorem Zch (N : Nat) {R : Type} (K : Ex → St → Option R) {s3 : List (Int × Int)} {K0 : Int → (Int × Int × Int × Int) → Option R} {K1 : Int → Bool → (Int × Int × Int × Int) → Option R} (h0 : K0 = fun t9 b10 => K .ret (Zb7 s3 t9 b10)) (h1 : K1 = fun t11 t12 b13 => K (.exit 0) (Zb8 s3 t11 t12 b13)) (n : Nat) (t5 : Int) (b6 : Int × Int × Int × Int) : Zf N s3 K0 K1 n t5 b6 = LM Zt N 0 100002 n (Zcg s3 t5 b6) K := by
  subst h0 h1
  induction n generalizing t5 b6 with
  | zero => kernel_rfl
  | succ n ih => rw [Zf]; simp (disch := exact id (by kernel_rfl)) only [ih]; kernel_rfl
theorem Zcv : Callable Tryz.prog 121 := callable_of Tryz.func121 (show chkFn Tryz.f121 = true by kernel_rfl)
theorem Zcw (N : Nat) (s1 : List (Int × Int)) (cap2 : Int × Int × Int × Int) : DN Zt N (s1, cap2, ()) = Zi N s1 cap2 := by
  have h : Zi N s1 cap2 = Zi N s1 cap2 := rfl
  conv at h => rhs; rw [Zi]
  simp (disch := exact id (by kernel_rfl)) only [Zch (R := ((Int × Int × Int × Int) × Unit) × (Int × Unit)) N (CF Zt N [1, 0, 1, 0])] at h
  exact Eq.trans (by kernel_rfl) h.symm
theorem Zcx (N : Nat) : Good Tryz.prog 121 (Z0 N) := GF Zt N Tryz.func121 (ctx_cons (Zlq N) Zlp ctx_nil) (by kernel_rfl) (fun d => Zcw N d.1 d.2.1)
noncomputable def Zy (N : Nat) : Sig := Sig.of [.v (.slice (.prod (.int .i64) (.int .i64))) false, .clos 95 1, .box (.prod (.int .i64) (.prod (.int .i64) (.prod (.int .i64) (.int .i64))))] [.v (.bool) false] (fun d => Zs N d.1 d.2.1)
noncomputable def Zci : Fn := ⟨Tryz.f94, noAnn, Zy, fun N => [(121, Z0 N)]⟩
theorem Zcj : Callable Tryz.prog 94 := callable_of Tryz.func94 (show chkFn Tryz.f94 = true by kernel_rfl)
theorem Zck (N : Nat) : Good Tryz.prog 94 (Zy N) := GF Zci N Tryz.func94 (ctx_cons (Zcx N) Zcv ctx_nil) (by kernel_rfl) (fun d => by kernel_rfl)
noncomputable def Zgb (N : Nat) : Sig := Sig.of [.v (.slice (.prod (.int .i64) (.int .i64))) false] [.v (.own (.prod (.int .i64) (.int .i64))) false] (fun d => Zg5 N d.1)
noncomputable def Zo6 : Fn := ⟨Tryz.f137, noAnn, Zgb, noCtx⟩
theorem Zo7 : Callable Tryz.prog 137 := callable_of Tryz.func137 (show chkFn Tryz.f137 = true by kernel_rfl)
theorem Zo8 (N : Nat) : Good Tryz.prog 137 (Zgb N) := GF Zo6 N Tryz.func137 ctx_nil (by kernel_rfl) (fun d => by kernel_rfl)
noncomputable def Zgc (N : Nat) : Sig := Sig.of [.v (.slice (.int .i64)) false, .v (.slice (.prod (.int .i64) (.int .i64))) false, .v (.int .i64) false] [.v (.own (.int .i64)) false, .v (.own (.prod (.int .i64) (.int .i64))) false] (fun d => Za3 N d.1 d.2.1 d.2.2.1)
noncomputable def Zd9 : Fn := ⟨Tryz.f134, fun | 5 => [.canon [1, 2, 8, 9, 29]] | 6 => [.canon [1, 2, 8, 9]] | 7 => [.canon [1, 2, 8, 9]] | 100005 => [.canon [1, 2, 8, 9]] | _ => [], Zgc, fun N => [(61, Zau N), (44, Zd3 N), (37, Z9 N), (137, Zgb N)]⟩
def Zkb (log7 : List (Int × Int)) (n8 : Int) (i9 : Int) (l10 : List Int) : St := ⟨[(1, vV (.slice (.prod (.int .i64) (.int .i64))) log7), (2, vI n8), (8, vO 0), (9, vI i9)], [(0, .arr (.int .i64) l10)], 1⟩
def Zjt (log7 : List (Int × Int)) (n8 : Int) (i11 : Int) (t12 : Bool) (l13 : List Int) : St := ⟨[(1, vV (.slice (.prod (.int .i64) (.int .i64))) log7), (2, vI n8), (8, vO 0), (9, vI i11), (29, vB t12)], [(0, .arr (.int .i64) l13)], 1⟩
theorem Zkc (N : Nat) {R : Type} (K : Ex → St → Option R) {log7 : List (Int × Int)} {n8 : Int} {K0 : Int → Bool → (List Int) → Option R} (h0 : K0 = fun i11 t12 l13 => K (.exit 0) (Zjt log7 n8 i11 t12 l13)) (n : Nat) (i9 : Int) (l10 : List Int) : Zae N log7 n8 K0 n i9 l10 = LM Zd9 N 0 100005 n (Zkb log7 n8 i9 l10) K := by
  subst h0
  induction n generalizing i9 l10 with
  | zero => kernel_rfl
  | succ n ih => rw [Zae]; simp (disch := exact id (by kernel_rfl)) only [ih]; kernel_rfl
theorem Zo9 : Callable Tryz.prog 134 := callable_of Tryz.func134 (show chkFn Tryz.f134 = true by kernel_rfl)
theorem Zpa (N : Nat) (cells1 : List Int) (log2 : List (Int × Int)) (n3 : Int) : DN Zd9 N (cells1, log2, n3, ()) = Za3 N cells1 log2 n3 := by
  have h : Za3 N cells1 log2 n3 = Za3 N cells1 log2 n3 := rfl
  conv at h => rhs; rw [Za3]
  simp (disch := exact id (by kernel_rfl)) only [Zkc (R := Unit × ((List Int) × ((List (Int × Int)) × Unit))) N (CF Zd9 N [1, 1, 1, 0, 1, 0])] at h
  exact Eq.trans (by kernel_rfl) h.symm
theorem Zpb (N : Nat) : Good Tryz.prog 134 (Zgc N) := GF Zd9 N Tryz.func134 (ctx_cons (Zcf N) Zce (ctx_cons (Zho N) Zhn (ctx_cons (Zan N) Zam (ctx_cons (Zo8 N) Zo7 ctx_nil)))) (by kernel_rfl) (fun d => Zpa N d.1 d.2.1 d.2.2.1)
noncomputable def Zfw (N : Nat) : Sig := Sig.of [.box (.prod (.own (.int .i64)) (.prod (.own (.int .i64)) (.prod (.own (.prod (.int .i64) (.int .i64))) (.prod (.int .i64) (.prod (.own (.prod (.int .i64) (.prod (.int .i64) (.own (.int .i64))))) (.own (.int .i64))))))), .v (.int .i64) false] [] (fun d => Zdt N d.1 d.2.1)
noncomputable def Zor : Fn := ⟨Tryz.f122, noAnn, Zfw, fun N => [(134, Zgc N)]⟩
theorem Zos : Callable Tryz.prog 122 := callable_of Tryz.func122 (show chkFn Tryz.f122 = true by kernel_rfl)
theorem Zot (N : Nat) : Good Tryz.prog 122 (Zfw N) := GF Zor N Tryz.func122 (ctx_cons (Zpb N) Zo9 ctx_nil) (by kernel_rfl) (fun d => by kernel_rfl)
noncomputable def Zeq (N : Nat) : Sig := Sig.of [.box (.prod (.own (.int .i64)) (.prod (.own (.int .i64)) (.prod (.own (.prod (.int .i64) (.int .i64))) (.prod (.int .i64) (.prod (.own (.prod (.int .i64) (.prod (.int .i64) (.own (.int .i64))))) (.own (.int .i64))))))), .v (.slice (.prod (.int .i64) (.prod (.int .i64) (.prod (.int .i64) (.int .i64))))) false] [.v (.int .i64) false] (fun d => Zd0 N d.1 d.2.1)
noncomputable def Zlr : Fn := ⟨Tryz.f96, fun | 5 => [.opn 22] | _ => [], Zeq, fun N => [(122, Zfw N)]⟩
theorem Zls : Callable Tryz.prog 96 := callable_of Tryz.func96 (show chkFn Tryz.f96 = true by kernel_rfl)
theorem Zlt (N : Nat) : Good Tryz.prog 96 (Zeq N) := GF Zlr N Tryz.func96 (ctx_cons (Zot N) Zos ctx_nil) (by kernel_rfl) (fun d => by kernel_rfl)
noncomputable def Zfx (N : Nat) : Sig := Sig.of [.box (.prod (.own (.int .i64)) (.prod (.own (.int .i64)) (.prod (.own (.prod (.int .i64) (.int .i64))) (.prod (.int .i64) (.prod (.own (.prod (.int .i64) (.prod (.int .i64) (.own (.int .i64))))) (.own (.int .i64))))))), .v (.slice (.prod (.int .i64) (.prod (.int .i64) (.prod (.int .i64) (.int .i64))))) false] [.v (.int .i64) false] (fun d => Zav N d.1 d.2.1)
noncomputable def Zd5 : Fn := ⟨Tryz.f67, fun | 2 => [.canon [0, 1, 5, 12]] | 3 => [.canon [0, 1, 5]] | 4 => [.canon [0, 1, 5, 6]] | 5 => [.canon [0, 1, 5, 6, 20]] | 6 => [.canon [0, 1, 5]] | 7 => [.canon [0, 1, 5, 6, 20, 33]] | 8 => [.canon [0, 1, 5, 6, 41]] | 9 => [.canon [0, 1, 5, 6]] | 10 => [.canon [0, 1, 5]] | 11 => [.canon [0, 1, 5, 6, 20, 68]] | 12 => [.canon [0, 1, 5, 6]] | 13 => [.canon [0, 1, 5]] | 14 => [.canon [0, 1, 5, 6, 20, 105]] | 15 => [.canon [0, 1, 5, 6, 115]] | 16 => [.canon [0, 1, 5]] | 17 => [.canon [0, 1, 5, 6, 20, 120]] | 18 => [.nest 139 (.prod (.int .i64) (.prod (.int .i64) (.own (.int .i64)))), .canon [0, 1, 5]] | 19 => [.canon [0, 1, 5, 6, 20, 143]] | 20 => [.canon [0, 1, 5, 7]] | 21 => [.canon [0, 1, 5, 7]] | 22 => [.canon [0, 1, 5]] | 23 => [.canon [0, 1, 5, 6, 182]] | 24 => [.canon [0, 1, 8]] | 25 => [.canon [0, 1, 8, 188]] | 26 => [.canon [0, 4]] | 27 => [.canon [0, 1, 5]] | 100002 => [.canon [0, 1, 5]] | _ => [], Zfx, fun N => [(94, Zy N), (37, Z9 N), (96, Zeq N), (91, Zf6 N), (90, Zgp N)]⟩
def Zju (code3 : List (Int × Int × Int × Int)) (i4 : Int) (b5 : Int) (l6 : List Int) (l7 : List Int) (l8 : List (Int × Int)) (l9 : List (Int × Int × List Int)) (l10 : List Int) : St := ⟨[(0, vP 0 0), (1, vV (.slice (.prod (.int .i64) (.prod (.int .i64) (.prod (.int .i64) (.int .i64))))) code3), (5, vI i4)], [(0, .box [.own 1, .own 2, .own 3, .val (.int .i64) b5, .own 4, .own 5]), (1, .arr (.int .i64) l6), (2, .arr (.int .i64) l7), (3, .arr (.prod (.int .i64) (.int .i64)) l8), (4, .arr (.prod (.int .i64) (.prod (.int .i64) (.own (.int .i64)))) l9), (5, .arr (.int .i64) l10)], 6⟩
def Zi3 (code3 : List (Int × Int × Int × Int)) (b16 : Int) (l17 : List Int) (l18 : List Int) (l19 : List (Int × Int)) (l20 : List (Int × Int × List Int)) (l21 : List Int) : St := ⟨[(0, vP 0 0), (4, vI 2)], [(0, .box [.own 1, .own 2, .own 3, .val (.int .i64) b16, .own 4, .own 5]), (1, .arr (.int .i64) l17), (2, .arr (.int .i64) l18), (3, .arr (.prod (.int .i64) (.int .i64)) l19), (4, .arr (.prod (.int .i64) (.prod (.int .i64) (.own (.int .i64)))) l20), (5, .arr (.int .i64) l21)], 6⟩
def Zi4 (code3 : List (Int × Int × Int × Int)) (i22 : Int) (t23 : Bool) (b24 : Int) (l25 : List Int) (l26 : List Int) (l27 : List (Int × Int)) (l28 : List (Int × Int × List Int)) (l29 : List Int) : St := ⟨[(0, vP 0 0), (1, vV (.slice (.prod (.int .i64) (.prod (.int .i64) (.prod (.int .i64) (.int .i64))))) code3), (5, vI i22), (12, vB t23)], [(0, .box [.own 1, .own 2, .own 3, .val (.int .i64) b24, .own 4, .own 5]), (1, .arr (.int .i64) l25), (2, .arr (.int .i64) l26), (3, .arr (.prod (.int .i64) (.int .i64)) l27), (4, .arr (.prod (.int .i64) (.prod (.int .i64) (.own (.int .i64)))) l28), (5, .arr (.int .i64) l29)], 6⟩
theorem Zjv (N : Nat) {R : Type} (K : Ex → St → Option R) {code3 : List (Int × Int × Int × Int)} {K0 : Int → (List Int) → (List Int) → (List (Int × Int)) → (List (Int × Int × List Int)) → (List Int) → Option R} {K1 : Int → Bool → Int → (List Int) → (List Int) → (List (Int × Int)) → (List (Int × Int × List Int)) → (List Int) → Option R} (h0 : K0 = fun b16 l17 l18 l19 l20 l21 => K .ret (Zi3 code3 b16 l17 l18 l19 l20 l21)) (h1 : K1 = fun i22 t23 b24 l25 l26 l27 l28 l29 => K (.exit 0) (Zi4 code3 i22 t23 b24 l25 l26 l27 l28 l29)) (n : Nat) (i4 : Int) (b5 : Int) (l6 : List Int) (l7 : List Int) (l8 : List (Int × Int)) (l9 : List (Int × Int × List Int)) (l10 : List Int) : Zn N code3 K0 K1 n i4 b5 l6 l7 l8 l9 l10 = LM Zd5 N 0 100002 n (Zju code3 i4 b5 l6 l7 l8 l9 l10) K := by
  subst h0 h1
  induction n generalizing i4 b5 l6 l7 l8 l9 l10 with
  | zero => kernel_rfl
  | succ n ih => rw [Zn]; simp (disch := exact id (by kernel_rfl)) only [ih]; kernel_rfl
theorem Zou : Callable Tryz.prog 67 := callable_of Tryz.func67 (show chkFn Tryz.f67 = true by kernel_rfl)
theorem Zov (N : Nat) (e1 : List Int × List Int × List (Int × Int) × Int × List (Int × Int × List Int) × List Int) (code2 : List (Int × Int × Int × Int)) : DN Zd5 N (e1, code2, ()) = Zav N e1 code2 := by
  have h : Zav N e1 code2 = Zav N e1 code2 := rfl
  conv at h => rhs; rw [Zav]
  simp (disch := exact id (by kernel_rfl)) only [Zjv (R := ((List Int × List Int × List (Int × Int) × Int × List (Int × Int × List Int) × List Int) × Unit) × (Int × Unit)) N (CF Zd5 N [1, 0, 1, 0])] at h
  exact Eq.trans (by kernel_rfl) h.symm
theorem Zow (N : Nat) : Good Tryz.prog 67 (Zfx N) := GF Zd5 N Tryz.func67 (ctx_cons (Zck N) Zcj (ctx_cons (Zan N) Zam (ctx_cons (Zlt N) Zls (ctx_cons (Zka N) Zj9 (ctx_cons (Zl9 N) Zl8 ctx_nil))))) (by kernel_rfl) (fun d => Zov N d.1 d.2.1)
noncomputable def Zdq (N : Nat) : Sig := Sig.of [.mut (.int .i64)] [] (fun d => Zad N d.1)
theorem Zeu : Callable Tryz.prog 36 := callable_of Tryz.func36 (show chkFn Tryz.f36 = true by kernel_rfl)
theorem Zev (N : Nat) : Good Tryz.prog 36 (Zdq N) := good_sortL sortL N
noncomputable def Za5 (N : Nat) : Sig := Sig.of [.v (.own (.int .i64)) false] [.v (.own (.int .i64)) false] (fun d => Zp N d.1)
noncomputable def Zaa : Fn := ⟨Tryz.f38, fun | 4 => [.canon [0, 3, 13]] | 5 => [.canon [0, 3]] | 6 => [.canon [0, 3, 25]] | 7 => [.view 28, .canon [0, 3, 4]] | 8 => [.canon [0, 3, 4, 5]] | 9 => [.canon [0, 3, 4, 5, 32]] | 10 => [.canon [0, 3, 4, 5]] | 11 => [.canon [0, 3, 4, 5, 44]] | 12 => [.canon [0, 3, 4, 5]] | 13 => [.canon [0, 3, 4, 5]] | 14 => [.view 56, .canon [0, 3]] | 15 => [.canon [2]] | 100004 => [.canon [0, 3]] | 100009 => [.canon [0, 3, 4, 5]] | _ => [], Za5, noCtx⟩
def Zgg (k4 : Int) (s5 : Nat) (s6 : Nat) (k7 : Int) (l8 : List Int) : St := ⟨[(0, vO 0), (3, vI k4), (4, .s (.one (.vw 0 s5 s6))), (5, vI k7)], [(0, .arr (.int .i64) l8)], 1⟩
def Zgd (s5 : Nat) (s6 : Nat) (k9 : Int) (k10 : Int) (t11 : Bool) (l12 : List Int) : St := ⟨[(0, vO 0), (3, vI k9), (4, .s (.one (.vw 0 s5 s6))), (5, vI k10), (32, vB t11)], [(0, .arr (.int .i64) l12)], 1⟩
theorem Zgh (N : Nat) {R : Type} (K : Ex → St → Option R) {s5 : Nat} {s6 : Nat} {K0 : Int → Int → Bool → (List Int) → Option R} (h0 : K0 = fun k9 k10 t11 l12 => K (.exit 2) (Zgd s5 s6 k9 k10 t11 l12)) (n : Nat) (k4 : Int) (k7 : Int) (l8 : List Int) : Zx N s5 s6 K0 n k4 k7 l8 = LM Zaa N 1 100009 n (Zgg k4 s5 s6 k7 l8) K := by
  subst h0
  induction n generalizing k4 k7 l8 with
  | zero => kernel_rfl
  | succ n ih => rw [Zx]; simp (disch := exact id (by kernel_rfl)) only [ih]; kernel_rfl
def Zgi (k2 : Int) (l3 : List Int) : St := ⟨[(0, vO 0), (3, vI k2)], [(0, .arr (.int .i64) l3)], 1⟩
def Zge (l3 : List Int) (l17 : List Int) : St := ⟨[(2, vO 0)], [(0, .arr (.int .i64) l17)], 1⟩
def Zgf (l3 : List Int) (k18 : Int) (t19 : Bool) : St := ⟨[(0, vO 0), (3, vI k18), (13, vB t19)], [(0, .arr (.int .i64) l3)], 1⟩
theorem Zgj (N : Nat) {R : Type} (K : Ex → St → Option R) {l3 : List Int} {K0 : (List Int) → Option R} {K1 : Int → Bool → Option R} (h0 : K0 = fun l17 => K .ret (Zge l3 l17)) (h1 : K1 = fun k18 t19 => K (.exit 0) (Zgf l3 k18 t19)) (n : Nat) (k2 : Int) : Z5 N l3 K0 K1 n k2 = LM Zaa N 0 100004 n (Zgi k2 l3) K := by
  subst h0 h1
  induction n generalizing k2 with
  | zero => kernel_rfl
  | succ n ih => rw [Z5]; simp (disch := exact id (by kernel_rfl)) only [ih, Zgh N (CL Zaa N 0 100004 [1, 0, 0, 1, 0, 1, 0, 1, 0] n K)]; kernel_rfl
theorem Zd6 : Callable Tryz.prog 38 := callable_of Tryz.func38 (show chkFn Tryz.f38 = true by kernel_rfl)
theorem Zhx (N : Nat) (s1 : List Int) : DN Zaa N (s1, ()) = Zp N s1 := by
  have h : Zp N s1 = Zp N s1 := rfl
  conv at h => rhs; rw [Zp]
  simp (disch := exact id (by kernel_rfl)) only [Zgj (R := Unit × ((List Int) × Unit)) N (CF Zaa N [1, 1, 0, 1, 0])] at h
  exact Eq.trans (by kernel_rfl) h.symm
theorem Zd7 (N : Nat) : Good Tryz.prog 38 (Za5 N) := GF Zaa N Tryz.func38 ctx_nil (by kernel_rfl) (fun d => Zhx N d.1)
noncomputable def Zg1 (N : Nat) : Sig := Sig.of [.v (.slice (.prod (.int .i64) (.prod (.int .i64) (.prod (.int .i64) (.int .i64))))) false, .v (.slice (.int .i64)) false, .v (.slice (.int .i64)) false] [.v (.own (.int .i64)) false] (fun d => Zfy N d.1 d.2.1 d.2.2.1)
noncomputable def Zpz : Fn := ⟨Tryz.f35, noAnn, Zg1, fun N => [(66, Zid N), (67, Zfx N), (36, Zdq N), (38, Za5 N)]⟩
theorem Zp0 : Callable Tryz.prog 35 := callable_of Tryz.func35 (show chkFn Tryz.f35 = true by kernel_rfl)
theorem Zp1 (N : Nat) : Good Tryz.prog 35 (Zg1 N) := GF Zpz N Tryz.func35 (ctx_cons (Zsq N) Zsp (ctx_cons (Zow N) Zou (ctx_cons (Zev N) Zeu (ctx_cons (Zd7 N) Zd6 ctx_nil)))) (by kernel_rfl) (fun d => by kernel_rfl)
noncomputable def Zhs (N : Nat) : Sig := Sig.of [.v (.slice (.slice (.prod (.int .i64) (.prod (.int .i64) (.prod (.int .i64) (.int .i64)))))) false, .v (.slice (.int .i64)) false, .v (.slice (.int .i64)) false] [.v (.prod (.int .i64) (.prod (.own (.int .i64)) (.prod (.own (.int .i64)) (.own (.int .i64))))) true] (fun d => Zc3 N d.1 d.2.1 d.2.2.1)
noncomputable def Zfl : Fn := ⟨Tryz.f10, fun | 5 => [.canon [1, 2, 6, 7, 20, 21, 22, 23]] | 6 => [.canon [1, 2, 6, 7, 8, 9, 20, 21, 22]] | 7 => [.canon [1, 2, 6, 7, 8, 9, 10, 11, 12, 20, 21, 22]] | 8 => [.canon [1, 2, 6, 7, 8, 9, 11, 12, 20, 21, 22, 37]] | 9 => [.canon [6]] | 10 => [.canon [1, 2, 6, 7, 20, 21, 22]] | 11 => [.canon [1, 2, 6, 7, 20, 21, 22]] | 100005 => [.canon [1, 2, 6, 7, 20, 21, 22]] | _ => [], Zhs, fun N => [(33, Zfj N), (34, Zfv N), (35, Zg1 N), (36, Zdq N), (37, Z9 N), (38, Za5 N)]⟩
def Znv (regs5 : List Int) (cells6 : List Int) (t7 : List (List (Int × Int × Int × Int))) (t9 : Int) (l11 : List Int) : St := ⟨[(1, vV (.slice (.int .i64)) regs5), (2, vV (.slice (.int .i64)) cells6), (6, vP 0 0), (7, vO 1), (20, vV (.slice (.slice (.prod (.int .i64) (.prod (.int .i64) (.prod (.int .i64) (.int .i64)))))) t7), (21, vI (ilen t7)), (22, vI t9)], [(0, .box [.val (.int .i64) (0 : Int), .nils, .nils, .nils]), (1, .arr (.int .i64) l11)], 2⟩
def Zlu (regs5 : List Int) (cells6 : List Int) (t7 : List (List (Int × Int × Int × Int))) (b16 : Int) (l17 : List Int) (l18 : List Int) : St := ⟨[(6, vP 0 0)], [(0, .box [.val (.int .i64) b16, .own 1, .own 2, .nils]), (1, .arr (.int .i64) l17), (2, .arr (.int .i64) l18)], 3⟩
def Zlv (regs5 : List Int) (cells6 : List Int) (t7 : List (List (Int × Int × Int × Int))) (t19 : Int) (t20 : Bool) (l21 : List Int) : St := ⟨[(1, vV (.slice (.int .i64)) regs5), (2, vV (.slice (.int .i64)) cells6), (6, vP 0 0), (7, vO 1), (20, vV (.slice (.slice (.prod (.int .i64) (.prod (.int .i64) (.prod (.int .i64) (.int .i64)))))) t7), (21, vI (ilen t7)), (22, vI t19), (23, vB t20)], [(0, .box [.val (.int .i64) (0 : Int), .nils, .nils, .nils]), (1, .arr (.int .i64) l21)], 2⟩
theorem Znw (N : Nat) {R : Type} (K : Ex → St → Option R) {regs5 : List Int} {cells6 : List Int} {t7 : List (List (Int × Int × Int × Int))} {K0 : Int → (List Int) → (List Int) → Option R} {K1 : Int → Bool → (List Int) → Option R} (h0 : K0 = fun b16 l17 l18 => K .ret (Zlu regs5 cells6 t7 b16 l17 l18)) (h1 : K1 = fun t19 t20 l21 => K (.exit 0) (Zlv regs5 cells6 t7 t19 t20 l21)) (n : Nat) (t9 : Int) (l11 : List Int) : Zbr N regs5 cells6 t7 K0 K1 n t9 l11 = LM Zfl N 0 100005 n (Znv regs5 cells6 t7 t9 l11) K := by
  subst h0 h1
  induction n generalizing t9 l11 with
  | zero => kernel_rfl
  | succ n ih => rw [Zbr]; simp (disch := exact id (by kernel_rfl)) only [ih]; kernel_rfl
theorem Zrc : Callable Tryz.prog 10 := callable_of Tryz.func10 (show chkFn Tryz.f10 = true by kernel_rfl)
theorem Zrd (N : Nat) (l1 : List (List (Int × Int × Int × Int))) (regs2 : List Int) (cells3 : List Int) : DN Zfl N (l1, regs2, cells3, ()) = Zc3 N l1 regs2 cells3 := by
  have h : Zc3 N l1 regs2 cells3 = Zc3 N l1 regs2 cells3 := rfl
  conv at h => rhs; rw [Zc3]
  simp (disch := exact id (by kernel_rfl)) only [Znw (R := Unit × ((Int × List Int × List Int × List Int) × Unit)) N (CF Zfl N [1, 1, 1, 0, 1, 0])] at h
  exact Eq.trans (by kernel_rfl) h.symm
theorem Zre (N : Nat) : Good Tryz.prog 10 (Zhs N) := GF Zfl N Tryz.func10 (ctx_cons (Zjm N) Zjl (ctx_cons (Zoq N) Zop (ctx_cons (Zp1 N) Zp0 (ctx_cons (Zev N) Zeu (ctx_cons (Zan N) Zam (ctx_cons (Zd7 N) Zd6 ctx_nil)))))) (by kernel_rfl) (fun d => Zrd N d.1 d.2.1 d.2.2.1)
noncomputable def Zht (N : Nat) : Sig := Sig.of [.v (.slice (.slice (.prod (.int .i64) (.prod (.int .i64) (.prod (.int .i64) (.int .i64)))))) false, .v (.slice (.int .i64)) false, .v (.slice (.int .i64)) false, .v (.slice (.prod (.int .i64) (.int .i64))) false] [.v (.int .i64) false] (fun d => Zc5 N d.1 d.2.1 d.2.2.1 d.2.2.2.1)
noncomputable def Zfm : Fn := ⟨Tryz.f21, fun | 4 => [.canon [0, 1, 2, 3, 9, 23]] | 5 => [.canon [0, 1, 2, 3, 9]] | 6 => [.canon [0, 1, 2, 3, 9, 35]] | 7 => [.canon [8]] | 100004 => [.canon [0, 1, 2, 3, 9]] | _ => [], Zht, fun N => [(33, Zfj N), (44, Zd3 N), (45, Zgy N), (10, Zhs N)]⟩
def Znx (l7 : List (List (Int × Int × Int × Int))) (regs8 : List Int) (cells9 : List Int) (rows10 : List (Int × Int)) (n11 : Int) : St := ⟨[(0, vV (.slice (.slice (.prod (.int .i64) (.prod (.int .i64) (.prod (.int .i64) (.int .i64)))))) l7), (1, vV (.slice (.int .i64)) regs8), (2, vV (.slice (.int .i64)) cells9), (3, vV (.slice (.prod (.int .i64) (.int .i64))) rows10), (9, vI n11)], [], 0⟩
def Zlw (l7 : List (List (Int × Int × Int × Int))) (regs8 : List Int) (cells9 : List Int) (rows10 : List (Int × Int)) (t14 : Int) : St := ⟨[(8, vI t14)], [], 0⟩
def Zlx (l7 : List (List (Int × Int × Int × Int))) (regs8 : List Int) (cells9 : List Int) (rows10 : List (Int × Int)) (n15 : Int) (t16 : Bool) : St := ⟨[(0, vV (.slice (.slice (.prod (.int .i64) (.prod (.int .i64) (.prod (.int .i64) (.int .i64)))))) l7), (1, vV (.slice (.int .i64)) regs8), (2, vV (.slice (.int .i64)) cells9), (3, vV (.slice (.prod (.int .i64) (.int .i64))) rows10), (9, vI n15), (23, vB t16)], [], 0⟩
theorem Zny (N : Nat) {R : Type} (K : Ex → St → Option R) {l7 : List (List (Int × Int × Int × Int))} {regs8 : List Int} {cells9 : List Int} {rows10 : List (Int × Int)} {K0 : Int → Option R} {K1 : Int → Bool → Option R} (h0 : K0 = fun t14 => K .ret (Zlw l7 regs8 cells9 rows10 t14)) (h1 : K1 = fun n15 t16 => K (.exit 0) (Zlx l7 regs8 cells9 rows10 n15 t16)) (n : Nat) (n11 : Int) : Zbt N l7 regs8 cells9 rows10 K0 K1 n n11 = LM Zfm N 0 100004 n (Znx l7 regs8 cells9 rows10 n11) K := by
  subst h0 h1
  induction n generalizing n11 with
  | zero => kernel_rfl
  | succ n ih => rw [Zbt]; simp (disch := exact id (by kernel_rfl)) only [ih]; kernel_rfl
theorem Zrf : Callable Tryz.prog 21 := callable_of Tryz.func21 (show chkFn Tryz.f21 = true by kernel_rfl)
theorem Zrg (N : Nat) (l1 : List (List (Int × Int × Int × Int))) (regs2 : List Int) (cells3 : List Int) (rows4 : List (Int × Int)) : DN Zfm N (l1, regs2, cells3, rows4, ()) = Zc5 N l1 regs2 cells3 rows4 := by
  have h : Zc5 N l1 regs2 cells3 rows4 = Zc5 N l1 regs2 cells3 rows4 := rfl
  conv at h => rhs; rw [Zc5]
  simp (disch := exact id (by kernel_rfl)) only [Zny (R := Unit × (Int × Unit)) N (CF Zfm N [1, 1, 0, 1, 0])] at h
  exact Eq.trans (by kernel_rfl) h.symm
theorem Zrh (N : Nat) : Good Tryz.prog 21 (Zht N) := GF Zfm N Tryz.func21 (ctx_cons (Zjm N) Zjl (ctx_cons (Zho N) Zhn (ctx_cons (Zpy N) Zpw (ctx_cons (Zre N) Zrc ctx_nil)))) (by kernel_rfl) (fun d => Zrg N d.1 d.2.1 d.2.2.1 d.2.2.2.1)
noncomputable def Zir (N : Nat) : Sig := Sig.of [.v (.prod (.int .i64) (.prod (.int .i64) (.prod (.int .i64) (.int .i64)))) true, .v (.prod (.int .i64) (.prod (.int .i64) (.prod (.int .i64) (.int .i64)))) true] [.v (.bool) false] (fun d => Zii N d.1 d.2.1)
noncomputable def Zs8 : Fn := ⟨Tryz.f108, noAnn, Zir, noCtx⟩
theorem Zs9 : Callable Tryz.prog 108 := callable_of Tryz.func108 (show chkFn Tryz.f108 = true by kernel_rfl)
theorem Zta (N : Nat) : Good Tryz.prog 108 (Zir N) := GF Zs8 N Tryz.func108 ctx_nil (by kernel_rfl) (fun d => by kernel_rfl)
noncomputable def Zie (N : Nat) : Sig := Sig.of [.v (.slice (.prod (.int .i64) (.prod (.int .i64) (.prod (.int .i64) (.int .i64))))) false, .v (.slice (.prod (.int .i64) (.prod (.int .i64) (.prod (.int .i64) (.int .i64))))) false] [.v (.bool) false] (fun d => Zdh N d.1 d.2.1)
noncomputable def Zf8 : Fn := ⟨Tryz.f70, fun | 4 => [.canon [0, 1, 5, 14]] | 5 => [.canon [0, 1, 5]] | 6 => [.canon [0, 1, 5, 26]] | 7 => [.canon [4]] | 100004 => [.canon [0, 1, 5]] | _ => [], Zie, fun N => [(108, Zir N)]⟩
def Zox (a3 : List (Int × Int × Int × Int)) (b4 : List (Int × Int × Int × Int)) (i5 : Int) : St := ⟨[(0, vV (.slice (.prod (.int .i64) (.prod (.int .i64) (.prod (.int .i64) (.int .i64))))) a3), (1, vV (.slice (.prod (.int .i64) (.prod (.int .i64) (.prod (.int .i64) (.int .i64))))) b4), (5, vI i5)], [], 0⟩
def Znz (a3 : List (Int × Int × Int × Int)) (b4 : List (Int × Int × Int × Int)) : St := ⟨[(4, vB false)], [], 0⟩
def Zn0 (a3 : List (Int × Int × Int × Int)) (b4 : List (Int × Int × Int × Int)) (i7 : Int) (t8 : Bool) : St := ⟨[(0, vV (.slice (.prod (.int .i64) (.prod (.int .i64) (.prod (.int .i64) (.int .i64))))) a3), (1, vV (.slice (.prod (.int .i64) (.prod (.int .i64) (.prod (.int .i64) (.int .i64))))) b4), (5, vI i7), (14, vB t8)], [], 0⟩
theorem Zoy (N : Nat) {R : Type} (K : Ex → St → Option R) {a3 : List (Int × Int × Int × Int)} {b4 : List (Int × Int × Int × Int)} {K0 : Option R} {K1 : Int → Bool → Option R} (h0 : K0 = K .ret (Znz a3 b4)) (h1 : K1 = fun i7 t8 => K (.exit 0) (Zn0 a3 b4 i7 t8)) (n : Nat) (i5 : Int) : Zb5 N a3 b4 K0 K1 n i5 = LM Zf8 N 0 100004 n (Zox a3 b4 i5) K := by
  subst h0 h1
  induction n generalizing i5 with
  | zero => kernel_rfl
  | succ n ih => rw [Zb5]; simp (disch := exact id (by kernel_rfl)) only [ih]; kernel_rfl
theorem Zsr : Callable Tryz.prog 70 := callable_of Tryz.func70 (show chkFn Tryz.f70 = true by kernel_rfl)
theorem Zss (N : Nat) (a1 : List (Int × Int × Int × Int)) (b2 : List (Int × Int × Int × Int)) : DN Zf8 N (a1, b2, ()) = Zdh N a1 b2 := by
  have h : Zdh N a1 b2 = Zdh N a1 b2 := rfl
  conv at h => rhs; rw [Zdh]
  simp (disch := exact id (by kernel_rfl)) only [Zoy (R := Unit × (Bool × Unit)) N (CF Zf8 N [1, 1, 0, 1, 0])] at h
  exact Eq.trans (by kernel_rfl) h.symm
theorem Zst (N : Nat) : Good Tryz.prog 70 (Zie N) := GF Zf8 N Tryz.func70 (ctx_cons (Zta N) Zs9 ctx_nil) (by kernel_rfl) (fun d => Zss N d.1 d.2.1)
noncomputable def Zif (N : Nat) : Sig := Sig.of [.v (.slice (.prod (.int .i64) (.prod (.int .i64) (.prod (.int .i64) (.int .i64))))) true, .v (.slice (.prod (.int .i64) (.prod (.int .i64) (.prod (.int .i64) (.int .i64))))) true] [.v (.bool) false] (fun d => Zhb N d.1 d.2.1)
noncomputable def Zsu : Fn := ⟨Tryz.f39, noAnn, Zif, fun N => [(70, Zie N)]⟩
theorem Zsv : Callable Tryz.prog 39 := callable_of Tryz.func39 (show chkFn Tryz.f39 = true by kernel_rfl)
theorem Zsw (N : Nat) : Good Tryz.prog 39 (Zif N) := GF Zsu N Tryz.func39 (ctx_cons (Zst N) Zsr ctx_nil) (by kernel_rfl) (fun d => by kernel_rfl)
noncomputable def Zhu (N : Nat) : Sig := Sig.of [.v (.slice (.slice (.prod (.int .i64) (.prod (.int .i64) (.prod (.int .i64) (.int .i64)))))) false, .v (.slice (.slice (.prod (.int .i64) (.prod (.int .i64) (.prod (.int .i64) (.int .i64)))))) false] [.v (.bool) false] (fun d => Zc1 N d.1 d.2.1)
noncomputable def Zfn : Fn := ⟨Tryz.f12, fun | 4 => [.canon [0, 1, 5, 14]] | 5 => [.canon [0, 1, 5]] | 6 => [.canon [0, 1, 5, 26]] | 7 => [.canon [4]] | 100004 => [.canon [0, 1, 5]] | _ => [], Zhu, fun N => [(39, Zif N)]⟩
def Zn1 (a3 : List (List (Int × Int × Int × Int))) (b4 : List (List (Int × Int × Int × Int))) (i5 : Int) : St := ⟨[(0, vV (.slice (.slice (.prod (.int .i64) (.prod (.int .i64) (.prod (.int .i64) (.int .i64)))))) a3), (1, vV (.slice (.slice (.prod (.int .i64) (.prod (.int .i64) (.prod (.int .i64) (.int .i64)))))) b4), (5, vI i5)], [], 0⟩
def Zly (a3 : List (List (Int × Int × Int × Int))) (b4 : List (List (Int × Int × Int × Int))) : St := ⟨[(4, vB false)], [], 0⟩
def Zlz (a3 : List (List (Int × Int × Int × Int))) (b4 : List (List (Int × Int × Int × Int))) (i7 : Int) (t8 : Bool) : St := ⟨[(0, vV (.slice (.slice (.prod (.int .i64) (.prod (.int .i64) (.prod (.int .i64) (.int .i64)))))) a3), (1, vV (.slice (.slice (.prod (.int .i64) (.prod (.int .i64) (.prod (.int .i64) (.int .i64)))))) b4), (5, vI i7), (14, vB t8)], [], 0⟩
theorem Zn2 (N : Nat) {R : Type} (K : Ex → St → Option R) {a3 : List (List (Int × Int × Int × Int))} {b4 : List (List (Int × Int × Int × Int))} {K0 : Option R} {K1 : Int → Bool → Option R} (h0 : K0 = K .ret (Zly a3 b4)) (h1 : K1 = fun i7 t8 => K (.exit 0) (Zlz a3 b4 i7 t8)) (n : Nat) (i5 : Int) : Zbo N a3 b4 K0 K1 n i5 = LM Zfn N 0 100004 n (Zn1 a3 b4 i5) K := by
  subst h0 h1
  induction n generalizing i5 with
  | zero => kernel_rfl
  | succ n ih => rw [Zbo]; simp (disch := exact id (by kernel_rfl)) only [ih]; kernel_rfl
theorem Zri : Callable Tryz.prog 12 := callable_of Tryz.func12 (show chkFn Tryz.f12 = true by kernel_rfl)
theorem Zrj (N : Nat) (a1 : List (List (Int × Int × Int × Int))) (b2 : List (List (Int × Int × Int × Int))) : DN Zfn N (a1, b2, ()) = Zc1 N a1 b2 := by
  have h : Zc1 N a1 b2 = Zc1 N a1 b2 := rfl
  conv at h => rhs; rw [Zc1]
  simp (disch := exact id (by kernel_rfl)) only [Zn2 (R := Unit × (Bool × Unit)) N (CF Zfn N [1, 1, 0, 1, 0])] at h
  exact Eq.trans (by kernel_rfl) h.symm
theorem Zrk (N : Nat) : Good Tryz.prog 12 (Zhu N) := GF Zfn N Tryz.func12 (ctx_cons (Zsw N) Zsv ctx_nil) (by kernel_rfl) (fun d => Zrj N d.1 d.2.1)
noncomputable def Zhv (N : Nat) : Sig := Sig.of [.v (.slice (.int .i64)) false, .v (.slice (.int .i64)) false] [.v (.bool) false] (fun d => Zax N d.1 d.2.1)
noncomputable def Zfo : Fn := ⟨Tryz.f13, fun | 4 => [.canon [0, 1, 5, 14]] | 5 => [.canon [0, 1, 5]] | 6 => [.canon [0, 1, 5, 25]] | 7 => [.canon [4]] | 100004 => [.canon [0, 1, 5]] | _ => [], Zhv, noCtx⟩
def Zn3 (a3 : List Int) (b4 : List Int) (i5 : Int) : St := ⟨[(0, vV (.slice (.int .i64)) a3), (1, vV (.slice (.int .i64)) b4), (5, vI i5)], [], 0⟩
def Zl0 (a3 : List Int) (b4 : List Int) : St := ⟨[(4, vB false)], [], 0⟩
def Zl1 (a3 : List Int) (b4 : List Int) (i6 : Int) (t7 : Bool) : St := ⟨[(0, vV (.slice (.int .i64)) a3), (1, vV (.slice (.int .i64)) b4), (5, vI i6), (14, vB t7)], [], 0⟩
theorem Zn4 (N : Nat) {R : Type} (K : Ex → St → Option R) {a3 : List Int} {b4 : List Int} {K0 : Option R} {K1 : Int → Bool → Option R} (h0 : K0 = K .ret (Zl0 a3 b4)) (h1 : K1 = fun i6 t7 => K (.exit 0) (Zl1 a3 b4 i6 t7)) (n : Nat) (i5 : Int) : Zbe N a3 b4 K0 K1 n i5 = LM Zfo N 0 100004 n (Zn3 a3 b4 i5) K := by
  subst h0 h1
  induction n generalizing i5 with
  | zero => kernel_rfl
  | succ n ih => rw [Zbe]; simp (disch := exact id (by kernel_rfl)) only [ih]; kernel_rfl
theorem Zrl : Callable Tryz.prog 13 := callable_of Tryz.func13 (show chkFn Tryz.f13 = true by kernel_rfl)
theorem Zrm (N : Nat) (a1 : List Int) (b2 : List Int) : DN Zfo N (a1, b2, ()) = Zax N a1 b2 := by
  have h : Zax N a1 b2 = Zax N a1 b2 := rfl
  conv at h => rhs; rw [Zax]
  simp (disch := exact id (by kernel_rfl)) only [Zn4 (R := Unit × (Bool × Unit)) N (CF Zfo N [1, 1, 0, 1, 0])] at h
  exact Eq.trans (by kernel_rfl) h.symm
theorem Zrn (N : Nat) : Good Tryz.prog 13 (Zhv N) := GF Zfo N Tryz.func13 ctx_nil (by kernel_rfl) (fun d => Zrm N d.1 d.2.1)
noncomputable def Zig (N : Nat) : Sig := Sig.of [.v (.prod (.int .i64) (.int .i64)) true, .v (.prod (.int .i64) (.int .i64)) true] [.v (.bool) false] (fun d => Zg6 N d.1 d.2.1)
noncomputable def Zsx : Fn := ⟨Tryz.f46, noAnn, Zig, noCtx⟩
theorem Zsy : Callable Tryz.prog 46 := callable_of Tryz.func46 (show chkFn Tryz.f46 = true by kernel_rfl)
theorem Zsz (N : Nat) : Good Tryz.prog 46 (Zig N) := GF Zsx N Tryz.func46 ctx_nil (by kernel_rfl) (fun d => by kernel_rfl)
noncomputable def Zhw (N : Nat) : Sig := Sig.of [.v (.slice (.prod (.int .i64) (.int .i64))) false, .v (.slice (.prod (.int .i64) (.int .i64))) false] [.v (.bool) false] (fun d => Zbz N d.1 d.2.1)
noncomputable def Zfp : Fn := ⟨Tryz.f22, fun | 4 => [.canon [0, 1, 5, 14]] | 5 => [.canon [0, 1, 5]] | 6 => [.canon [0, 1, 5, 26]] | 7 => [.canon [4]] | 100004 => [.canon [0, 1, 5]] | _ => [], Zhw, fun N => [(46, Zig N)]⟩
def Zn5 (a3 : List (Int × Int)) (b4 : List (Int × Int)) (i5 : Int) : St := ⟨[(0, vV (.slice (.prod (.int .i64) (.int .i64))) a3), (1, vV (.slice (.prod (.int .i64) (.int .i64))) b4), (5, vI i5)], [], 0⟩
def Zl2 (a3 : List (Int × Int)) (b4 : List (Int × Int)) : St := ⟨[(4, vB false)], [], 0⟩
def Zl3 (a3 : List (Int × Int)) (b4 : List (Int × Int)) (i7 : Int) (t8 : Bool) : St := ⟨[(0, vV (.slice (.prod (.int .i64) (.int .i64))) a3), (1, vV (.slice (.prod (.int .i64) (.int .i64))) b4), (5, vI i7), (14, vB t8)], [], 0⟩
theorem Zn6 (N : Nat) {R : Type} (K : Ex → St → Option R) {a3 : List (Int × Int)} {b4 : List (Int × Int)} {K0 : Option R} {K1 : Int → Bool → Option R} (h0 : K0 = K .ret (Zl2 a3 b4)) (h1 : K1 = fun i7 t8 => K (.exit 0) (Zl3 a3 b4 i7 t8)) (n : Nat) (i5 : Int) : Zbj N a3 b4 K0 K1 n i5 = LM Zfp N 0 100004 n (Zn5 a3 b4 i5) K := by
  subst h0 h1
  induction n generalizing i5 with
  | zero => kernel_rfl
  | succ n ih => rw [Zbj]; simp (disch := exact id (by kernel_rfl)) only [ih]; kernel_rfl
theorem Zro : Callable Tryz.prog 22 := callable_of Tryz.func22 (show chkFn Tryz.f22 = true by kernel_rfl)
theorem Zrp (N : Nat) (a1 : List (Int × Int)) (b2 : List (Int × Int)) : DN Zfp N (a1, b2, ()) = Zbz N a1 b2 := by
  have h : Zbz N a1 b2 = Zbz N a1 b2 := rfl
  conv at h => rhs; rw [Zbz]
  simp (disch := exact id (by kernel_rfl)) only [Zn6 (R := Unit × (Bool × Unit)) N (CF Zfp N [1, 1, 0, 1, 0])] at h
  exact Eq.trans (by kernel_rfl) h.symm
theorem Zrq (N : Nat) : Good Tryz.prog 22 (Zhw N) := GF Zfp N Tryz.func22 (ctx_cons (Zsz N) Zsy ctx_nil) (by kernel_rfl) (fun d => Zrp N d.1 d.2.1)
noncomputable def Zgk (N : Nat) : Sig := Sig.of [.v (.slice (.slice (.prod (.int .i64) (.prod (.int .i64) (.prod (.int .i64) (.int .i64)))))) false, .v (.slice (.int .i64)) false, .v (.slice (.int .i64)) false, .v (.slice (.prod (.int .i64) (.int .i64))) false] [.v (.bool) false] (fun d => Zco N d.1 d.2.1 d.2.2.1 d.2.2.2.1)
noncomputable def Zjw : Fn := ⟨Tryz.f4, noAnn, Zgk, fun N => [(6, Zhc N), (18, Zhd N), (8, Zhe N), (9, Zhf N), (20, Zhg N), (19, Zhl N), (21, Zht N), (12, Zhu N), (13, Zhv N), (22, Zhw N)]⟩
theorem Ztb : Callable Tryz.prog 4 := callable_of Tryz.func4 (show chkFn Tryz.f4 = true by kernel_rfl)
theorem Zjx (N : Nat) : Good Tryz.prog 4 (Zgk N) := GF Zjw N Tryz.func4 (ctx_cons (Zp4 N) Zp2 (ctx_cons (Zp7 N) Zp6 (ctx_cons (Zqa N) Zp8 (ctx_cons (Zqd N) Zqb (ctx_cons (Zqg N) Zqe (ctx_cons (Zq2 N) Zq0 (ctx_cons (Zrh N) Zrf (ctx_cons (Zrk N) Zri (ctx_cons (Zrn N) Zrl (ctx_cons (Zrq N) Zro ctx_nil)))))))))) (by kernel_rfl) (fun d => by kernel_rfl)
end Go.Sx
