/- Each Go function does what its Lean function says. -/
import Derived.Test.YtceckfecihemnaaGreatT
import Derived.Test.YtceckfecihemnaaGreatProg
import Derived.Test.YtceckfecihemnaaGreatLay
namespace Go.Sx
open Go.Proofs
set_option linter.unusedVariables false
set_option linter.unusedSimpArgs false
def tab : Tab := [(3, ⟨.int .i64, false, .basic⟩), (4, ⟨.bool, false, .basic⟩), (22, ⟨.slice (.slice (.prod (.int .i64) (.prod (.int .i64) (.prod (.int .i64) (.int .i64))))), false, .slice 56⟩), (23, ⟨.slice (.int .i64), false, .slice 3⟩), (26, ⟨.prod (.int .i64) (.prod (.slice (.int .i64)) (.prod (.slice (.int .i64)) (.slice (.int .i64)))), true, .struct [(0, 3), (1, 23), (2, 23), (3, 23)]⟩), (28, ⟨.slice (.slice (.prod (.int .i64) (.prod (.int .i64) (.prod (.int .i64) (.int .i64))))), false, .slice 63⟩), (41, ⟨.slice (.prod (.int .i64) (.int .i64)), false, .slice 52⟩), (52, ⟨.prod (.int .i64) (.int .i64), true, .struct [(0, 3), (1, 3)]⟩), (54, ⟨.slice (.prod (.int .i64) (.prod (.int .i64) (.prod (.int .i64) (.int .i64)))), false, .slice 124⟩), (56, ⟨.slice (.prod (.int .i64) (.prod (.int .i64) (.prod (.int .i64) (.int .i64)))), true, .struct [(0, 54)]⟩), (58, ⟨.slice (.bool), false, .slice 4⟩), (61, ⟨.slice (.prod (.int .i64) (.prod (.int .i64) (.prod (.int .i64) (.int .i64)))), false, .slice 90⟩), (63, ⟨.slice (.prod (.int .i64) (.prod (.int .i64) (.prod (.int .i64) (.int .i64)))), true, .struct [(0, 61)]⟩), (84, ⟨.prod (.slice (.int .i64)) (.prod (.slice (.int .i64)) (.int .i64)), true, .struct [(0, 23), (1, 23), (2, 3)]⟩), (86, ⟨.prod (.int .i64) (.prod (.slice (.int .i64)) (.prod (.slice (.int .i64)) (.prod (.slice (.int .i64)) (.int .i64)))), true, .struct [(0, 3), (1, 23), (2, 84)]⟩), (88, ⟨.slice (.prod (.int .i64) (.prod (.slice (.int .i64)) (.prod (.slice (.int .i64)) (.slice (.bool))))), false, .slice 93⟩), (90, ⟨.prod (.int .i64) (.prod (.int .i64) (.prod (.int .i64) (.int .i64))), true, .struct [(0, 3), (1, 3), (2, 3), (3, 3)]⟩), (93, ⟨.prod (.int .i64) (.prod (.slice (.int .i64)) (.prod (.slice (.int .i64)) (.slice (.bool)))), true, .struct [(0, 3), (1, 23), (2, 23), (3, 58)]⟩), (103, ⟨.slice (.prod (.int .i64) (.prod (.int .i64) (.slice (.int .i64)))), false, .slice 135⟩), (105, ⟨.prod (.slice (.int .i64)) (.prod (.slice (.int .i64)) (.prod (.slice (.prod (.int .i64) (.int .i64))) (.prod (.int .i64) (.prod (.slice (.prod (.int .i64) (.prod (.int .i64) (.slice (.int .i64))))) (.slice (.int .i64)))))), true, .struct [(0, 23), (1, 23), (2, 41), (3, 3), (4, 103), (5, 23)]⟩), (119, ⟨.slice (.prod (.int .i64) (.prod (.slice (.int .i64)) (.prod (.slice (.int .i64)) (.prod (.slice (.int .i64)) (.int .i64))))), false, .slice 121⟩), (121, ⟨.prod (.int .i64) (.prod (.slice (.int .i64)) (.prod (.slice (.int .i64)) (.prod (.slice (.int .i64)) (.int .i64)))), true, .struct [(0, 3), (1, 23), (2, 84)]⟩), (124, ⟨.prod (.int .i64) (.prod (.int .i64) (.prod (.int .i64) (.int .i64))), true, .struct [(0, 3), (1, 3), (2, 3), (3, 3)]⟩), (126, ⟨.slice (.prod (.int .i64) (.prod (.slice (.int .i64)) (.prod (.slice (.int .i64)) (.prod (.slice (.int .i64)) (.int .i64))))), false, .slice 128⟩), (128, ⟨.prod (.int .i64) (.prod (.slice (.int .i64)) (.prod (.slice (.int .i64)) (.prod (.slice (.int .i64)) (.int .i64)))), true, .struct [(0, 3), (1, 23), (2, 84)]⟩), (135, ⟨.prod (.int .i64) (.prod (.int .i64) (.slice (.int .i64))), true, .struct [(0, 3), (1, 3), (2, 23)]⟩)]
theorem mixedOk : Tryz.prog.follows .mixedOrders = true := by kernel_rfl
theorem tabOk : TabOk Tryz.prog tab := tab_ok (show chkTab Tryz.prog tab tab = true by kernel_rfl)
noncomputable def LM (x : Fn) (N : Nat) {R : Type} (i k n : Nat) (st : St) (K : Ex → St → Option R) : Option R := lpM tab (x.c N) x.a N x.F i k n st K
noncomputable def CF (x : Fn) (N : Nat) (p : List Nat) : Ex → St → Option (Qs (x.s N)) := cxF tab (x.c N) x.a N (x.s N) x.F p
noncomputable def CL (x : Fn) (N : Nat) {R : Type} (i k : Nat) (p : List Nat) (n : Nat) (K : Ex → St → Option R) : Ex → St → Option R := cxL tab (x.c N) x.a N x.F i k p n K
noncomputable def DN (x : Fn) (N : Nat) (d : PDen (x.s N).ps) : Option (Qs (x.s N)) := den (R := Qs (x.s N)) tab (x.c N) x.a N (x.s N) x.F d some
theorem GF (x : Fn) {k : FuncId} (N : Nat) (hf : Tryz.prog.funcs[k]? = some x.F) (hc : CtxOk Tryz.prog (x.c N)) (hok : chkBody x.F (x.s N).ps = true) (h : ∀ d, DN x N d = (x.s N).run d) : Good Tryz.prog k (x.s N) :=
  good_body mixedOk tabOk hc hf hok (fun d _ e => ⟨N, (h d).trans e⟩)
noncomputable def Zhk (N : Nat) : Sig := Sig.of [.v (.slice (.prod (.int .i64) (.prod (.int .i64) (.prod (.int .i64) (.int .i64))))) false, .v (.int .i64) false] [.v (.int .i64) false] (fun d => Zgv N d.1 d.2.1)
noncomputable def Zqz : Fn := ⟨Tryz.f53, noAnn, Zhk, noCtx⟩
theorem Zq0 : Callable Tryz.prog 53 := callable_of Tryz.func53 (show chkFn Tryz.f53 = true by kernel_rfl)
theorem Zq1 (N : Nat) : Good Tryz.prog 53 (Zhk N) := GF Zqz N Tryz.func53 ctx_nil (by kernel_rfl) (fun d => by kernel_rfl)
noncomputable def Zhl (N : Nat) : Sig := Sig.of [.v (.slice (.prod (.int .i64) (.prod (.int .i64) (.prod (.int .i64) (.int .i64))))) true, .v (.int .i64) false] [.v (.int .i64) false] (fun d => Zgw N d.1 d.2.1)
noncomputable def Zq2 : Fn := ⟨Tryz.f27, noAnn, Zhl, fun N => [(53, Zhk N)]⟩
theorem Zq3 : Callable Tryz.prog 27 := callable_of Tryz.func27 (show chkFn Tryz.f27 = true by kernel_rfl)
theorem Zq4 (N : Nat) : Good Tryz.prog 27 (Zhl N) := GF Zq2 N Tryz.func27 (ctx_cons (Zq1 N) Zq0 ctx_nil) (by kernel_rfl) (fun d => by kernel_rfl)
noncomputable def Zg0 (N : Nat) : Sig := Sig.of [.v (.slice (.slice (.prod (.int .i64) (.prod (.int .i64) (.prod (.int .i64) (.int .i64)))))) false, .v (.int .i64) false] [.v (.int .i64) false] (fun d => Zcs N d.1 d.2.1)
noncomputable def Zey : Fn := ⟨Tryz.f6, fun | 5 => [.canon [0, 1, 5, 15]] | 6 => [.canon [0, 1, 5]] | 7 => [.canon [0, 1, 5]] | 8 => [.canon [0, 1, 5, 25]] | 9 => [.canon [4]] | 100005 => [.canon [0, 1, 5]] | _ => [], Zg0, fun N => [(27, Zhl N)]⟩
def Zlp (a3 : List (List (Int × Int × Int × Int))) (left4 : Int) (i5 : Int) : St := ⟨[(0, vV (.slice (.slice (.prod (.int .i64) (.prod (.int .i64) (.prod (.int .i64) (.int .i64)))))) a3), (1, vI left4), (5, vI i5)], [], 0⟩
def Zj4 (a3 : List (List (Int × Int × Int × Int))) : St := ⟨[(4, vI (-1 : Int))], [], 0⟩
def Zj5 (a3 : List (List (Int × Int × Int × Int))) (left7 : Int) (i8 : Int) (t9 : Bool) : St := ⟨[(0, vV (.slice (.slice (.prod (.int .i64) (.prod (.int .i64) (.prod (.int .i64) (.int .i64)))))) a3), (1, vI left7), (5, vI i8), (15, vB t9)], [], 0⟩
theorem Zlq (N : Nat) {R : Type} (K : Ex → St → Option R) {a3 : List (List (Int × Int × Int × Int))} {K0 : Option R} {K1 : Int → Int → Bool → Option R} (h0 : K0 = K .ret (Zj4 a3)) (h1 : K1 = fun left7 i8 t9 => K (.exit 0) (Zj5 a3 left7 i8 t9)) (n : Nat) (left4 : Int) (i5 : Int) : Zbi N a3 K0 K1 n left4 i5 = LM Zey N 0 100005 n (Zlp a3 left4 i5) K := by
  subst h0 h1
  induction n generalizing left4 i5 with
  | zero => kernel_rfl
  | succ n ih => rw [Zbi]; simp (disch := exact id (by kernel_rfl)) only [ih]; kernel_rfl
theorem Zpk : Callable Tryz.prog 6 := callable_of Tryz.func6 (show chkFn Tryz.f6 = true by kernel_rfl)
theorem Zpl (N : Nat) (a1 : List (List (Int × Int × Int × Int))) (left2 : Int) : DN Zey N (a1, left2, ()) = Zcs N a1 left2 := by
  have h : Zcs N a1 left2 = Zcs N a1 left2 := rfl
  conv at h => rhs; rw [Zcs]
  simp (disch := exact id (by kernel_rfl)) only [Zlq (R := Unit × (Int × Unit)) N (CF Zey N [1, 1, 1, 0, 1, 0])] at h
  exact Eq.trans (by kernel_rfl) h.symm
theorem Zpm (N : Nat) : Good Tryz.prog 6 (Zg0 N) := GF Zey N Tryz.func6 (ctx_cons (Zq4 N) Zq3 ctx_nil) (by kernel_rfl) (fun d => Zpl N d.1 d.2.1)
noncomputable def Zh9 (N : Nat) : Sig := Sig.of [.v (.prod (.int .i64) (.prod (.int .i64) (.prod (.int .i64) (.int .i64)))) true] [.v (.prod (.int .i64) (.prod (.int .i64) (.prod (.int .i64) (.int .i64)))) true] (fun d => Zh3 N d.1)
noncomputable def Zr2 : Fn := ⟨Tryz.f85, noAnn, Zh9, noCtx⟩
theorem Zr3 : Callable Tryz.prog 85 := callable_of Tryz.func85 (show chkFn Tryz.f85 = true by kernel_rfl)
theorem Zr4 (N : Nat) : Good Tryz.prog 85 (Zh9 N) := GF Zr2 N Tryz.func85 ctx_nil (by kernel_rfl) (fun d => by kernel_rfl)
noncomputable def Zhm (N : Nat) : Sig := Sig.of [.v (.slice (.prod (.int .i64) (.prod (.int .i64) (.prod (.int .i64) (.int .i64))))) false] [.v (.own (.prod (.int .i64) (.prod (.int .i64) (.prod (.int .i64) (.int .i64))))) false] (fun d => Zc6 N d.1)
noncomputable def Zfo : Fn := ⟨Tryz.f60, fun | 3 => [.canon [0, 3, 4, 11]] | 4 => [.canon [0, 3, 4]] | 5 => [.canon [0, 3, 4]] | 100003 => [.canon [0, 3, 4]] | _ => [], Zhm, fun N => [(85, Zh9 N)]⟩
def Zni (a2 : List (Int × Int × Int × Int)) (i3 : Int) (l4 : List (Int × Int × Int × Int)) : St := ⟨[(0, vV (.slice (.prod (.int .i64) (.prod (.int .i64) (.prod (.int .i64) (.int .i64))))) a2), (3, vO 0), (4, vI i3)], [(0, .arr (.prod (.int .i64) (.prod (.int .i64) (.prod (.int .i64) (.int .i64)))) l4)], 1⟩
def Zlr (a2 : List (Int × Int × Int × Int)) (i6 : Int) (t7 : Bool) (l8 : List (Int × Int × Int × Int)) : St := ⟨[(0, vV (.slice (.prod (.int .i64) (.prod (.int .i64) (.prod (.int .i64) (.int .i64))))) a2), (3, vO 0), (4, vI i6), (11, vB t7)], [(0, .arr (.prod (.int .i64) (.prod (.int .i64) (.prod (.int .i64) (.int .i64)))) l8)], 1⟩
theorem Znj (N : Nat) {R : Type} (K : Ex → St → Option R) {a2 : List (Int × Int × Int × Int)} {K0 : Int → Bool → (List (Int × Int × Int × Int)) → Option R} (h0 : K0 = fun i6 t7 l8 => K (.exit 0) (Zlr a2 i6 t7 l8)) (n : Nat) (i3 : Int) (l4 : List (Int × Int × Int × Int)) : Zby N a2 K0 n i3 l4 = LM Zfo N 0 100003 n (Zni a2 i3 l4) K := by
  subst h0
  induction n generalizing i3 l4 with
  | zero => kernel_rfl
  | succ n ih => rw [Zby]; simp (disch := exact id (by kernel_rfl)) only [ih]; kernel_rfl
theorem Zq5 : Callable Tryz.prog 60 := callable_of Tryz.func60 (show chkFn Tryz.f60 = true by kernel_rfl)
theorem Zq6 (N : Nat) (a1 : List (Int × Int × Int × Int)) : DN Zfo N (a1, ()) = Zc6 N a1 := by
  have h : Zc6 N a1 = Zc6 N a1 := rfl
  conv at h => rhs; rw [Zc6]
  simp (disch := exact id (by kernel_rfl)) only [Znj (R := Unit × ((List (Int × Int × Int × Int)) × Unit)) N (CF Zfo N [1, 1, 0, 1, 0])] at h
  exact Eq.trans (by kernel_rfl) h.symm
theorem Zq7 (N : Nat) : Good Tryz.prog 60 (Zhm N) := GF Zfo N Tryz.func60 (ctx_cons (Zr4 N) Zr3 ctx_nil) (by kernel_rfl) (fun d => Zq6 N d.1)
noncomputable def Zhn (N : Nat) : Sig := Sig.of [.v (.slice (.prod (.int .i64) (.prod (.int .i64) (.prod (.int .i64) (.int .i64))))) true] [.v (.own (.prod (.int .i64) (.prod (.int .i64) (.prod (.int .i64) (.int .i64))))) true] (fun d => Zgx N d.1)
noncomputable def Zq8 : Fn := ⟨Tryz.f32, noAnn, Zhn, fun N => [(60, Zhm N)]⟩
theorem Zq9 : Callable Tryz.prog 32 := callable_of Tryz.func32 (show chkFn Tryz.f32 = true by kernel_rfl)
theorem Zra (N : Nat) : Good Tryz.prog 32 (Zhn N) := GF Zq8 N Tryz.func32 (ctx_cons (Zq7 N) Zq5 ctx_nil) (by kernel_rfl) (fun d => by kernel_rfl)
noncomputable def Zg1 (N : Nat) : Sig := Sig.of [.v (.slice (.slice (.prod (.int .i64) (.prod (.int .i64) (.prod (.int .i64) (.int .i64)))))) false] [.v (.own (.own (.prod (.int .i64) (.prod (.int .i64) (.prod (.int .i64) (.int .i64)))))) false] (fun d => Zax N d.1)
noncomputable def Zez : Fn := ⟨Tryz.f8, fun | 1 => [.nest 7 (.own (.prod (.int .i64) (.prod (.int .i64) (.prod (.int .i64) (.int .i64)))))] | 3 => [.canon [0, 3, 4, 11]] | 4 => [.canon [0, 3, 4]] | 5 => [.canon [0, 3, 4]] | 100003 => [.canon [0, 3, 4]] | _ => [], Zg1, fun N => [(32, Zhn N)]⟩
def Zls (a2 : List (List (Int × Int × Int × Int))) (i3 : Int) (l4 : List (List (Int × Int × Int × Int))) : St := ⟨[(0, vV (.slice (.slice (.prod (.int .i64) (.prod (.int .i64) (.prod (.int .i64) (.int .i64)))))) a2), (3, vO 0), (4, vI i3)], [(0, .arr (.own (.prod (.int .i64) (.prod (.int .i64) (.prod (.int .i64) (.int .i64))))) l4)], 1⟩
def Zj6 (a2 : List (List (Int × Int × Int × Int))) (i6 : Int) (t7 : Bool) (l8 : List (List (Int × Int × Int × Int))) : St := ⟨[(0, vV (.slice (.slice (.prod (.int .i64) (.prod (.int .i64) (.prod (.int .i64) (.int .i64)))))) a2), (3, vO 0), (4, vI i6), (11, vB t7)], [(0, .arr (.own (.prod (.int .i64) (.prod (.int .i64) (.prod (.int .i64) (.int .i64))))) l8)], 1⟩
theorem Zlt (N : Nat) {R : Type} (K : Ex → St → Option R) {a2 : List (List (Int × Int × Int × Int))} {K0 : Int → Bool → (List (List (Int × Int × Int × Int))) → Option R} (h0 : K0 = fun i6 t7 l8 => K (.exit 0) (Zj6 a2 i6 t7 l8)) (n : Nat) (i3 : Int) (l4 : List (List (Int × Int × Int × Int))) : Zbj N a2 K0 n i3 l4 = LM Zez N 0 100003 n (Zls a2 i3 l4) K := by
  subst h0
  induction n generalizing i3 l4 with
  | zero => kernel_rfl
  | succ n ih => rw [Zbj]; simp (disch := exact id (by kernel_rfl)) only [ih]; kernel_rfl
theorem Zpn : Callable Tryz.prog 8 := callable_of Tryz.func8 (show chkFn Tryz.f8 = true by kernel_rfl)
theorem Zpo (N : Nat) (a1 : List (List (Int × Int × Int × Int))) : DN Zez N (a1, ()) = Zax N a1 := by
  have h : Zax N a1 = Zax N a1 := rfl
  conv at h => rhs; rw [Zax]
  simp (disch := exact id (by kernel_rfl)) only [Zlt (R := Unit × ((List (List (Int × Int × Int × Int))) × Unit)) N (CF Zez N [1, 1, 0, 1, 0])] at h
  exact Eq.trans (by kernel_rfl) h.symm
theorem Zpp (N : Nat) : Good Tryz.prog 8 (Zg1 N) := GF Zez N Tryz.func8 (ctx_cons (Zra N) Zq9 ctx_nil) (by kernel_rfl) (fun d => Zpo N d.1)
noncomputable def Zg2 (N : Nat) : Sig := Sig.of [.v (.slice (.int .i64)) false] [.v (.own (.int .i64)) false] (fun d => Z7 N d.1)
noncomputable def Ze0 : Fn := ⟨Tryz.f9, fun | 3 => [.canon [0, 3, 4, 11]] | 4 => [.canon [0, 3, 4]] | 5 => [.canon [0, 3, 4]] | 100003 => [.canon [0, 3, 4]] | _ => [], Zg2, noCtx⟩
def Zlu (a2 : List Int) (i3 : Int) (l4 : List Int) : St := ⟨[(0, vV (.slice (.int .i64)) a2), (3, vO 0), (4, vI i3)], [(0, .arr (.int .i64) l4)], 1⟩
def Zj7 (a2 : List Int) (i5 : Int) (t6 : Bool) (l7 : List Int) : St := ⟨[(0, vV (.slice (.int .i64)) a2), (3, vO 0), (4, vI i5), (11, vB t6)], [(0, .arr (.int .i64) l7)], 1⟩
theorem Zlv (N : Nat) {R : Type} (K : Ex → St → Option R) {a2 : List Int} {K0 : Int → Bool → (List Int) → Option R} (h0 : K0 = fun i5 t6 l7 => K (.exit 0) (Zj7 a2 i5 t6 l7)) (n : Nat) (i3 : Int) (l4 : List Int) : Zbe N a2 K0 n i3 l4 = LM Ze0 N 0 100003 n (Zlu a2 i3 l4) K := by
  subst h0
  induction n generalizing i3 l4 with
  | zero => kernel_rfl
  | succ n ih => rw [Zbe]; simp (disch := exact id (by kernel_rfl)) only [ih]; kernel_rfl
theorem Zpq : Callable Tryz.prog 9 := callable_of Tryz.func9 (show chkFn Tryz.f9 = true by kernel_rfl)
theorem Zpr (N : Nat) (a1 : List Int) : DN Ze0 N (a1, ()) = Z7 N a1 := by
  have h : Z7 N a1 = Z7 N a1 := rfl
  conv at h => rhs; rw [Z7]
  simp (disch := exact id (by kernel_rfl)) only [Zlv (R := Unit × ((List Int) × Unit)) N (CF Ze0 N [1, 1, 0, 1, 0])] at h
  exact Eq.trans (by kernel_rfl) h.symm
theorem Zps (N : Nat) : Good Tryz.prog 9 (Zg2 N) := GF Ze0 N Tryz.func9 ctx_nil (by kernel_rfl) (fun d => Zpr N d.1)
noncomputable def Zdr (N : Nat) : Sig := Sig.of [.v (.int .i64) false, .v (.int .i64) false, .v (.int .i64) false] [.v (.bool) false] (fun d => Zd N d.1 d.2.1 d.2.2.1)
noncomputable def Zr5 : Fn := ⟨Tryz.f109, noAnn, Zdr, noCtx⟩
theorem Zgd : Callable Tryz.prog 109 := callable_of Tryz.func109 (show chkFn Tryz.f109 = true by kernel_rfl)
theorem Zge (N : Nat) : Good Tryz.prog 109 (Zdr N) := GF Zr5 N Tryz.func109 ctx_nil (by kernel_rfl) (fun d => by kernel_rfl)
noncomputable def Zeb (N : Nat) : Sig := Sig.of [.v (.int .i64) false] [.v (.bool) false] (fun d => Zc5 N d.1)
noncomputable def Zrb : Fn := ⟨Tryz.f72, noAnn, Zeb, fun N => [(109, Zdr N)]⟩
theorem Zho : Callable Tryz.prog 72 := callable_of Tryz.func72 (show chkFn Tryz.f72 = true by kernel_rfl)
theorem Zhp (N : Nat) : Good Tryz.prog 72 (Zeb N) := GF Zrb N Tryz.func72 (ctx_cons (Zge N) Zgd ctx_nil) (by kernel_rfl) (fun d => by kernel_rfl)
noncomputable def Zdc (N : Nat) : Sig := Sig.of [.v (.slice (.int .i64)) false] [.v (.bool) false] (fun d => Zar N d.1)
noncomputable def Ze1 : Fn := ⟨Tryz.f54, fun | 4 => [.canon [0, 3, 10]] | 5 => [.canon [0, 3]] | 6 => [.canon [0, 3, 18]] | 7 => [.canon [2]] | 100004 => [.canon [0, 3]] | _ => [], Zdc, fun N => [(72, Zeb N)]⟩
def Zlw (l2 : List Int) (i3 : Int) : St := ⟨[(0, vV (.slice (.int .i64)) l2), (3, vI i3)], [], 0⟩
def Zj8 (l2 : List Int) : St := ⟨[(2, vB false)], [], 0⟩
def Zj9 (l2 : List Int) (i5 : Int) (t6 : Bool) : St := ⟨[(0, vV (.slice (.int .i64)) l2), (3, vI i5), (10, vB t6)], [], 0⟩
theorem Zlx (N : Nat) {R : Type} (K : Ex → St → Option R) {l2 : List Int} {K0 : Option R} {K1 : Int → Bool → Option R} (h0 : K0 = K .ret (Zj8 l2)) (h1 : K1 = fun i5 t6 => K (.exit 0) (Zj9 l2 i5 t6)) (n : Nat) (i3 : Int) : Zbk N l2 K0 K1 n i3 = LM Ze1 N 0 100004 n (Zlw l2 i3) K := by
  subst h0 h1
  induction n generalizing i3 with
  | zero => kernel_rfl
  | succ n ih => rw [Zbk]; simp (disch := exact id (by kernel_rfl)) only [ih]; kernel_rfl
theorem Ze2 : Callable Tryz.prog 54 := callable_of Tryz.func54 (show chkFn Tryz.f54 = true by kernel_rfl)
theorem Zpt (N : Nat) (l1 : List Int) : DN Ze1 N (l1, ()) = Zar N l1 := by
  have h : Zar N l1 = Zar N l1 := rfl
  conv at h => rhs; rw [Zar]
  simp (disch := exact id (by kernel_rfl)) only [Zlx (R := Unit × (Bool × Unit)) N (CF Ze1 N [1, 1, 0, 1, 0])] at h
  exact Eq.trans (by kernel_rfl) h.symm
theorem Ze3 (N : Nat) : Good Tryz.prog 54 (Zdc N) := GF Ze1 N Tryz.func54 (ctx_cons (Zhp N) Zho ctx_nil) (by kernel_rfl) (fun d => Zpt N d.1)
noncomputable def Zdv (N : Nat) : Sig := Sig.of [.v (.slice (.int .i64)) false] [.v (.bool) false] (fun d => Zao N d.1)
noncomputable def Ze4 : Fn := ⟨Tryz.f52, fun | 4 => [.canon [0, 3, 10]] | 5 => [.canon [0, 3]] | 6 => [.canon [0, 3, 18]] | 7 => [.canon [2]] | 100004 => [.canon [0, 3]] | _ => [], Zdv, fun N => [(72, Zeb N)]⟩
def Zly (l2 : List Int) (i3 : Int) : St := ⟨[(0, vV (.slice (.int .i64)) l2), (3, vI i3)], [], 0⟩
def Zka (l2 : List Int) : St := ⟨[(2, vB false)], [], 0⟩
def Zkb (l2 : List Int) (i5 : Int) (t6 : Bool) : St := ⟨[(0, vV (.slice (.int .i64)) l2), (3, vI i5), (10, vB t6)], [], 0⟩
theorem Zlz (N : Nat) {R : Type} (K : Ex → St → Option R) {l2 : List Int} {K0 : Option R} {K1 : Int → Bool → Option R} (h0 : K0 = K .ret (Zka l2)) (h1 : K1 = fun i5 t6 => K (.exit 0) (Zkb l2 i5 t6)) (n : Nat) (i3 : Int) : Zbg N l2 K0 K1 n i3 = LM Ze4 N 0 100004 n (Zly l2 i3) K := by
  subst h0 h1
  induction n generalizing i3 with
  | zero => kernel_rfl
  | succ n ih => rw [Zbg]; simp (disch := exact id (by kernel_rfl)) only [ih]; kernel_rfl
theorem Zg3 : Callable Tryz.prog 52 := callable_of Tryz.func52 (show chkFn Tryz.f52 = true by kernel_rfl)
theorem Zpu (N : Nat) (l1 : List Int) : DN Ze4 N (l1, ()) = Zao N l1 := by
  have h : Zao N l1 = Zao N l1 := rfl
  conv at h => rhs; rw [Zao]
  simp (disch := exact id (by kernel_rfl)) only [Zlz (R := Unit × (Bool × Unit)) N (CF Ze4 N [1, 1, 0, 1, 0])] at h
  exact Eq.trans (by kernel_rfl) h.symm
theorem Zg4 (N : Nat) : Good Tryz.prog 52 (Zdv N) := GF Ze4 N Tryz.func52 (ctx_cons (Zhp N) Zho ctx_nil) (by kernel_rfl) (fun d => Zpu N d.1)
noncomputable def Zhq (N : Nat) : Sig := Sig.of [.v (.int .i64) false] [.v (.bool) false] (fun d => Za N d.1)
noncomputable def Zrc : Fn := ⟨Tryz.f115, noAnn, Zhq, fun N => [(109, Zdr N)]⟩
theorem Zrd : Callable Tryz.prog 115 := callable_of Tryz.func115 (show chkFn Tryz.f115 = true by kernel_rfl)
theorem Zre (N : Nat) : Good Tryz.prog 115 (Zhq N) := GF Zrc N Tryz.func115 (ctx_cons (Zge N) Zgd ctx_nil) (by kernel_rfl) (fun d => by kernel_rfl)
noncomputable def Zg5 (N : Nat) : Sig := Sig.of [.v (.int .i64) false] [.v (.bool) false] (fun d => Zap N d.1)
noncomputable def Zpv : Fn := ⟨Tryz.f71, noAnn, Zg5, fun N => [(109, Zdr N)]⟩
theorem Zpw : Callable Tryz.prog 71 := callable_of Tryz.func71 (show chkFn Tryz.f71 = true by kernel_rfl)
theorem Zpx (N : Nat) : Good Tryz.prog 71 (Zg5 N) := GF Zpv N Tryz.func71 (ctx_cons (Zge N) Zgd ctx_nil) (by kernel_rfl) (fun d => by kernel_rfl)
noncomputable def Zep (N : Nat) : Sig := Sig.of [.v (.prod (.int .i64) (.prod (.int .i64) (.prod (.int .i64) (.int .i64)))) true] [.v (.bool) false] (fun d => Zk N d.1)
noncomputable def Zr6 : Fn := ⟨Tryz.f84, noAnn, Zep, fun N => [(115, Zhq N), (72, Zeb N), (71, Zg5 N), (109, Zdr N)]⟩
theorem Zia : Callable Tryz.prog 84 := callable_of Tryz.func84 (show chkFn Tryz.f84 = true by kernel_rfl)
theorem Zib (N : Nat) : Good Tryz.prog 84 (Zep N) := GF Zr6 N Tryz.func84 (ctx_cons (Zre N) Zrd (ctx_cons (Zhp N) Zho (ctx_cons (Zpx N) Zpw (ctx_cons (Zge N) Zgd ctx_nil)))) (by kernel_rfl) (fun d => by kernel_rfl)
noncomputable def Zg6 (N : Nat) : Sig := Sig.of [.v (.slice (.prod (.int .i64) (.prod (.int .i64) (.prod (.int .i64) (.int .i64))))) false, .v (.int .i64) false] [.v (.bool) false] (fun d => Zct N d.1 d.2.1)
noncomputable def Ze5 : Fn := ⟨Tryz.f114, fun | 6 => [.canon [0, 5, 6, 7, 24]] | 7 => [.canon [0, 5, 6, 7]] | 8 => [.canon [0, 5, 6, 7, 32]] | 9 => [.canon [0, 5, 6, 7]] | 10 => [.canon [0, 5, 6, 7, 40]] | 11 => [.canon [0, 5, 6, 7]] | 12 => [.canon [0, 5, 6, 7, 44]] | 13 => [.canon [4]] | 100006 => [.canon [0, 5, 6, 7]] | _ => [], Zg6, noCtx⟩
def Zl0 (code3 : List (Int × Int × Int × Int)) (to4 : Int) (d5 : Int) (k6 : Int) : St := ⟨[(0, vV (.slice (.prod (.int .i64) (.prod (.int .i64) (.prod (.int .i64) (.int .i64))))) code3), (5, vI to4), (6, vI d5), (7, vI k6)], [], 0⟩
def Zkc (code3 : List (Int × Int × Int × Int)) (to4 : Int) : St := ⟨[(4, vB false)], [], 0⟩
def Zkd (code3 : List (Int × Int × Int × Int)) (to4 : Int) (d7 : Int) (k8 : Int) (t9 : Bool) : St := ⟨[(0, vV (.slice (.prod (.int .i64) (.prod (.int .i64) (.prod (.int .i64) (.int .i64))))) code3), (5, vI to4), (6, vI d7), (7, vI k8), (24, vB t9)], [], 0⟩
theorem Zl1 (N : Nat) {R : Type} (K : Ex → St → Option R) {code3 : List (Int × Int × Int × Int)} {to4 : Int} {K0 : Option R} {K1 : Int → Int → Bool → Option R} (h0 : K0 = K .ret (Zkc code3 to4)) (h1 : K1 = fun d7 k8 t9 => K (.exit 0) (Zkd code3 to4 d7 k8 t9)) (n : Nat) (d5 : Int) (k6 : Int) : Z8 N code3 to4 K0 K1 n d5 k6 = LM Ze5 N 0 100006 n (Zl0 code3 to4 d5 k6) K := by
  subst h0 h1
  induction n generalizing d5 k6 with
  | zero => kernel_rfl
  | succ n ih => rw [Z8]; simp (disch := exact id (by kernel_rfl)) only [ih]; kernel_rfl
theorem Zpy : Callable Tryz.prog 114 := callable_of Tryz.func114 (show chkFn Tryz.f114 = true by kernel_rfl)
theorem Zpz (N : Nat) (code1 : List (Int × Int × Int × Int)) (i2 : Int) : DN Ze5 N (code1, i2, ()) = Zct N code1 i2 := by
  have h : Zct N code1 i2 = Zct N code1 i2 := rfl
  conv at h => rhs; rw [Zct]
  simp (disch := exact id (by kernel_rfl)) only [Zl1 (R := Unit × (Bool × Unit)) N (CF Ze5 N [1, 1, 1, 1, 0, 1, 0])] at h
  exact Eq.trans (by kernel_rfl) h.symm
theorem Zp0 (N : Nat) : Good Tryz.prog 114 (Zg6 N) := GF Ze5 N Tryz.func114 ctx_nil (by kernel_rfl) (fun d => Zpz N d.1 d.2.1)
noncomputable def Zg7 (N : Nat) : Sig := Sig.of [.v (.slice (.prod (.int .i64) (.prod (.int .i64) (.prod (.int .i64) (.int .i64))))) false] [.v (.bool) false] (fun d => Zcu N d.1)
noncomputable def Ze6 : Fn := ⟨Tryz.f80, fun | 6 => [.canon [0, 3, 4, 5, 12]] | 7 => [.canon [0, 3, 4, 5]] | 8 => [.canon [0, 3, 4, 5, 20]] | 9 => [.canon [2]] | 10 => [.canon [0, 3, 4, 5, 25]] | 11 => [.canon [0, 3, 4, 5, 25, 26]] | 12 => [.canon [0, 3, 4, 5]] | 13 => [.canon [0, 3, 4, 5, 25, 30]] | 14 => [.canon [0, 3, 4, 5]] | 15 => [.canon [0, 3, 4, 5, 25, 34]] | 16 => [.canon [0, 3, 4, 5, 39]] | 17 => [.canon [2]] | 18 => [.canon [0, 3, 4, 5, 40]] | 19 => [.canon [0, 3, 4, 5]] | 20 => [.canon [0, 3, 4, 5, 49]] | 21 => [.canon [2]] | 22 => [.canon [0, 3, 4, 5, 51]] | 23 => [.canon [2]] | 100006 => [.canon [0, 3, 4, 5]] | _ => [], Zg7, fun N => [(84, Zep N), (114, Zg6 N)]⟩
def Zl2 (code2 : List (Int × Int × Int × Int)) (d3 : Int) (forks4 : Int) (i5 : Int) : St := ⟨[(0, vV (.slice (.prod (.int .i64) (.prod (.int .i64) (.prod (.int .i64) (.int .i64))))) code2), (3, vI d3), (4, vI forks4), (5, vI i5)], [], 0⟩
def Zke (code2 : List (Int × Int × Int × Int)) : St := ⟨[(2, vB false)], [], 0⟩
def Zkf (code2 : List (Int × Int × Int × Int)) (d8 : Int) (forks9 : Int) (i10 : Int) (t11 : Bool) : St := ⟨[(0, vV (.slice (.prod (.int .i64) (.prod (.int .i64) (.prod (.int .i64) (.int .i64))))) code2), (3, vI d8), (4, vI forks9), (5, vI i10), (12, vB t11)], [], 0⟩
theorem Zl3 (N : Nat) {R : Type} (K : Ex → St → Option R) {code2 : List (Int × Int × Int × Int)} {K0 : Option R} {K1 : Int → Int → Int → Bool → Option R} (h0 : K0 = K .ret (Zke code2)) (h1 : K1 = fun d8 forks9 i10 t11 => K (.exit 0) (Zkf code2 d8 forks9 i10 t11)) (n : Nat) (d3 : Int) (forks4 : Int) (i5 : Int) : Z9 N code2 K0 K1 n d3 forks4 i5 = LM Ze6 N 0 100006 n (Zl2 code2 d3 forks4 i5) K := by
  subst h0 h1
  induction n generalizing d3 forks4 i5 with
  | zero => kernel_rfl
  | succ n ih => rw [Z9]; simp (disch := exact id (by kernel_rfl)) only [ih]; kernel_rfl
theorem Zp1 : Callable Tryz.prog 80 := callable_of Tryz.func80 (show chkFn Tryz.f80 = true by kernel_rfl)
theorem Zp2 (N : Nat) (code1 : List (Int × Int × Int × Int)) : DN Ze6 N (code1, ()) = Zcu N code1 := by
  have h : Zcu N code1 = Zcu N code1 := rfl
  conv at h => rhs; rw [Zcu]
  simp (disch := exact id (by kernel_rfl)) only [Zl3 (R := Unit × (Bool × Unit)) N (CF Ze6 N [1, 1, 1, 1, 0, 1, 0])] at h
  exact Eq.trans (by kernel_rfl) h.symm
theorem Zp3 (N : Nat) : Good Tryz.prog 80 (Zg7 N) := GF Ze6 N Tryz.func80 (ctx_cons (Zib N) Zia (ctx_cons (Zp0 N) Zpy ctx_nil)) (by kernel_rfl) (fun d => Zp2 N d.1)
noncomputable def Zgh (N : Nat) : Sig := Sig.of [.v (.slice (.prod (.int .i64) (.prod (.int .i64) (.prod (.int .i64) (.int .i64))))) false] [.v (.bool) false] (fun d => Zb5 N d.1)
noncomputable def Zeh : Fn := ⟨Tryz.f81, fun | 2 => [.canon [0, 3, 7]] | 3 => [.canon [0, 3]] | 4 => [.canon [0, 3, 15]] | 5 => [.canon [2]] | 100002 => [.canon [0, 3]] | _ => [], Zgh, noCtx⟩
def Zkg (code2 : List (Int × Int × Int × Int)) (i3 : Int) : St := ⟨[(0, vV (.slice (.prod (.int .i64) (.prod (.int .i64) (.prod (.int .i64) (.int .i64))))) code2), (3, vI i3)], [], 0⟩
def Zjl (code2 : List (Int × Int × Int × Int)) : St := ⟨[(2, vB true)], [], 0⟩
def Zjm (code2 : List (Int × Int × Int × Int)) (i4 : Int) (t5 : Bool) : St := ⟨[(0, vV (.slice (.prod (.int .i64) (.prod (.int .i64) (.prod (.int .i64) (.int .i64))))) code2), (3, vI i4), (7, vB t5)], [], 0⟩
theorem Zkh (N : Nat) {R : Type} (K : Ex → St → Option R) {code2 : List (Int × Int × Int × Int)} {K0 : Option R} {K1 : Int → Bool → Option R} (h0 : K0 = K .ret (Zjl code2)) (h1 : K1 = fun i4 t5 => K (.exit 0) (Zjm code2 i4 t5)) (n : Nat) (i3 : Int) : Za9 N code2 K0 K1 n i3 = LM Zeh N 0 100002 n (Zkg code2 i3) K := by
  subst h0 h1
  induction n generalizing i3 with
  | zero => kernel_rfl
  | succ n ih => rw [Za9]; simp (disch := exact id (by kernel_rfl)) only [ih]; kernel_rfl
theorem Zox : Callable Tryz.prog 81 := callable_of Tryz.func81 (show chkFn Tryz.f81 = true by kernel_rfl)
theorem Zoy (N : Nat) (code1 : List (Int × Int × Int × Int)) : DN Zeh N (code1, ()) = Zb5 N code1 := by
  have h : Zb5 N code1 = Zb5 N code1 := rfl
  conv at h => rhs; rw [Zb5]
  simp (disch := exact id (by kernel_rfl)) only [Zkh (R := Unit × (Bool × Unit)) N (CF Zeh N [1, 0, 1, 0])] at h
  exact Eq.trans (by kernel_rfl) h.symm
theorem Zoz (N : Nat) : Good Tryz.prog 81 (Zgh N) := GF Zeh N Tryz.func81 ctx_nil (by kernel_rfl) (fun d => Zoy N d.1)
noncomputable def Zgi (N : Nat) : Sig := Sig.of [.v (.prod (.int .i64) (.prod (.int .i64) (.prod (.int .i64) (.int .i64)))) true] [.v (.int .i64) false] (fun d => Zaz N d.1)
noncomputable def Zo0 : Fn := ⟨Tryz.f82, noAnn, Zgi, fun N => [(84, Zep N)]⟩
theorem Zo1 : Callable Tryz.prog 82 := callable_of Tryz.func82 (show chkFn Tryz.f82 = true by kernel_rfl)
theorem Zo2 (N : Nat) : Good Tryz.prog 82 (Zgi N) := GF Zo0 N Tryz.func82 (ctx_cons (Zib N) Zia ctx_nil) (by kernel_rfl) (fun d => by kernel_rfl)
noncomputable def Zec (N : Nat) : Sig := Sig.of [.v (.slice (.prod (.int .i64) (.prod (.int .i64) (.prod (.int .i64) (.int .i64))))) false] [.v (.bool) false] (fun d => Zba N d.1)
noncomputable def Zfp : Fn := ⟨Tryz.f55, fun | 4 => [.canon [0, 3, 14]] | 5 => [.canon [0, 3]] | 6 => [.canon [0, 3, 22]] | 7 => [.canon [2]] | 100004 => [.canon [0, 3]] | _ => [], Zec, fun N => [(80, Zg7 N), (81, Zgh N), (82, Zgi N)]⟩
def Znk (code4 : List (Int × Int × Int × Int)) (i5 : Int) : St := ⟨[(0, vV (.slice (.prod (.int .i64) (.prod (.int .i64) (.prod (.int .i64) (.int .i64))))) code4), (3, vI i5)], [], 0⟩
def Zl4 (code4 : List (Int × Int × Int × Int)) : St := ⟨[(2, vB false)], [], 0⟩
def Zl5 (code4 : List (Int × Int × Int × Int)) (i7 : Int) (t8 : Bool) : St := ⟨[(0, vV (.slice (.prod (.int .i64) (.prod (.int .i64) (.prod (.int .i64) (.int .i64))))) code4), (3, vI i7), (14, vB t8)], [], 0⟩
theorem Znl (N : Nat) {R : Type} (K : Ex → St → Option R) {code4 : List (Int × Int × Int × Int)} {K0 : Option R} {K1 : Int → Bool → Option R} (h0 : K0 = K .ret (Zl4 code4)) (h1 : K1 = fun i7 t8 => K (.exit 0) (Zl5 code4 i7 t8)) (n : Nat) (i5 : Int) : Zbz N code4 K0 K1 n i5 = LM Zfp N 0 100004 n (Znk code4 i5) K := by
  subst h0 h1
  induction n generalizing i5 with
  | zero => kernel_rfl
  | succ n ih => rw [Zbz]; simp (disch := exact id (by kernel_rfl)) only [ih]; kernel_rfl
theorem Zhr : Callable Tryz.prog 55 := callable_of Tryz.func55 (show chkFn Tryz.f55 = true by kernel_rfl)
theorem Zrf (N : Nat) (code1 : List (Int × Int × Int × Int)) : DN Zfp N (code1, ()) = Zba N code1 := by
  have h : Zba N code1 = Zba N code1 := rfl
  conv at h => rhs; rw [Zba]
  simp (disch := exact id (by kernel_rfl)) only [Znl (R := Unit × (Bool × Unit)) N (CF Zfp N [1, 1, 0, 1, 0])] at h
  exact Eq.trans (by kernel_rfl) h.symm
theorem Zhs (N : Nat) : Good Tryz.prog 55 (Zec N) := GF Zfp N Tryz.func55 (ctx_cons (Zp3 N) Zp1 (ctx_cons (Zoz N) Zox (ctx_cons (Zo2 N) Zo1 ctx_nil))) (by kernel_rfl) (fun d => Zrf N d.1)
noncomputable def Zg8 (N : Nat) : Sig := Sig.of [.v (.slice (.slice (.prod (.int .i64) (.prod (.int .i64) (.prod (.int .i64) (.int .i64)))))) false, .v (.slice (.int .i64)) false, .v (.slice (.int .i64)) false] [.v (.bool) false] (fun d => Zcv N d.1 d.2.1 d.2.2.1)
noncomputable def Ze7 : Fn := ⟨Tryz.f28, fun | 4 => [.canon [0, 7, 24]] | 5 => [.canon [0, 7]] | 6 => [.canon [0, 7, 33]] | 7 => [.canon [6]] | 100004 => [.canon [0, 7]] | _ => [], Zg8, fun N => [(54, Zdc N), (52, Zdv N), (55, Zec N)]⟩
def Zl6 (l6 : List (List (Int × Int × Int × Int))) (i7 : Int) : St := ⟨[(0, vV (.slice (.slice (.prod (.int .i64) (.prod (.int .i64) (.prod (.int .i64) (.int .i64)))))) l6), (7, vI i7)], [], 0⟩
def Zki (l6 : List (List (Int × Int × Int × Int))) : St := ⟨[(6, vB false)], [], 0⟩
def Zkj (l6 : List (List (Int × Int × Int × Int))) (i9 : Int) (t10 : Bool) : St := ⟨[(0, vV (.slice (.slice (.prod (.int .i64) (.prod (.int .i64) (.prod (.int .i64) (.int .i64)))))) l6), (7, vI i9), (24, vB t10)], [], 0⟩
theorem Zl7 (N : Nat) {R : Type} (K : Ex → St → Option R) {l6 : List (List (Int × Int × Int × Int))} {K0 : Option R} {K1 : Int → Bool → Option R} (h0 : K0 = K .ret (Zki l6)) (h1 : K1 = fun i9 t10 => K (.exit 0) (Zkj l6 i9 t10)) (n : Nat) (i7 : Int) : Zbl N l6 K0 K1 n i7 = LM Ze7 N 0 100004 n (Zl6 l6 i7) K := by
  subst h0 h1
  induction n generalizing i7 with
  | zero => kernel_rfl
  | succ n ih => rw [Zbl]; simp (disch := exact id (by kernel_rfl)) only [ih]; kernel_rfl
theorem Zp4 : Callable Tryz.prog 28 := callable_of Tryz.func28 (show chkFn Tryz.f28 = true by kernel_rfl)
theorem Zp5 (N : Nat) (l1 : List (List (Int × Int × Int × Int))) (regs2 : List Int) (cells3 : List Int) : DN Ze7 N (l1, regs2, cells3, ()) = Zcv N l1 regs2 cells3 := by
  have h : Zcv N l1 regs2 cells3 = Zcv N l1 regs2 cells3 := rfl
  conv at h => rhs; rw [Zcv]
  simp (disch := exact id (by kernel_rfl)) only [Zl7 (R := Unit × (Bool × Unit)) N (CF Ze7 N [1, 1, 0, 1, 0])] at h
  exact Eq.trans (by kernel_rfl) h.symm
theorem Zp6 (N : Nat) : Good Tryz.prog 28 (Zg8 N) := GF Ze7 N Tryz.func28 (ctx_cons (Ze3 N) Ze2 (ctx_cons (Zg4 N) Zg3 (ctx_cons (Zhs N) Zhr ctx_nil))) (by kernel_rfl) (fun d => Zp5 N d.1 d.2.1 d.2.2.1)
noncomputable def Zg9 (N : Nat) : Sig := Sig.of [.v (.prod (.slice (.int .i64)) (.prod (.slice (.int .i64)) (.int .i64))) true] [.v (.prod (.own (.int .i64)) (.prod (.own (.int .i64)) (.int .i64))) true] (fun d => Zdg N d.1)
noncomputable def Zp7 : Fn := ⟨Tryz.f83, noAnn, Zg9, noCtx⟩
theorem Zp8 : Callable Tryz.prog 83 := callable_of Tryz.func83 (show chkFn Tryz.f83 = true by kernel_rfl)
theorem Zp9 (N : Nat) : Good Tryz.prog 83 (Zg9 N) := GF Zp7 N Tryz.func83 ctx_nil (by kernel_rfl) (fun d => by kernel_rfl)
noncomputable def Zfq (N : Nat) : Sig := Sig.of [.v (.slice (.prod (.int .i64) (.prod (.int .i64) (.prod (.int .i64) (.int .i64))))) false, .v (.int .i64) false] [.v (.int .i64) false] (fun d => Zbb N d.1 d.2.1)
noncomputable def Zfr : Fn := ⟨Tryz.f58, fun | 5 => [.canon [0, 5, 6, 27]] | 6 => [.canon [0, 5, 6]] | 7 => [.canon [0, 5, 6, 35]] | 8 => [.canon [0, 5, 6]] | 9 => [.canon [0, 5, 6, 43]] | 10 => [.canon [0, 5, 6]] | 11 => [.canon [0, 5, 6, 47]] | 12 => [.canon [4]] | 100005 => [.canon [0, 5, 6]] | _ => [], Zfq, noCtx⟩
def Znm (code3 : List (Int × Int × Int × Int)) (d4 : Int) (k5 : Int) : St := ⟨[(0, vV (.slice (.prod (.int .i64) (.prod (.int .i64) (.prod (.int .i64) (.int .i64))))) code3), (5, vI d4), (6, vI k5)], [], 0⟩
def Zl8 (code3 : List (Int × Int × Int × Int)) (t6 : Int) : St := ⟨[(4, vI t6)], [], 0⟩
def Zl9 (code3 : List (Int × Int × Int × Int)) (d7 : Int) (k8 : Int) (t9 : Bool) : St := ⟨[(0, vV (.slice (.prod (.int .i64) (.prod (.int .i64) (.prod (.int .i64) (.int .i64))))) code3), (5, vI d7), (6, vI k8), (27, vB t9)], [], 0⟩
theorem Znn (N : Nat) {R : Type} (K : Ex → St → Option R) {code3 : List (Int × Int × Int × Int)} {K0 : Int → Option R} {K1 : Int → Int → Bool → Option R} (h0 : K0 = fun t6 => K .ret (Zl8 code3 t6)) (h1 : K1 = fun d7 k8 t9 => K (.exit 0) (Zl9 code3 d7 k8 t9)) (n : Nat) (d4 : Int) (k5 : Int) : Zae N code3 K0 K1 n d4 k5 = LM Zfr N 0 100005 n (Znm code3 d4 k5) K := by
  subst h0 h1
  induction n generalizing d4 k5 with
  | zero => kernel_rfl
  | succ n ih => rw [Zae]; simp (disch := exact id (by kernel_rfl)) only [ih]; kernel_rfl
theorem Zjn : Callable Tryz.prog 58 := callable_of Tryz.func58 (show chkFn Tryz.f58 = true by kernel_rfl)
theorem Zrg (N : Nat) (code1 : List (Int × Int × Int × Int)) (i2 : Int) : DN Zfr N (code1, i2, ()) = Zbb N code1 i2 := by
  have h : Zbb N code1 i2 = Zbb N code1 i2 := rfl
  conv at h => rhs; rw [Zbb]
  simp (disch := exact id (by kernel_rfl)) only [Znn (R := Unit × (Int × Unit)) N (CF Zfr N [1, 1, 1, 0, 1, 0])] at h
  exact Eq.trans (by kernel_rfl) h.symm
theorem Zjo (N : Nat) : Good Tryz.prog 58 (Zfq N) := GF Zfr N Tryz.func58 ctx_nil (by kernel_rfl) (fun d => Zrg N d.1 d.2.1)
noncomputable def Zgf (N : Nat) : Sig := Sig.of [.v (.prod (.int .i64) (.prod (.int .i64) (.prod (.int .i64) (.int .i64)))) true, .v (.slice (.int .i64)) false] [.v (.own (.int .i64)) false, .v (.bool) false] (fun d => Zet N d.1 d.2.1)
noncomputable def Zr7 : Fn := ⟨Tryz.f59, noAnn, Zgf, fun N => [(84, Zep N), (54, Zdc N)]⟩
theorem Zll : Callable Tryz.prog 59 := callable_of Tryz.func59 (show chkFn Tryz.f59 = true by kernel_rfl)
theorem Zlm (N : Nat) : Good Tryz.prog 59 (Zgf N) := GF Zr7 N Tryz.func59 (ctx_cons (Zib N) Zia (ctx_cons (Ze3 N) Ze2 ctx_nil)) (by kernel_rfl) (fun d => by kernel_rfl)
noncomputable def Zei (N m : Nat) : Sig := Sig.of [.v (.slice (.prod (.int .i64) (.prod (.int .i64) (.prod (.int .i64) (.int .i64))))) false, .v (.slice (.slice (.prod (.int .i64) (.prod (.int .i64) (.prod (.int .i64) (.int .i64)))))) false, .v (.slice (.int .i64)) false, .v (.slice (.int .i64)) false, .v (.prod (.slice (.int .i64)) (.prod (.slice (.int .i64)) (.int .i64))) true] [.v (.prod (.int .i64) (.prod (.own (.int .i64)) (.prod (.own (.int .i64)) (.prod (.own (.int .i64)) (.int .i64))))) true] (fun d => Z6 N m d.1 d.2.1 d.2.2.1 d.2.2.2.1 d.2.2.2.2.1)
noncomputable def Ziz (N : Nat) : Sig := Zei N N
noncomputable def Zbr (m : Nat) : Fn := ⟨Tryz.f56, fun | 6 => [.canon [0, 1, 2, 3, 9, 10, 11, 12, 13, 37]] | 7 => [.canon [0, 1, 2, 3, 9, 10, 11, 12, 13, 14]] | 8 => [.canon [0, 1, 2, 3, 9, 10, 11, 12, 13, 14, 15]] | 9 => [.canon [0, 1, 2, 3, 9, 10, 11, 12, 13, 14, 15, 45]] | 10 => [.canon [0, 1, 2, 9, 10, 11, 12, 15, 24]] | 11 => [.canon [0, 1, 2, 3, 9, 10, 11, 12, 15]] | 12 => [.canon [0, 1, 2, 3, 9, 10, 11, 12, 13, 14, 15, 45, 53]] | 13 => [.canon [0, 1, 2, 3, 9, 10, 11, 12, 15]] | 14 => [.canon [0, 1, 2, 3, 9, 10, 11, 12, 13, 14, 15, 45, 65]] | 15 => [.canon [0, 1, 2, 3, 9, 10, 11, 12, 15]] | 16 => [.canon [0, 1, 2, 3, 9, 10, 11, 12, 13, 14, 15, 45, 77]] | 17 => [.canon [0, 1, 2, 3, 9, 10, 11, 12, 14, 15, 84]] | 18 => [.canon [0, 1, 2, 3, 9, 10, 11, 12, 15]] | 19 => [.canon [0, 1, 2, 3, 9, 10, 11, 12, 13, 14, 15, 45, 89]] | 20 => [.canon [0, 1, 2, 3, 9, 10, 11, 12, 15]] | 21 => [.canon [0, 1, 2, 3, 9, 10, 11, 12, 14, 15, 45, 101]] | 22 => [.canon [0, 1, 2, 3, 9, 10, 11, 12, 15, 16]] | 23 => [.canon [0, 1, 2, 3, 9, 10, 11, 12, 15, 16]] | 24 => [.canon [0, 1, 2, 3, 9, 10, 11, 12, 15]] | 25 => [.canon [0, 1, 2, 3, 9, 10, 11, 12, 14, 15, 45, 122]] | 26 => [.canon [0, 1, 2, 3, 9, 10, 11, 12, 126]] | 27 => [.canon [10]] | 28 => [.canon [0, 1, 2, 9, 10, 11, 12, 17]] | 29 => [.canon [0, 1, 2, 9, 10, 11, 12, 17]] | 30 => [.canon [0, 1, 2, 3, 9, 10, 11, 12, 17]] | 31 => [.canon [0, 1, 2, 3, 9, 10, 11, 12, 17]] | 32 => [.canon [0, 1, 2, 3, 9, 10, 11, 12, 17]] | 33 => [.canon [0, 1, 2, 3, 9, 10, 11, 12, 15]] | 34 => [.canon [0, 1, 2, 3, 9, 10, 11, 12, 14, 15, 45, 161]] | 35 => [.canon [0, 1, 2, 3, 9, 10, 11, 12, 15, 18]] | 36 => [.canon [0, 1, 2, 3, 9, 10, 11, 12, 15, 18, 19]] | 37 => [.canon [0, 1, 2, 3, 9, 10, 11, 12, 15, 18, 19, 169]] | 38 => [.canon [0, 1, 2, 3, 9, 10, 11, 12, 15, 18, 19]] | 39 => [.canon [0, 1, 2, 3, 9, 10, 11, 12, 15, 18, 19, 20]] | 40 => [.canon [0, 1, 2, 3, 9, 10, 11, 12, 15, 18, 19, 20]] | 41 => [.canon [0, 1, 2, 3, 9, 10, 11, 12, 15, 18, 19, 20, 187]] | 42 => [.canon [0, 1, 2, 3, 9, 10, 11, 12, 15, 18, 19]] | 43 => [.canon [0, 1, 2, 3, 9, 10, 11, 12, 15, 18, 21]] | 44 => [.canon [0, 1, 2, 3, 9, 10, 11, 12, 15, 18, 21, 201]] | 45 => [.canon [0, 1, 2, 3, 9, 10, 11, 12, 15, 18, 21]] | 46 => [.canon [0, 1, 2, 3, 9, 10, 11, 12, 15, 18, 21]] | 47 => [.canon [0, 1, 2, 3, 9, 10, 11, 12, 14, 15, 45, 211]] | 48 => [.canon [0, 1, 2, 3, 9, 10, 11, 12, 14, 15, 22]] | 49 => [.canon [0, 1, 2, 3, 9, 10, 11, 12, 14, 15, 22]] | 50 => [.canon [0, 1, 2, 3, 9, 10, 11, 12, 15]] | 51 => [.canon [0, 1, 2, 3, 9, 10, 11, 12, 14, 15, 45, 236]] | 52 => [.canon [0, 1, 2, 3, 9, 10, 11, 12, 15]] | 53 => [.canon [0, 1, 2, 3, 9, 10, 11, 12, 14, 15, 45, 249]] | 54 => [.canon [0, 1, 2, 3, 9, 10, 11, 12, 14, 15, 23]] | 55 => [.canon [0, 1, 2, 3, 9, 10, 11, 12, 14, 15, 23]] | 56 => [.canon [0, 1, 2, 3, 9, 10, 11, 12, 15]] | 57 => [.canon [0, 1, 2, 3, 9, 10, 11, 12, 14, 15, 45, 268]] | 58 => [.canon [0, 1, 2, 3, 9, 10, 11, 12, 15]] | 59 => [.canon [0, 1, 2, 3, 9, 10, 11, 12, 14, 15, 280]] | 60 => [.canon [0, 1, 2, 3, 9, 10, 11, 12, 15]] | 61 => [.canon [0, 1, 2, 3, 9, 10, 11, 12, 13]] | 100006 => [.canon [0, 1, 2, 3, 9, 10, 11, 12, 13]] | 100037 => [.canon [0, 1, 2, 3, 9, 10, 11, 12, 15, 18, 19]] | 100044 => [.canon [0, 1, 2, 3, 9, 10, 11, 12, 15, 18, 21]] | _ => [], fun N => Zei N (m + 1), fun N => [(83, Zg9 N), (58, Zfq N), (56, Zei N m), (59, Zgf N)]⟩
def Zma (code25 : List (Int × Int × Int × Int)) (kids26 : List (List (Int × Int × Int × Int))) (order27 : List Int) (next28 : Int) (i29 : Int) (l30 : List Int) (b31 : Int) (b32 : Int) (b33 : Int) (b34 : Int) (l35 : List (Int × List Int × List Int × List Int × Int)) (l36 : List Int) (l37 : List Int) (l38 : List Int) (l39 : List Int) (l40 : List Int) : St := ⟨[(0, vV (.slice (.prod (.int .i64) (.prod (.int .i64) (.prod (.int .i64) (.int .i64))))) code25), (1, vV (.slice (.slice (.prod (.int .i64) (.prod (.int .i64) (.prod (.int .i64) (.int .i64)))))) kids26), (2, vV (.slice (.int .i64)) order27), (3, vO 0), (9, vP 1 0), (10, vP 2 0), (11, vP 3 0), (12, vO 4), (15, vI next28), (18, vO 5), (19, vI i29)], [(0, .arr (.int .i64) l30), (1, .box [.own 6, .own 7, .val (.int .i64) b31]), (2, .box [.val (.int .i64) b32, .nils, .nils, .nils, .val (.int .i64) b33]), (3, .box [.own 8, .own 9, .val (.int .i64) b34]), (4, .arr (.prod (.int .i64) (.prod (.slice (.int .i64)) (.prod (.slice (.int .i64)) (.prod (.slice (.int .i64)) (.int .i64))))) l35), (5, .arr (.int .i64) l36), (6, .arr (.int .i64) l37), (7, .arr (.int .i64) l38), (8, .arr (.int .i64) l39), (9, .arr (.int .i64) l40)], 10⟩
def Zkk (code25 : List (Int × Int × Int × Int)) (kids26 : List (List (Int × Int × Int × Int))) (order27 : List Int) (next28 : Int) (l30 : List Int) (b32 : Int) (b33 : Int) (b34 : Int) (l35 : List (Int × List Int × List Int × List Int × Int)) (l39 : List Int) (l40 : List Int) (i43 : Int) (t44 : Bool) (b45 : Int) (l46 : List Int) (l47 : List Int) (l48 : List Int) : St := ⟨[(0, vV (.slice (.prod (.int .i64) (.prod (.int .i64) (.prod (.int .i64) (.int .i64))))) code25), (1, vV (.slice (.slice (.prod (.int .i64) (.prod (.int .i64) (.prod (.int .i64) (.int .i64)))))) kids26), (2, vV (.slice (.int .i64)) order27), (3, vO 0), (9, vP 1 0), (10, vP 2 0), (11, vP 3 0), (12, vO 4), (15, vI next28), (18, vO 5), (19, vI i43), (169, vB t44)], [(0, .arr (.int .i64) l30), (1, .box [.own 6, .own 7, .val (.int .i64) b45]), (2, .box [.val (.int .i64) b32, .nils, .nils, .nils, .val (.int .i64) b33]), (3, .box [.own 8, .own 9, .val (.int .i64) b34]), (4, .arr (.prod (.int .i64) (.prod (.slice (.int .i64)) (.prod (.slice (.int .i64)) (.prod (.slice (.int .i64)) (.int .i64))))) l35), (5, .arr (.int .i64) l46), (6, .arr (.int .i64) l47), (7, .arr (.int .i64) l48), (8, .arr (.int .i64) l39), (9, .arr (.int .i64) l40)], 10⟩
theorem Zmb (N m : Nat) {R : Type} (K : Ex → St → Option R) {code25 : List (Int × Int × Int × Int)} {kids26 : List (List (Int × Int × Int × Int))} {order27 : List Int} {next28 : Int} {l30 : List Int} {b32 : Int} {b33 : Int} {b34 : Int} {l35 : List (Int × List Int × List Int × List Int × Int)} {l39 : List Int} {l40 : List Int} {K0 : Int → Bool → Int → (List Int) → (List Int) → (List Int) → Option R} (h0 : K0 = fun i43 t44 b45 l46 l47 l48 => K (.exit 3) (Zkk code25 kids26 order27 next28 l30 b32 b33 b34 l35 l39 l40 i43 t44 b45 l46 l47 l48)) (n : Nat) (i29 : Int) (b31 : Int) (l36 : List Int) (l37 : List Int) (l38 : List Int) : Zbn N (Z6 N m) code25 kids26 order27 next28 l30 b32 b33 b34 l35 l39 l40 K0 n i29 b31 l36 l37 l38 = LM (Zbr m) N 1 100037 n (Zma code25 kids26 order27 next28 i29 l30 b31 b32 b33 b34 l35 l36 l37 l38 l39 l40) K := by
  subst h0
  induction n generalizing i29 b31 l36 l37 l38 with
  | zero => kernel_rfl
  | succ n ih => rw [Zbn]; simp (disch := exact id (by kernel_rfl)) only [ih]; kernel_rfl
def Zmc (code57 : List (Int × Int × Int × Int)) (kids58 : List (List (Int × Int × Int × Int))) (order59 : List Int) (next60 : Int) (i61 : Int) (l62 : List Int) (b63 : Int) (b64 : Int) (b65 : Int) (b66 : Int) (l67 : List (Int × List Int × List Int × List Int × Int)) (l68 : List Int) (l69 : List Int) (l70 : List Int) (l71 : List Int) (l72 : List Int) : St := ⟨[(0, vV (.slice (.prod (.int .i64) (.prod (.int .i64) (.prod (.int .i64) (.int .i64))))) code57), (1, vV (.slice (.slice (.prod (.int .i64) (.prod (.int .i64) (.prod (.int .i64) (.int .i64)))))) kids58), (2, vV (.slice (.int .i64)) order59), (3, vO 0), (9, vP 1 0), (10, vP 2 0), (11, vP 3 0), (12, vO 4), (15, vI next60), (18, vO 5), (21, vI i61)], [(0, .arr (.int .i64) l62), (1, .box [.own 6, .own 7, .val (.int .i64) b63]), (2, .box [.val (.int .i64) b64, .nils, .nils, .nils, .val (.int .i64) b65]), (3, .box [.own 8, .own 9, .val (.int .i64) b66]), (4, .arr (.prod (.int .i64) (.prod (.slice (.int .i64)) (.prod (.slice (.int .i64)) (.prod (.slice (.int .i64)) (.int .i64))))) l67), (5, .arr (.int .i64) l68), (6, .arr (.int .i64) l69), (7, .arr (.int .i64) l70), (8, .arr (.int .i64) l71), (9, .arr (.int .i64) l72)], 10⟩
def Zkl (code57 : List (Int × Int × Int × Int)) (kids58 : List (List (Int × Int × Int × Int))) (order59 : List Int) (next60 : Int) (b63 : Int) (b64 : Int) (b65 : Int) (b66 : Int) (l67 : List (Int × List Int × List Int × List Int × Int)) (l68 : List Int) (l69 : List Int) (l70 : List Int) (l71 : List Int) (l72 : List Int) (i73 : Int) (t74 : Bool) (l75 : List Int) : St := ⟨[(0, vV (.slice (.prod (.int .i64) (.prod (.int .i64) (.prod (.int .i64) (.int .i64))))) code57), (1, vV (.slice (.slice (.prod (.int .i64) (.prod (.int .i64) (.prod (.int .i64) (.int .i64)))))) kids58), (2, vV (.slice (.int .i64)) order59), (3, vO 0), (9, vP 1 0), (10, vP 2 0), (11, vP 3 0), (12, vO 4), (15, vI next60), (18, vO 5), (21, vI i73), (201, vB t74)], [(0, .arr (.int .i64) l75), (1, .box [.own 6, .own 7, .val (.int .i64) b63]), (2, .box [.val (.int .i64) b64, .nils, .nils, .nils, .val (.int .i64) b65]), (3, .box [.own 8, .own 9, .val (.int .i64) b66]), (4, .arr (.prod (.int .i64) (.prod (.slice (.int .i64)) (.prod (.slice (.int .i64)) (.prod (.slice (.int .i64)) (.int .i64))))) l67), (5, .arr (.int .i64) l68), (6, .arr (.int .i64) l69), (7, .arr (.int .i64) l70), (8, .arr (.int .i64) l71), (9, .arr (.int .i64) l72)], 10⟩
theorem Zmd (N m : Nat) {R : Type} (K : Ex → St → Option R) {code57 : List (Int × Int × Int × Int)} {kids58 : List (List (Int × Int × Int × Int))} {order59 : List Int} {next60 : Int} {b63 : Int} {b64 : Int} {b65 : Int} {b66 : Int} {l67 : List (Int × List Int × List Int × List Int × Int)} {l68 : List Int} {l69 : List Int} {l70 : List Int} {l71 : List Int} {l72 : List Int} {K0 : Int → Bool → (List Int) → Option R} (h0 : K0 = fun i73 t74 l75 => K (.exit 5) (Zkl code57 kids58 order59 next60 b63 b64 b65 b66 l67 l68 l69 l70 l71 l72 i73 t74 l75)) (n : Nat) (i61 : Int) (l62 : List Int) : Zd1 N (Z6 N m) code57 kids58 order59 next60 b63 b64 b65 b66 l67 l68 l69 l70 l71 l72 K0 n i61 l62 = LM (Zbr m) N 2 100044 n (Zmc code57 kids58 order59 next60 i61 l62 b63 b64 b65 b66 l67 l68 l69 l70 l71 l72) K := by
  subst h0
  induction n generalizing i61 l62 with
  | zero => kernel_rfl
  | succ n ih => rw [Zd1]; simp (disch := exact id (by kernel_rfl)) only [ih]; kernel_rfl
def Zme (code8 : List (Int × Int × Int × Int)) (kids9 : List (List (Int × Int × Int × Int))) (order10 : List Int) (pc11 : Int) (l12 : List Int) (b13 : Int) (b16 : Int) (l17 : List (Int × List Int × List Int × List Int × Int)) (l18 : List Int) (l19 : List Int) (l20 : List Int) (l21 : List Int) : St := ⟨[(0, vV (.slice (.prod (.int .i64) (.prod (.int .i64) (.prod (.int .i64) (.int .i64))))) code8), (1, vV (.slice (.slice (.prod (.int .i64) (.prod (.int .i64) (.prod (.int .i64) (.int .i64)))))) kids9), (2, vV (.slice (.int .i64)) order10), (3, vO 0), (9, vP 1 0), (10, vP 2 0), (11, vP 3 0), (12, vO 4), (13, vI pc11)], [(0, .arr (.int .i64) l12), (1, .box [.own 5, .own 6, .val (.int .i64) b13]), (2, .box [.val (.int .i64) (0 : Int), .nils, .nils, .nils, .val (.int .i64) (0 : Int)]), (3, .box [.own 7, .own 8, .val (.int .i64) b16]), (4, .arr (.prod (.int .i64) (.prod (.slice (.int .i64)) (.prod (.slice (.int .i64)) (.prod (.slice (.int .i64)) (.int .i64))))) l17), (5, .arr (.int .i64) l18), (6, .arr (.int .i64) l19), (7, .arr (.int .i64) l20), (8, .arr (.int .i64) l21)], 9⟩
def Zkm (code8 : List (Int × Int × Int × Int)) (kids9 : List (List (Int × Int × Int × Int))) (order10 : List Int) (b16 : Int) (l20 : List Int) (l21 : List Int) (l93 : List Int) : St := ⟨[(10, vP 0 0)], [(0, .box [.val (.int .i64) (2 : Int), .own 1, .own 2, .own 3, .val (.int .i64) b16]), (1, .arr (.int .i64) l93), (2, .arr (.int .i64) l20), (3, .arr (.int .i64) l21)], 4⟩
def Zkn (code8 : List (Int × Int × Int × Int)) (kids9 : List (List (Int × Int × Int × Int))) (order10 : List Int) (b16 : Int) (l20 : List Int) (l21 : List Int) (pc94 : Int) (t95 : Bool) (l96 : List Int) (b97 : Int) (l98 : List (Int × List Int × List Int × List Int × Int)) (l99 : List Int) (l100 : List Int) : St := ⟨[(0, vV (.slice (.prod (.int .i64) (.prod (.int .i64) (.prod (.int .i64) (.int .i64))))) code8), (1, vV (.slice (.slice (.prod (.int .i64) (.prod (.int .i64) (.prod (.int .i64) (.int .i64)))))) kids9), (2, vV (.slice (.int .i64)) order10), (3, vO 0), (9, vP 1 0), (10, vP 2 0), (11, vP 3 0), (12, vO 4), (13, vI pc94), (37, vB t95)], [(0, .arr (.int .i64) l96), (1, .box [.own 5, .own 6, .val (.int .i64) b97]), (2, .box [.val (.int .i64) (0 : Int), .nils, .nils, .nils, .val (.int .i64) (0 : Int)]), (3, .box [.own 7, .own 8, .val (.int .i64) b16]), (4, .arr (.prod (.int .i64) (.prod (.slice (.int .i64)) (.prod (.slice (.int .i64)) (.prod (.slice (.int .i64)) (.int .i64))))) l98), (5, .arr (.int .i64) l99), (6, .arr (.int .i64) l100), (7, .arr (.int .i64) l20), (8, .arr (.int .i64) l21)], 9⟩
theorem Zmf (N m : Nat) {R : Type} (K : Ex → St → Option R) {code8 : List (Int × Int × Int × Int)} {kids9 : List (List (Int × Int × Int × Int))} {order10 : List Int} {b16 : Int} {l20 : List Int} {l21 : List Int} {K0 : (List Int) → Option R} {K1 : Int → Bool → (List Int) → Int → (List (Int × List Int × List Int × List Int × Int)) → (List Int) → (List Int) → Option R} (h0 : K0 = fun l93 => K .ret (Zkm code8 kids9 order10 b16 l20 l21 l93)) (h1 : K1 = fun pc94 t95 l96 b97 l98 l99 l100 => K (.exit 0) (Zkn code8 kids9 order10 b16 l20 l21 pc94 t95 l96 b97 l98 l99 l100)) (n : Nat) (pc11 : Int) (l12 : List Int) (b13 : Int) (l17 : List (Int × List Int × List Int × List Int × Int)) (l18 : List Int) (l19 : List Int) : Zm N (Z6 N m) code8 kids9 order10 b16 l20 l21 K0 K1 n pc11 l12 b13 l17 l18 l19 = LM (Zbr m) N 0 100006 n (Zme code8 kids9 order10 pc11 l12 b13 b16 l17 l18 l19 l20 l21) K := by
  subst h0 h1
  induction n generalizing pc11 l12 b13 l17 l18 l19 with
  | zero => kernel_rfl
  | succ n ih => rw [Zm]; simp (disch := exact id (by kernel_rfl)) only [ih, Zmb N m (CL (Zbr m) N 0 100006 [1, 0, 1, 1, 0, 1, 0, 1, 1, 1, 1, 1, 1, 1, 1, 1, 1, 1, 1, 1, 0, 1, 0, 1, 0] n K), Zmd N m (CL (Zbr m) N 0 100006 [1, 0, 1, 1, 0, 1, 0, 1, 1, 1, 1, 1, 1, 1, 1, 1, 1, 1, 1, 1, 0, 1, 1, 1, 0] n K)]; kernel_rfl
theorem Zi0 : Callable Tryz.prog 56 := callable_of Tryz.func56 (show chkFn Tryz.f56 = true by kernel_rfl)
theorem Zqa (N m : Nat) (code1 : List (Int × Int × Int × Int)) (kids2 : List (List (Int × Int × Int × Int))) (order3 : List Int) (regs4 : List Int) (s5 : List Int × List Int × Int) : DN (Zbr m) N (code1, kids2, order3, regs4, s5, ()) = Z6 N (m + 1) code1 kids2 order3 regs4 s5 := by
  have h : Z6 N (m + 1) code1 kids2 order3 regs4 s5 = Z6 N (m + 1) code1 kids2 order3 regs4 s5 := rfl
  conv at h => rhs; rw [Z6]
  simp (disch := exact id (by kernel_rfl)) only [Zmf (R := Unit × ((Int × List Int × List Int × List Int × Int) × Unit)) N m (CF (Zbr m) N [1, 1, 1, 1, 1, 1, 0, 0])] at h
  exact Eq.trans (by kernel_rfl) h.symm
theorem Zii (N : Nat) : ∀ m, Good Tryz.prog 56 (Zei N m)
  | 0 => fun d o h => nomatch (show none = some o from h)
  | m + 1 => GF (Zbr m) N Tryz.func56 (ctx_cons (Zp9 N) Zp8 (ctx_cons (Zjo N) Zjn (ctx_cons (Zii N m) Zi0 (ctx_cons (Zlm N) Zll ctx_nil)))) (by kernel_rfl) (fun d => Zqa N m d.1 d.2.1 d.2.2.1 d.2.2.2.1 d.2.2.2.2.1)
theorem Zqb (N : Nat) : Good Tryz.prog 56 (Ziz N) := Zii N N
noncomputable def Zfi (N : Nat) : Sig := Sig.of [.v (.slice (.prod (.int .i64) (.prod (.int .i64) (.prod (.int .i64) (.int .i64))))) false, .v (.slice (.int .i64)) false, .v (.slice (.int .i64)) false] [.v (.int .i64) false, .v (.own (.int .i64)) false, .v (.own (.int .i64)) false] (fun d => Zef N d.1 d.2.1 d.2.2.1)
noncomputable def Zno : Fn := ⟨Tryz.f29, noAnn, Zfi, fun N => [(55, Zec N), (54, Zdc N), (52, Zdv N), (56, Ziz N)]⟩
theorem Znp : Callable Tryz.prog 29 := callable_of Tryz.func29 (show chkFn Tryz.f29 = true by kernel_rfl)
theorem Znq (N : Nat) : Good Tryz.prog 29 (Zfi N) := GF Zno N Tryz.func29 (ctx_cons (Zhs N) Zhr (ctx_cons (Ze3 N) Ze2 (ctx_cons (Zg4 N) Zg3 (ctx_cons (Zqb N) Zi0 ctx_nil)))) (by kernel_rfl) (fun d => by kernel_rfl)
noncomputable def Zej (N : Nat) : Sig := Sig.of [.v (.slice (.int .i64)) false] [.v (.own (.int .i64)) false] (fun d => Zq N d.1)
noncomputable def Zo3 : Fn := ⟨Tryz.f31, noAnn, Zej, noCtx⟩
theorem Zij : Callable Tryz.prog 31 := callable_of Tryz.func31 (show chkFn Tryz.f31 = true by kernel_rfl)
theorem Zik (N : Nat) : Good Tryz.prog 31 (Zej N) := GF Zo3 N Tryz.func31 ctx_nil (by kernel_rfl) (fun d => by kernel_rfl)
noncomputable def Zfw (N : Nat) : Sig := Sig.of [.v (.slice (.bool)) false] [.v (.own (.bool)) false] (fun d => Zdu N d.1)
noncomputable def Zoa : Fn := ⟨Tryz.f57, noAnn, Zfw, noCtx⟩
theorem Zob : Callable Tryz.prog 57 := callable_of Tryz.func57 (show chkFn Tryz.f57 = true by kernel_rfl)
theorem Zoc (N : Nat) : Good Tryz.prog 57 (Zfw N) := GF Zoa N Tryz.func57 ctx_nil (by kernel_rfl) (fun d => by kernel_rfl)
noncomputable def Zgj (N : Nat) : Sig := Sig.of [.v (.slice (.prod (.int .i64) (.prod (.int .i64) (.prod (.int .i64) (.int .i64))))) false, .v (.slice (.int .i64)) false, .v (.slice (.int .i64)) false] [.v (.own (.int .i64)) false] (fun d => Zb8 N d.1 d.2.1 d.2.2.1)
noncomputable def Zc1 : Fn := ⟨Tryz.f30, fun | 9 => [.canon [0, 1, 2, 7, 8, 9, 10, 43]] | 10 => [.canon [0, 1, 2, 7, 8, 9, 10, 11]] | 11 => [.canon [0, 1, 2, 7, 8, 9, 10, 11, 12]] | 12 => [.canon [0, 1, 2, 7, 8, 9, 10, 11, 12, 51]] | 13 => [.canon [0, 2, 7, 8, 9, 12, 15]] | 14 => [.canon [0, 1, 2, 7, 8, 9, 12]] | 15 => [.canon [0, 1, 2, 7, 8, 9, 10, 11, 12, 51, 59]] | 16 => [.canon [0, 1, 2, 7, 8, 9, 11, 12]] | 17 => [.canon [0, 1, 2, 7, 8, 9, 12]] | 18 => [.canon [0, 1, 2, 7, 8, 9, 10, 11, 12, 51, 87]] | 19 => [.canon [0, 1, 2, 7, 8, 9, 11, 12]] | 20 => [.canon [0, 1, 2, 7, 8, 9, 12]] | 21 => [.canon [0, 1, 2, 7, 8, 9, 10, 11, 12, 51, 102]] | 22 => [.canon [0, 1, 2, 7, 8, 9, 11, 12, 109]] | 23 => [.canon [0, 1, 2, 7, 8, 9, 12]] | 24 => [.canon [0, 1, 2, 7, 8, 9, 10, 11, 12, 51, 114]] | 25 => [.canon [0, 1, 2, 7, 8, 9, 12]] | 26 => [.canon [0, 1, 2, 7, 8, 9, 11, 12, 51, 127]] | 27 => [.canon [0, 1, 2, 7, 8, 9, 12, 13]] | 28 => [.canon [0, 1, 2, 7, 8, 9, 12, 13]] | 29 => [.canon [0, 1, 2, 7, 8, 9, 12]] | 30 => [.canon [0, 1, 2, 7, 8, 9, 11, 12, 148]] | 31 => [.canon [0, 1, 2, 7, 8, 9, 12]] | 32 => [.canon [0, 1, 2, 7, 8, 9, 12, 154]] | 33 => [.canon [0, 8, 9, 14]] | 34 => [.canon [0, 8, 9, 14]] | 35 => [.canon [0, 1, 8, 9, 14]] | 36 => [.canon [0, 1, 2, 8, 9, 14]] | 37 => [.canon [0, 1, 2, 7, 8, 9, 14]] | 38 => [.canon [0, 1, 2, 7, 8, 9, 14]] | 39 => [.canon [0, 1, 2, 7, 8, 9, 12]] | 40 => [.canon [0, 1, 2, 7, 8, 9, 10]] | 43 => [.canon [8, 17, 18, 193]] | 44 => [.canon [8, 17, 18]] | 45 => [.canon [8, 17, 18, 199]] | 46 => [.canon [8, 17, 18]] | 100009 => [.canon [0, 1, 2, 7, 8, 9, 10]] | 100043 => [.canon [8, 17, 18]] | _ => [], Zgj, fun N => [(55, Zec N), (54, Zdc N), (52, Zdv N), (31, Zej N), (57, Zfw N), (58, Zfq N), (59, Zgf N)]⟩
def Zko (code9 : List (Int × Int × Int × Int)) (pc10 : Int) (l11 : List Int) (l12 : List Int) (l13 : List Bool) (l14 : List Bool) (l15 : List (Int × List Int × List Int × List Bool)) : St := ⟨[(0, vV (.slice (.prod (.int .i64) (.prod (.int .i64) (.prod (.int .i64) (.int .i64))))) code9), (1, vO 0), (2, vO 1), (7, vO 2), (8, vO 3), (9, vO 4), (10, vI pc10)], [(0, .arr (.int .i64) l11), (1, .arr (.int .i64) l12), (2, .arr (.bool) l13), (3, .arr (.bool) l14), (4, .arr (.prod (.int .i64) (.prod (.slice (.int .i64)) (.prod (.slice (.int .i64)) (.slice (.bool))))) l15)], 5⟩
def Zjp (code9 : List (Int × Int × Int × Int)) (pc24 : Int) (t25 : Bool) (l26 : List Int) (l27 : List Int) (l28 : List Bool) (l29 : List Bool) (l30 : List (Int × List Int × List Int × List Bool)) : St := ⟨[(0, vV (.slice (.prod (.int .i64) (.prod (.int .i64) (.prod (.int .i64) (.int .i64))))) code9), (1, vO 0), (2, vO 1), (7, vO 2), (8, vO 3), (9, vO 4), (10, vI pc24), (43, vB t25)], [(0, .arr (.int .i64) l26), (1, .arr (.int .i64) l27), (2, .arr (.bool) l28), (3, .arr (.bool) l29), (4, .arr (.prod (.int .i64) (.prod (.slice (.int .i64)) (.prod (.slice (.int .i64)) (.slice (.bool))))) l30)], 5⟩
theorem Zkp (N : Nat) {R : Type} (K : Ex → St → Option R) {code9 : List (Int × Int × Int × Int)} {K0 : Int → Bool → (List Int) → (List Int) → (List Bool) → (List Bool) → (List (Int × List Int × List Int × List Bool)) → Option R} (h0 : K0 = fun pc24 t25 l26 l27 l28 l29 l30 => K (.exit 0) (Zjp code9 pc24 t25 l26 l27 l28 l29 l30)) (n : Nat) (pc10 : Int) (l11 : List Int) (l12 : List Int) (l13 : List Bool) (l14 : List Bool) (l15 : List (Int × List Int × List Int × List Bool)) : Zo N code9 K0 n pc10 l11 l12 l13 l14 l15 = LM Zc1 N 0 100009 n (Zko code9 pc10 l11 l12 l13 l14 l15) K := by
  subst h0
  induction n generalizing pc10 l11 l12 l13 l14 l15 with
  | zero => kernel_rfl
  | succ n ih => rw [Zo]; simp (disch := exact id (by kernel_rfl)) only [ih]; kernel_rfl
def Zkq (i46 : Int) (l47 : List Bool) (l48 : List Int) : St := ⟨[(8, vO 0), (17, vO 1), (18, vI i46)], [(0, .arr (.bool) l47), (1, .arr (.int .i64) l48)], 2⟩
def Zjq (l47 : List Bool) (i49 : Int) (t50 : Bool) (l51 : List Int) : St := ⟨[(8, vO 0), (17, vO 1), (18, vI i49), (193, vB t50)], [(0, .arr (.bool) l47), (1, .arr (.int .i64) l51)], 2⟩
theorem Zkr (N : Nat) {R : Type} (K : Ex → St → Option R) {l47 : List Bool} {K0 : Int → Bool → (List Int) → Option R} (h0 : K0 = fun i49 t50 l51 => K (.exit 3) (Zjq l47 i49 t50 l51)) (n : Nat) (i46 : Int) (l48 : List Int) : Zaj N l47 K0 n i46 l48 = LM Zc1 N 1 100043 n (Zkq i46 l47 l48) K := by
  subst h0
  induction n generalizing i46 l48 with
  | zero => kernel_rfl
  | succ n ih => rw [Zaj]; simp (disch := exact id (by kernel_rfl)) only [ih]; kernel_rfl
theorem Zo4 : Callable Tryz.prog 30 := callable_of Tryz.func30 (show chkFn Tryz.f30 = true by kernel_rfl)
theorem Zo5 (N : Nat) (code1 : List (Int × Int × Int × Int)) (regs2 : List Int) (cells3 : List Int) : DN Zc1 N (code1, regs2, cells3, ()) = Zb8 N code1 regs2 cells3 := by
  have h : Zb8 N code1 regs2 cells3 = Zb8 N code1 regs2 cells3 := rfl
  conv at h => rhs; rw [Zb8]
  simp (disch := exact id (by kernel_rfl)) only [Zkp (R := Unit × ((List Int) × Unit)) N (CF Zc1 N [1, 1, 1, 1, 1, 1, 1, 1, 0, 0]), Zkr (R := Unit × ((List Int) × Unit)) N (CF Zc1 N [1, 1, 1, 1, 1, 1, 1, 1, 1, 1, 0, 1, 0])] at h
  exact Eq.trans (by kernel_rfl) h.symm
theorem Zo6 (N : Nat) : Good Tryz.prog 30 (Zgj N) := GF Zc1 N Tryz.func30 (ctx_cons (Zhs N) Zhr (ctx_cons (Ze3 N) Ze2 (ctx_cons (Zg4 N) Zg3 (ctx_cons (Zik N) Zij (ctx_cons (Zoc N) Zob (ctx_cons (Zjo N) Zjn (ctx_cons (Zlm N) Zll ctx_nil))))))) (by kernel_rfl) (fun d => Zo5 N d.1 d.2.1 d.2.2.1)
noncomputable def Zha (N : Nat) : Sig := Sig.of [.v (.slice (.slice (.prod (.int .i64) (.prod (.int .i64) (.prod (.int .i64) (.int .i64)))))) false, .v (.slice (.int .i64)) false, .v (.slice (.int .i64)) false] [.v (.prod (.int .i64) (.prod (.own (.int .i64)) (.prod (.own (.int .i64)) (.own (.int .i64))))) true] (fun d => Zcx N d.1 d.2.1 d.2.2.1)
noncomputable def Zbs : Fn := ⟨Tryz.f7, fun | 5 => [.canon [0, 1, 2, 6, 7, 8, 26]] | 6 => [.canon [0, 1, 2, 6, 7, 8]] | 7 => [.canon [0, 1, 2, 6, 7, 8, 9, 10, 11]] | 8 => [.canon [0, 1, 2, 6, 7, 8, 10, 11, 42]] | 9 => [.canon [6]] | 10 => [.canon [0, 1, 2, 6, 7, 8, 12]] | 11 => [.canon [0, 1, 2, 6, 7, 8, 12, 13]] | 12 => [.canon [0, 1, 2, 6, 7, 8, 12, 13, 58]] | 13 => [.canon [0, 1, 2, 6, 7, 8, 12, 13]] | 14 => [.canon [0, 1, 2, 6, 7, 8, 12, 13]] | 17 => [.canon [6, 7, 14, 15, 75]] | 18 => [.canon [6, 7, 14, 15]] | 19 => [.canon [6, 7, 14, 15, 81]] | 20 => [.canon [6, 7, 14, 15]] | 100005 => [.canon [0, 1, 2, 6, 7, 8]] | 100012 => [.canon [0, 1, 2, 6, 7, 8, 12, 13]] | 100017 => [.adoptC 14 3 (.int .i64), .canon [6, 7, 14, 15]] | _ => [], Zha, fun N => [(28, Zg8 N), (29, Zfi N), (30, Zgj N), (31, Zej N)]⟩
def Zmg (l13 : List (List (Int × Int × Int × Int))) (regs14 : List Int) (cells15 : List Int) (i16 : Int) (k17 : Int) (b18 : Int) (l19 : List Bool) (l20 : List Int) : St := ⟨[(0, vV (.slice (.slice (.prod (.int .i64) (.prod (.int .i64) (.prod (.int .i64) (.int .i64)))))) l13), (1, vV (.slice (.int .i64)) regs14), (2, vV (.slice (.int .i64)) cells15), (6, vP 0 0), (7, vO 1), (8, vI i16), (12, vO 2), (13, vI k17)], [(0, .box [.val (.int .i64) b18, .nils, .nils, .nils]), (1, .arr (.bool) l19), (2, .arr (.int .i64) l20)], 3⟩
def Zks (l13 : List (List (Int × Int × Int × Int))) (regs14 : List Int) (cells15 : List Int) (i16 : Int) (b18 : Int) (l20 : List Int) (k21 : Int) (t22 : Bool) (l23 : List Bool) : St := ⟨[(0, vV (.slice (.slice (.prod (.int .i64) (.prod (.int .i64) (.prod (.int .i64) (.int .i64)))))) l13), (1, vV (.slice (.int .i64)) regs14), (2, vV (.slice (.int .i64)) cells15), (6, vP 0 0), (7, vO 1), (8, vI i16), (12, vO 2), (13, vI k21), (58, vB t22)], [(0, .box [.val (.int .i64) b18, .nils, .nils, .nils]), (1, .arr (.bool) l23), (2, .arr (.int .i64) l20)], 3⟩
theorem Zmh (N : Nat) {R : Type} (K : Ex → St → Option R) {l13 : List (List (Int × Int × Int × Int))} {regs14 : List Int} {cells15 : List Int} {i16 : Int} {b18 : Int} {l20 : List Int} {K0 : Int → Bool → (List Bool) → Option R} (h0 : K0 = fun k21 t22 l23 => K (.exit 2) (Zks l13 regs14 cells15 i16 b18 l20 k21 t22 l23)) (n : Nat) (k17 : Int) (l19 : List Bool) : Zbo N l13 regs14 cells15 i16 b18 l20 K0 n k17 l19 = LM Zbs N 1 100012 n (Zmg l13 regs14 cells15 i16 k17 b18 l19 l20) K := by
  subst h0
  induction n generalizing k17 l19 with
  | zero => kernel_rfl
  | succ n ih => rw [Zbo]; simp (disch := exact id (by kernel_rfl)) only [ih]; kernel_rfl
def Zmi (l5 : List (List (Int × Int × Int × Int))) (regs6 : List Int) (cells7 : List Int) (i8 : Int) (l10 : List Bool) : St := ⟨[(0, vV (.slice (.slice (.prod (.int .i64) (.prod (.int .i64) (.prod (.int .i64) (.int .i64)))))) l5), (1, vV (.slice (.int .i64)) regs6), (2, vV (.slice (.int .i64)) cells7), (6, vP 0 0), (7, vO 1), (8, vI i8)], [(0, .box [.val (.int .i64) (0 : Int), .nils, .nils, .nils]), (1, .arr (.bool) l10)], 2⟩
def Zkt (l5 : List (List (Int × Int × Int × Int))) (regs6 : List Int) (cells7 : List Int) (b32 : Int) (l33 : List Int) (l34 : List Int) : St := ⟨[(6, vP 0 0)], [(0, .box [.val (.int .i64) b32, .own 1, .own 2, .nils]), (1, .arr (.int .i64) l33), (2, .arr (.int .i64) l34)], 3⟩
def Zku (l5 : List (List (Int × Int × Int × Int))) (regs6 : List Int) (cells7 : List Int) (i35 : Int) (t36 : Bool) (l37 : List Bool) : St := ⟨[(0, vV (.slice (.slice (.prod (.int .i64) (.prod (.int .i64) (.prod (.int .i64) (.int .i64)))))) l5), (1, vV (.slice (.int .i64)) regs6), (2, vV (.slice (.int .i64)) cells7), (6, vP 0 0), (7, vO 1), (8, vI i35), (26, vB t36)], [(0, .box [.val (.int .i64) (0 : Int), .nils, .nils, .nils]), (1, .arr (.bool) l37)], 2⟩
theorem Zmj (N : Nat) {R : Type} (K : Ex → St → Option R) {l5 : List (List (Int × Int × Int × Int))} {regs6 : List Int} {cells7 : List Int} {K0 : Int → (List Int) → (List Int) → Option R} {K1 : Int → Bool → (List Bool) → Option R} (h0 : K0 = fun b32 l33 l34 => K .ret (Zkt l5 regs6 cells7 b32 l33 l34)) (h1 : K1 = fun i35 t36 l37 => K (.exit 0) (Zku l5 regs6 cells7 i35 t36 l37)) (n : Nat) (i8 : Int) (l10 : List Bool) : Za0 N l5 regs6 cells7 K0 K1 n i8 l10 = LM Zbs N 0 100005 n (Zmi l5 regs6 cells7 i8 l10) K := by
  subst h0 h1
  induction n generalizing i8 l10 with
  | zero => kernel_rfl
  | succ n ih => rw [Za0]; simp (disch := exact id (by kernel_rfl)) only [ih, Zmh N (CL Zbs N 0 100005 [1, 0, 0, 1, 1, 1, 1, 0] n K)]; kernel_rfl
def Zmk (i51 : Int) (l53 : List Bool) (l55 : List Int) (l56 : List Int) (l57 : List Int) : St := ⟨[(6, vP 0 0), (7, vO 1), (14, vP 2 0), (15, vI i51)], [(0, .box [.val (.int .i64) (0 : Int), .nils, .nils, .nils]), (1, .arr (.bool) l53), (2, .box [.val (.int .i64) (-1 : Int), .own 3, .own 4, .own 5]), (3, .arr (.int .i64) l55), (4, .arr (.int .i64) l56), (5, .arr (.int .i64) l57)], 6⟩
def Zkv (l53 : List Bool) (l55 : List Int) (l56 : List Int) (i58 : Int) (t59 : Bool) (l60 : List Int) : St := ⟨[(6, vP 0 0), (7, vO 1), (14, vP 2 0), (15, vI i58), (75, vB t59)], [(0, .box [.val (.int .i64) (0 : Int), .nils, .nils, .nils]), (1, .arr (.bool) l53), (2, .box [.val (.int .i64) (-1 : Int), .own 3, .own 4, .own 5]), (3, .arr (.int .i64) l55), (4, .arr (.int .i64) l56), (5, .arr (.int .i64) l60)], 6⟩
theorem Zml (N : Nat) {R : Type} (K : Ex → St → Option R) {l53 : List Bool} {l55 : List Int} {l56 : List Int} {K0 : Int → Bool → (List Int) → Option R} (h0 : K0 = fun i58 t59 l60 => K (.exit 4) (Zkv l53 l55 l56 i58 t59 l60)) (n : Nat) (i51 : Int) (l57 : List Int) : Zah N l53 l55 l56 K0 n i51 l57 = LM Zbs N 2 100017 n (Zmk i51 l53 l55 l56 l57) K := by
  subst h0
  induction n generalizing i51 l57 with
  | zero => kernel_rfl
  | succ n ih => rw [Zah]; simp (disch := exact id (by kernel_rfl)) only [ih]; kernel_rfl
theorem Zqc : Callable Tryz.prog 7 := callable_of Tryz.func7 (show chkFn Tryz.f7 = true by kernel_rfl)
theorem Zqd (N : Nat) (l1 : List (List (Int × Int × Int × Int))) (regs2 : List Int) (cells3 : List Int) : DN Zbs N (l1, regs2, cells3, ()) = Zcx N l1 regs2 cells3 := by
  have h : Zcx N l1 regs2 cells3 = Zcx N l1 regs2 cells3 := rfl
  conv at h => rhs; rw [Zcx]
  simp (disch := exact id (by kernel_rfl)) only [Zmj (R := Unit × ((Int × List Int × List Int × List Int) × Unit)) N (CF Zbs N [1, 1, 1, 0, 1, 0]), Zml (R := Unit × ((Int × List Int × List Int × List Int) × Unit)) N (CF Zbs N [1, 1, 1, 1, 1, 0, 1, 0])] at h
  exact Eq.trans (by kernel_rfl) h.symm
theorem Zqe (N : Nat) : Good Tryz.prog 7 (Zha N) := GF Zbs N Tryz.func7 (ctx_cons (Zp6 N) Zp4 (ctx_cons (Znq N) Znp (ctx_cons (Zo6 N) Zo4 (ctx_cons (Zik N) Zij ctx_nil)))) (by kernel_rfl) (fun d => Zqd N d.1 d.2.1 d.2.2.1)
noncomputable def Zbt (N : Nat) : Sig := Sig.of [.v (.int .i64) false, .v (.int .i64) false, .v (.int .i64) false] [.v (.bool) false] (fun d => Zan N d.1 d.2.1 d.2.2.1)
noncomputable def Zqf : Fn := ⟨Tryz.f110, noAnn, Zbt, noCtx⟩
theorem Zdd : Callable Tryz.prog 110 := callable_of Tryz.func110 (show chkFn Tryz.f110 = true by kernel_rfl)
theorem Zde (N : Nat) : Good Tryz.prog 110 (Zbt N) := GF Zqf N Tryz.func110 ctx_nil (by kernel_rfl) (fun d => by kernel_rfl)
noncomputable def Zdo (N : Nat) : Sig := Sig.of [.v (.int .i64) false] [.v (.bool) false] (fun d => Zc0 N d.1)
noncomputable def Zo7 : Fn := ⟨Tryz.f74, noAnn, Zdo, fun N => [(110, Zbt N)]⟩
theorem Zgk : Callable Tryz.prog 74 := callable_of Tryz.func74 (show chkFn Tryz.f74 = true by kernel_rfl)
theorem Zgl (N : Nat) : Good Tryz.prog 74 (Zdo N) := GF Zo7 N Tryz.func74 (ctx_cons (Zde N) Zdd ctx_nil) (by kernel_rfl) (fun d => by kernel_rfl)
noncomputable def Zbd (N : Nat) : Sig := Sig.of [.v (.slice (.int .i64)) false, .v (.int .i64) false] [.v (.bool) false] (fun d => Zt N d.1 d.2.1)
noncomputable def Zdw : Fn := ⟨Tryz.f61, fun | 2 => [.canon [0, 1, 7, 8, 9, 10]] | 3 => [.canon [0, 1, 6, 7, 8, 9]] | 4 => [.canon [0, 1, 7, 8, 9, 15]] | 5 => [.canon [4]] | 6 => [.canon [0, 1, 7, 8, 9]] | 100002 => [.canon [0, 1, 7, 8, 9]] | _ => [], Zbd, fun N => [(74, Zdo N)]⟩
def Zi7 (l3 : List Int) (n4 : Int) (t7 : Int) : St := ⟨[(0, vV (.slice (.int .i64)) l3), (1, vI n4), (7, vV (.slice (.int .i64)) l3), (8, vI (ilen l3)), (9, vI t7)], [], 0⟩
def Zio (l3 : List Int) (n4 : Int) : St := ⟨[(4, vB false)], [], 0⟩
def Zip (l3 : List Int) (n4 : Int) (t10 : Int) (t11 : Bool) : St := ⟨[(0, vV (.slice (.int .i64)) l3), (1, vI n4), (7, vV (.slice (.int .i64)) l3), (8, vI (ilen l3)), (9, vI t10), (10, vB t11)], [], 0⟩
theorem Zi8 (N : Nat) {R : Type} (K : Ex → St → Option R) {l3 : List Int} {n4 : Int} {K0 : Option R} {K1 : Int → Bool → Option R} (h0 : K0 = K .ret (Zio l3 n4)) (h1 : K1 = fun t10 t11 => K (.exit 0) (Zip l3 n4 t10 t11)) (n : Nat) (t7 : Int) : Z4 N l3 n4 K0 K1 n t7 = LM Zdw N 0 100002 n (Zi7 l3 n4 t7) K := by
  subst h0 h1
  induction n generalizing t7 with
  | zero => kernel_rfl
  | succ n ih => rw [Z4]; simp (disch := exact id (by kernel_rfl)) only [ih]; kernel_rfl
theorem Zc8 : Callable Tryz.prog 61 := callable_of Tryz.func61 (show chkFn Tryz.f61 = true by kernel_rfl)
theorem Znr (N : Nat) (l1 : List Int) (n2 : Int) : DN Zdw N (l1, n2, ()) = Zt N l1 n2 := by
  have h : Zt N l1 n2 = Zt N l1 n2 := rfl
  conv at h => rhs; rw [Zt]
  simp (disch := exact id (by kernel_rfl)) only [Zi8 (R := Unit × (Bool × Unit)) N (CF Zdw N [1, 0, 1, 0])] at h
  exact Eq.trans (by kernel_rfl) h.symm
theorem Zc9 (N : Nat) : Good Tryz.prog 61 (Zbd N) := GF Zdw N Tryz.func61 (ctx_cons (Zgl N) Zgk ctx_nil) (by kernel_rfl) (fun d => Znr N d.1 d.2.1)
noncomputable def Zht (N : Nat) : Sig := Sig.of [.v (.int .i64) false] [.v (.bool) false] (fun d => Zb N d.1)
noncomputable def Zrh : Fn := ⟨Tryz.f131, noAnn, Zht, fun N => [(110, Zbt N)]⟩
theorem Zri : Callable Tryz.prog 131 := callable_of Tryz.func131 (show chkFn Tryz.f131 = true by kernel_rfl)
theorem Zrj (N : Nat) : Good Tryz.prog 131 (Zht N) := GF Zrh N Tryz.func131 (ctx_cons (Zde N) Zdd ctx_nil) (by kernel_rfl) (fun d => by kernel_rfl)
noncomputable def Ze8 (N : Nat) : Sig := Sig.of [.v (.int .i64) false] [.v (.bool) false] (fun d => Zaq N d.1)
noncomputable def Zqg : Fn := ⟨Tryz.f73, noAnn, Ze8, fun N => [(110, Zbt N)]⟩
theorem Zi1 : Callable Tryz.prog 73 := callable_of Tryz.func73 (show chkFn Tryz.f73 = true by kernel_rfl)
theorem Zi2 (N : Nat) : Good Tryz.prog 73 (Ze8 N) := GF Zqg N Tryz.func73 (ctx_cons (Zde N) Zdd ctx_nil) (by kernel_rfl) (fun d => by kernel_rfl)
noncomputable def Zhu (N : Nat) : Sig := Sig.of [.v (.int .i64) false] [.v (.bool) false] (fun d => Zc N d.1)
noncomputable def Zrk : Fn := ⟨Tryz.f132, noAnn, Zhu, fun N => [(110, Zbt N)]⟩
theorem Zrl : Callable Tryz.prog 132 := callable_of Tryz.func132 (show chkFn Tryz.f132 = true by kernel_rfl)
theorem Zrm (N : Nat) : Good Tryz.prog 132 (Zhu N) := GF Zrk N Tryz.func132 (ctx_cons (Zde N) Zdd ctx_nil) (by kernel_rfl) (fun d => by kernel_rfl)
noncomputable def Zeq (N : Nat) : Sig := Sig.of [.v (.prod (.int .i64) (.prod (.int .i64) (.prod (.int .i64) (.int .i64)))) true] [.v (.bool) false] (fun d => Zl N d.1)
noncomputable def Zr8 : Fn := ⟨Tryz.f116, noAnn, Zeq, fun N => [(131, Zht N), (74, Zdo N), (73, Ze8 N), (110, Zbt N), (132, Zhu N)]⟩
theorem Zic : Callable Tryz.prog 116 := callable_of Tryz.func116 (show chkFn Tryz.f116 = true by kernel_rfl)
theorem Zid (N : Nat) : Good Tryz.prog 116 (Zeq N) := GF Zr8 N Tryz.func116 (ctx_cons (Zrj N) Zri (ctx_cons (Zgl N) Zgk (ctx_cons (Zi2 N) Zi1 (ctx_cons (Zde N) Zdd (ctx_cons (Zrm N) Zrl ctx_nil))))) (by kernel_rfl) (fun d => by kernel_rfl)
noncomputable def Zgm (N : Nat) : Sig := Sig.of [.v (.prod (.int .i64) (.prod (.int .i64) (.prod (.int .i64) (.int .i64)))) true] [.v (.int .i64) false] (fun d => Zd9 N d.1)
noncomputable def Zo8 : Fn := ⟨Tryz.f87, noAnn, Zgm, fun N => [(116, Zeq N)]⟩
theorem Zo9 : Callable Tryz.prog 87 := callable_of Tryz.func87 (show chkFn Tryz.f87 = true by kernel_rfl)
theorem Zpa (N : Nat) : Good Tryz.prog 87 (Zgm N) := GF Zo8 N Tryz.func87 (ctx_cons (Zid N) Zic ctx_nil) (by kernel_rfl) (fun d => by kernel_rfl)
noncomputable def Zed (N : Nat) : Sig := Sig.of [.v (.prod (.int .i64) (.prod (.int .i64) (.prod (.int .i64) (.int .i64)))) true] [.v (.int .i64) false] (fun d => Zea N d.1)
noncomputable def Zrn : Fn := ⟨Tryz.f119, noAnn, Zed, noCtx⟩
theorem Zhv : Callable Tryz.prog 119 := callable_of Tryz.func119 (show chkFn Tryz.f119 = true by kernel_rfl)
theorem Zhw (N : Nat) : Good Tryz.prog 119 (Zed N) := GF Zrn N Tryz.func119 ctx_nil (by kernel_rfl) (fun d => by kernel_rfl)
noncomputable def Zeu (N : Nat) : Sig := Sig.of [.v (.slice (.prod (.int .i64) (.prod (.int .i64) (.prod (.int .i64) (.int .i64))))) false] [.v (.bool) false] (fun d => Zal N d.1)
noncomputable def Zdq : Fn := ⟨Tryz.f117, fun | 3 => [.canon [3, 6, 7, 8, 9]] | 4 => [.canon [3, 5, 6, 7, 8]] | 5 => [.canon [3, 6, 7, 8]] | 6 => [.canon [3, 6, 7, 8, 17]] | 7 => [.canon [2]] | 8 => [.canon [3, 6, 7, 8]] | 100003 => [.canon [3, 6, 7, 8]] | _ => [], Zeu, fun N => [(119, Zed N)]⟩
def Ziq (n2 : Int) (t3 : List (Int × Int × Int × Int)) (t5 : Int) : St := ⟨[(3, vI n2), (6, vV (.slice (.prod (.int .i64) (.prod (.int .i64) (.prod (.int .i64) (.int .i64))))) t3), (7, vI (ilen t3)), (8, vI t5)], [], 0⟩
def Zil (t3 : List (Int × Int × Int × Int)) : St := ⟨[(2, vB false)], [], 0⟩
def Zim (t3 : List (Int × Int × Int × Int)) (n8 : Int) (t9 : Int) (t10 : Bool) : St := ⟨[(3, vI n8), (6, vV (.slice (.prod (.int .i64) (.prod (.int .i64) (.prod (.int .i64) (.int .i64))))) t3), (7, vI (ilen t3)), (8, vI t9), (9, vB t10)], [], 0⟩
theorem Zir (N : Nat) {R : Type} (K : Ex → St → Option R) {t3 : List (Int × Int × Int × Int)} {K0 : Option R} {K1 : Int → Int → Bool → Option R} (h0 : K0 = K .ret (Zil t3)) (h1 : K1 = fun n8 t9 t10 => K (.exit 0) (Zim t3 n8 t9 t10)) (n : Nat) (n2 : Int) (t5 : Int) : Zas N t3 K0 K1 n n2 t5 = LM Zdq N 0 100003 n (Ziq n2 t3 t5) K := by
  subst h0 h1
  induction n generalizing n2 t5 with
  | zero => kernel_rfl
  | succ n ih => rw [Zas]; simp (disch := exact id (by kernel_rfl)) only [ih]; kernel_rfl
theorem Zmm : Callable Tryz.prog 117 := callable_of Tryz.func117 (show chkFn Tryz.f117 = true by kernel_rfl)
theorem Zmn (N : Nat) (code1 : List (Int × Int × Int × Int)) : DN Zdq N (code1, ()) = Zal N code1 := by
  have h : Zal N code1 = Zal N code1 := rfl
  conv at h => rhs; rw [Zal]
  simp (disch := exact id (by kernel_rfl)) only [Zir (R := Unit × (Bool × Unit)) N (CF Zdq N [1, 1, 0, 1, 0])] at h
  exact Eq.trans (by kernel_rfl) h.symm
theorem Zmo (N : Nat) : Good Tryz.prog 117 (Zeu N) := GF Zdq N Tryz.func117 (ctx_cons (Zhw N) Zhv ctx_nil) (by kernel_rfl) (fun d => Zmn N d.1)
noncomputable def Zgn (N : Nat) : Sig := Sig.of [.v (.slice (.prod (.int .i64) (.prod (.int .i64) (.prod (.int .i64) (.int .i64))))) false, .v (.int .i64) false] [.v (.int .i64) false] (fun d => Zb6 N d.1 d.2.1)
noncomputable def Zek : Fn := ⟨Tryz.f118, fun | 3 => [.canon [1, 5, 8, 9, 10, 11]] | 4 => [.canon [1, 5, 6, 7, 8, 9, 10]] | 5 => [.canon [1, 5, 7, 8, 9, 10, 17]] | 6 => [.canon [1, 5, 8, 9, 10]] | 7 => [.canon [1, 5, 8, 9, 10]] | 100003 => [.canon [1, 5, 8, 9, 10]] | _ => [], Zgn, fun N => [(119, Zed N)]⟩
def Zkw (i3 : Int) (n4 : Int) (t5 : List (Int × Int × Int × Int)) (t7 : Int) : St := ⟨[(1, vI i3), (5, vI n4), (8, vV (.slice (.prod (.int .i64) (.prod (.int .i64) (.prod (.int .i64) (.int .i64))))) t5), (9, vI (ilen t5)), (10, vI t7)], [], 0⟩
def Zjr (i3 : Int) (t5 : List (Int × Int × Int × Int)) (n10 : Int) (t11 : Int) (t12 : Bool) : St := ⟨[(1, vI i3), (5, vI n10), (8, vV (.slice (.prod (.int .i64) (.prod (.int .i64) (.prod (.int .i64) (.int .i64))))) t5), (9, vI (ilen t5)), (10, vI t11), (11, vB t12)], [], 0⟩
theorem Zkx (N : Nat) {R : Type} (K : Ex → St → Option R) {i3 : Int} {t5 : List (Int × Int × Int × Int)} {K0 : Int → Int → Bool → Option R} (h0 : K0 = fun n10 t11 t12 => K (.exit 0) (Zjr i3 t5 n10 t11 t12)) (n : Nat) (n4 : Int) (t7 : Int) : Zau N i3 t5 K0 n n4 t7 = LM Zek N 0 100003 n (Zkw i3 n4 t5 t7) K := by
  subst h0
  induction n generalizing n4 t7 with
  | zero => kernel_rfl
  | succ n ih => rw [Zau]; simp (disch := exact id (by kernel_rfl)) only [ih]; kernel_rfl
theorem Zpb : Callable Tryz.prog 118 := callable_of Tryz.func118 (show chkFn Tryz.f118 = true by kernel_rfl)
theorem Zpc (N : Nat) (code1 : List (Int × Int × Int × Int)) (i2 : Int) : DN Zek N (code1, i2, ()) = Zb6 N code1 i2 := by
  have h : Zb6 N code1 i2 = Zb6 N code1 i2 := rfl
  conv at h => rhs; rw [Zb6]
  simp (disch := exact id (by kernel_rfl)) only [Zkx (R := Unit × (Int × Unit)) N (CF Zek N [1, 1, 0, 1, 0])] at h
  exact Eq.trans (by kernel_rfl) h.symm
theorem Zpd (N : Nat) : Good Tryz.prog 118 (Zgn N) := GF Zek N Tryz.func118 (ctx_cons (Zhw N) Zhv ctx_nil) (by kernel_rfl) (fun d => Zpc N d.1 d.2.1)
noncomputable def Zhb (N : Nat) : Sig := Sig.of [.v (.slice (.prod (.int .i64) (.prod (.int .i64) (.prod (.int .i64) (.int .i64))))) false] [.v (.bool) false] (fun d => Zbw N d.1)
noncomputable def Ze9 : Fn := ⟨Tryz.f88, fun | 5 => [.canon [0, 3, 14, 15, 16, 17]] | 6 => [.canon [0, 3, 4, 5, 14, 15, 16]] | 7 => [.canon [0, 3, 4, 5, 14, 15, 16, 23]] | 8 => [.canon [2]] | 9 => [.canon [0, 3, 4, 5, 14, 15, 16, 25]] | 10 => [.canon [0, 3, 4, 5, 14, 15, 16, 25, 26]] | 11 => [.canon [0, 3, 14, 15, 16, 48]] | 12 => [.canon [2]] | 13 => [.canon [0, 3, 4, 14, 15, 16, 49]] | 14 => [.canon [0, 3, 4, 14, 15, 16]] | 15 => [.canon [0, 3, 14, 15, 16, 60]] | 16 => [.canon [2]] | 17 => [.canon [0, 3, 14, 15, 16]] | 100005 => [.canon [0, 3, 14, 15, 16]] | _ => [], Zhb, fun N => [(117, Zeu N), (116, Zeq N), (118, Zgn N)]⟩
def Zmp (code3 : List (Int × Int × Int × Int)) (forks4 : Int) (t7 : Int) : St := ⟨[(0, vV (.slice (.prod (.int .i64) (.prod (.int .i64) (.prod (.int .i64) (.int .i64))))) code3), (3, vI forks4), (14, vV (.slice (.prod (.int .i64) (.prod (.int .i64) (.prod (.int .i64) (.int .i64))))) code3), (15, vI (ilen code3)), (16, vI t7)], [], 0⟩
def Zky (code3 : List (Int × Int × Int × Int)) : St := ⟨[(2, vB false)], [], 0⟩
def Zkz (code3 : List (Int × Int × Int × Int)) (forks14 : Int) (t15 : Int) (t16 : Bool) : St := ⟨[(0, vV (.slice (.prod (.int .i64) (.prod (.int .i64) (.prod (.int .i64) (.int .i64))))) code3), (3, vI forks14), (14, vV (.slice (.prod (.int .i64) (.prod (.int .i64) (.prod (.int .i64) (.int .i64))))) code3), (15, vI (ilen code3)), (16, vI t15), (17, vB t16)], [], 0⟩
theorem Zmq (N : Nat) {R : Type} (K : Ex → St → Option R) {code3 : List (Int × Int × Int × Int)} {K0 : Option R} {K1 : Int → Int → Bool → Option R} (h0 : K0 = K .ret (Zky code3)) (h1 : K1 = fun forks14 t15 t16 => K (.exit 0) (Zkz code3 forks14 t15 t16)) (n : Nat) (forks4 : Int) (t7 : Int) : Zam N code3 K0 K1 n forks4 t7 = LM Ze9 N 0 100005 n (Zmp code3 forks4 t7) K := by
  subst h0 h1
  induction n generalizing forks4 t7 with
  | zero => kernel_rfl
  | succ n ih => rw [Zam]; simp (disch := exact id (by kernel_rfl)) only [ih]; kernel_rfl
theorem Zqh : Callable Tryz.prog 88 := callable_of Tryz.func88 (show chkFn Tryz.f88 = true by kernel_rfl)
theorem Zqi (N : Nat) (code1 : List (Int × Int × Int × Int)) : DN Ze9 N (code1, ()) = Zbw N code1 := by
  have h : Zbw N code1 = Zbw N code1 := rfl
  conv at h => rhs; rw [Zbw]
  simp (disch := exact id (by kernel_rfl)) only [Zmq (R := Unit × (Bool × Unit)) N (CF Ze9 N [1, 1, 1, 0, 1, 0])] at h
  exact Eq.trans (by kernel_rfl) h.symm
theorem Zqj (N : Nat) : Good Tryz.prog 88 (Zhb N) := GF Ze9 N Tryz.func88 (ctx_cons (Zmo N) Zmm (ctx_cons (Zid N) Zic (ctx_cons (Zpd N) Zpb ctx_nil))) (by kernel_rfl) (fun d => Zqi N d.1)
noncomputable def Zee (N : Nat) : Sig := Sig.of [.v (.slice (.prod (.int .i64) (.prod (.int .i64) (.prod (.int .i64) (.int .i64))))) false] [.v (.bool) false] (fun d => Zbv N d.1)
noncomputable def Zfs : Fn := ⟨Tryz.f64, fun | 2 => [.canon [0, 5, 6, 7, 8]] | 3 => [.canon [0, 4, 5, 6, 7]] | 4 => [.canon [0, 5, 6, 7, 18]] | 5 => [.canon [2]] | 6 => [.canon [0, 5, 6, 7]] | 100002 => [.canon [0, 5, 6, 7]] | _ => [], Zee, fun N => [(87, Zgm N), (88, Zhb N)]⟩
def Zns (code2 : List (Int × Int × Int × Int)) (t5 : Int) : St := ⟨[(0, vV (.slice (.prod (.int .i64) (.prod (.int .i64) (.prod (.int .i64) (.int .i64))))) code2), (5, vV (.slice (.prod (.int .i64) (.prod (.int .i64) (.prod (.int .i64) (.int .i64))))) code2), (6, vI (ilen code2)), (7, vI t5)], [], 0⟩
def Zmr (code2 : List (Int × Int × Int × Int)) : St := ⟨[(2, vB false)], [], 0⟩
def Zms (code2 : List (Int × Int × Int × Int)) (t8 : Int) (t9 : Bool) : St := ⟨[(0, vV (.slice (.prod (.int .i64) (.prod (.int .i64) (.prod (.int .i64) (.int .i64))))) code2), (5, vV (.slice (.prod (.int .i64) (.prod (.int .i64) (.prod (.int .i64) (.int .i64))))) code2), (6, vI (ilen code2)), (7, vI t8), (8, vB t9)], [], 0⟩
theorem Znt (N : Nat) {R : Type} (K : Ex → St → Option R) {code2 : List (Int × Int × Int × Int)} {K0 : Option R} {K1 : Int → Bool → Option R} (h0 : K0 = K .ret (Zmr code2)) (h1 : K1 = fun t8 t9 => K (.exit 0) (Zms code2 t8 t9)) (n : Nat) (t5 : Int) : Zb0 N code2 K0 K1 n t5 = LM Zfs N 0 100002 n (Zns code2 t5) K := by
  subst h0 h1
  induction n generalizing t5 with
  | zero => kernel_rfl
  | succ n ih => rw [Zb0]; simp (disch := exact id (by kernel_rfl)) only [ih]; kernel_rfl
theorem Zhx : Callable Tryz.prog 64 := callable_of Tryz.func64 (show chkFn Tryz.f64 = true by kernel_rfl)
theorem Zro (N : Nat) (code1 : List (Int × Int × Int × Int)) : DN Zfs N (code1, ()) = Zbv N code1 := by
  have h : Zbv N code1 = Zbv N code1 := rfl
  conv at h => rhs; rw [Zbv]
  simp (disch := exact id (by kernel_rfl)) only [Znt (R := Unit × (Bool × Unit)) N (CF Zfs N [1, 0, 1, 0])] at h
  exact Eq.trans (by kernel_rfl) h.symm
theorem Zhy (N : Nat) : Good Tryz.prog 64 (Zee N) := GF Zfs N Tryz.func64 (ctx_cons (Zpa N) Zo9 (ctx_cons (Zqj N) Zqh ctx_nil)) (by kernel_rfl) (fun d => Zro N d.1)
noncomputable def Zfx (N : Nat) : Sig := Sig.of [.v (.slice (.prod (.int .i64) (.prod (.int .i64) (.prod (.int .i64) (.int .i64))))) true] [.v (.bool) false] (fun d => Zgy N d.1)
noncomputable def Zod : Fn := ⟨Tryz.f63, noAnn, Zfx, fun N => [(64, Zee N)]⟩
theorem Zoe : Callable Tryz.prog 63 := callable_of Tryz.func63 (show chkFn Tryz.f63 = true by kernel_rfl)
theorem Zof (N : Nat) : Good Tryz.prog 63 (Zfx N) := GF Zod N Tryz.func63 (ctx_cons (Zhy N) Zhx ctx_nil) (by kernel_rfl) (fun d => by kernel_rfl)
noncomputable def Z1 (N : Nat) : Sig := Sig.of [.v (.slice (.slice (.prod (.int .i64) (.prod (.int .i64) (.prod (.int .i64) (.int .i64)))))) false, .clos 63 0] [.v (.int .i64) false] (fun d => Zj N d.1)
noncomputable def Zw : Fn := ⟨Tryz.f86, fun | 2 => [.canon [0, 1, 7, 8, 9]] | 3 => [.canon [0, 1, 5, 7, 8]] | 4 => [.canon [0, 1, 5, 7, 8, 16]] | 5 => [.canon [1, 4]] | 6 => [.canon [0, 1, 7, 8]] | 100002 => [.canon [0, 1, 7, 8]] | _ => [], Z1, fun N => [(63, Zfx N)]⟩
def Zci (s2 : List (List (Int × Int × Int × Int))) (t4 : Int) : St := ⟨[(0, vV (.slice (.slice (.prod (.int .i64) (.prod (.int .i64) (.prod (.int .i64) (.int .i64)))))) s2), (1, .s (.one (.clos 63 []))), (7, vI (ilen s2)), (8, vI t4)], [], 0⟩
def Zce (s2 : List (List (Int × Int × Int × Int))) (t7 : Int) : St := ⟨[(1, .s (.one (.clos 63 []))), (4, vI t7)], [], 0⟩
def Zcf (s2 : List (List (Int × Int × Int × Int))) (t8 : Int) (t9 : Bool) : St := ⟨[(0, vV (.slice (.slice (.prod (.int .i64) (.prod (.int .i64) (.prod (.int .i64) (.int .i64)))))) s2), (1, .s (.one (.clos 63 []))), (7, vI (ilen s2)), (8, vI t8), (9, vB t9)], [], 0⟩
theorem Zcj (N : Nat) {R : Type} (K : Ex → St → Option R) {s2 : List (List (Int × Int × Int × Int))} {K0 : Int → Option R} {K1 : Int → Bool → Option R} (h0 : K0 = fun t7 => K .ret (Zce s2 t7)) (h1 : K1 = fun t8 t9 => K (.exit 0) (Zcf s2 t8 t9)) (n : Nat) (t4 : Int) : Zg N s2 K0 K1 n t4 = LM Zw N 0 100002 n (Zci s2 t4) K := by
  subst h0 h1
  induction n generalizing t4 with
  | zero => kernel_rfl
  | succ n ih => rw [Zg]; simp (disch := exact id (by kernel_rfl)) only [ih]; kernel_rfl
theorem Zc2 : Callable Tryz.prog 86 := callable_of Tryz.func86 (show chkFn Tryz.f86 = true by kernel_rfl)
theorem Zc3 (N : Nat) (s1 : List (List (Int × Int × Int × Int))) : DN Zw N (s1, ()) = Zj N s1 := by
  have h : Zj N s1 = Zj N s1 := rfl
  conv at h => rhs; rw [Zj]
  simp (disch := exact id (by kernel_rfl)) only [Zcj (R := Unit × (Int × Unit)) N (CF Zw N [1, 0, 1, 0])] at h
  exact Eq.trans (by kernel_rfl) h.symm
theorem Zc4 (N : Nat) : Good Tryz.prog 86 (Z1 N) := GF Zw N Tryz.func86 (ctx_cons (Zof N) Zoe ctx_nil) (by kernel_rfl) (fun d => Zc3 N d.1)
noncomputable def Zz (N : Nat) : Sig := Sig.of [.v (.slice (.slice (.prod (.int .i64) (.prod (.int .i64) (.prod (.int .i64) (.int .i64)))))) false, .clos 63 0] [.v (.bool) false] (fun d => Zu N d.1)
noncomputable def Zcl : Fn := ⟨Tryz.f62, noAnn, Zz, fun N => [(86, Z1 N)]⟩
theorem Zcm : Callable Tryz.prog 62 := callable_of Tryz.func62 (show chkFn Tryz.f62 = true by kernel_rfl)
theorem Zcn (N : Nat) : Good Tryz.prog 62 (Zz N) := GF Zcl N Tryz.func62 (ctx_cons (Zc4 N) Zc2 ctx_nil) (by kernel_rfl) (fun d => by kernel_rfl)
noncomputable def Zhc (N : Nat) : Sig := Sig.of [.v (.slice (.slice (.prod (.int .i64) (.prod (.int .i64) (.prod (.int .i64) (.int .i64)))))) false, .v (.slice (.int .i64)) false, .v (.slice (.int .i64)) false] [.v (.bool) false] (fun d => Zgc N d.1 d.2.1 d.2.2.1)
noncomputable def Zqk : Fn := ⟨Tryz.f33, noAnn, Zhc, fun N => [(61, Zbd N), (62, Zz N)]⟩
theorem Zql : Callable Tryz.prog 33 := callable_of Tryz.func33 (show chkFn Tryz.f33 = true by kernel_rfl)
theorem Zqm (N : Nat) : Good Tryz.prog 33 (Zhc N) := GF Zqk N Tryz.func33 (ctx_cons (Zc9 N) Zc8 (ctx_cons (Zcn N) Zcm ctx_nil)) (by kernel_rfl) (fun d => by kernel_rfl)
noncomputable def Zai (N : Nat) : Sig := Sig.of [.v (.slice (.int .i64)) false] [.v (.own (.int .i64)) false] (fun d => Zi N d.1)
noncomputable def Zog : Fn := ⟨Tryz.f37, noAnn, Zai, noCtx⟩
theorem Za1 : Callable Tryz.prog 37 := callable_of Tryz.func37 (show chkFn Tryz.f37 = true by kernel_rfl)
theorem Za2 (N : Nat) : Good Tryz.prog 37 (Zai N) := GF Zog N Tryz.func37 ctx_nil (by kernel_rfl) (fun d => by kernel_rfl)
noncomputable def Zev (N : Nat) : Sig := Sig.of [.v (.prod (.slice (.int .i64)) (.prod (.slice (.int .i64)) (.int .i64))) true] [.v (.prod (.own (.int .i64)) (.prod (.own (.int .i64)) (.int .i64))) true] (fun d => Z2 N d.1)
noncomputable def Zmt : Fn := ⟨Tryz.f89, noAnn, Zev, fun N => [(37, Zai N)]⟩
theorem Zmu : Callable Tryz.prog 89 := callable_of Tryz.func89 (show chkFn Tryz.f89 = true by kernel_rfl)
theorem Zmv (N : Nat) : Good Tryz.prog 89 (Zev N) := GF Zmt N Tryz.func89 (ctx_cons (Za2 N) Za1 ctx_nil) (by kernel_rfl) (fun d => by kernel_rfl)
noncomputable def Zgg (N : Nat) : Sig := Sig.of [.v (.prod (.int .i64) (.prod (.int .i64) (.prod (.int .i64) (.int .i64)))) true, .v (.slice (.int .i64)) false] [.v (.own (.int .i64)) false, .v (.bool) false] (fun d => Zdl N d.1 d.2.1)
noncomputable def Zr9 : Fn := ⟨Tryz.f90, noAnn, Zgg, fun N => [(37, Zai N), (116, Zeq N), (61, Zbd N)]⟩
theorem Zln : Callable Tryz.prog 90 := callable_of Tryz.func90 (show chkFn Tryz.f90 = true by kernel_rfl)
theorem Zlo (N : Nat) : Good Tryz.prog 90 (Zgg N) := GF Zr9 N Tryz.func90 (ctx_cons (Za2 N) Za1 (ctx_cons (Zid N) Zic (ctx_cons (Zc9 N) Zc8 ctx_nil))) (by kernel_rfl) (fun d => by kernel_rfl)
noncomputable def Zft (N : Nat) : Sig := Sig.of [.v (.slice (.prod (.int .i64) (.prod (.int .i64) (.prod (.int .i64) (.int .i64))))) false, .v (.int .i64) false] [.v (.int .i64) false] (fun d => Zay N d.1 d.2.1)
noncomputable def Zfu : Fn := ⟨Tryz.f91, fun | 5 => [.canon [0, 5, 6, 25]] | 6 => [.canon [0, 5, 6]] | 7 => [.canon [0, 5, 6]] | 8 => [.canon [0, 5, 6, 36]] | 9 => [.canon [4]] | 100005 => [.canon [0, 5, 6]] | _ => [], Zft, fun N => [(110, Zbt N), (119, Zed N)]⟩
def Znu (code4 : List (Int × Int × Int × Int)) (n5 : Int) (k6 : Int) : St := ⟨[(0, vV (.slice (.prod (.int .i64) (.prod (.int .i64) (.prod (.int .i64) (.int .i64))))) code4), (5, vI n5), (6, vI k6)], [], 0⟩
def Zmw (code4 : List (Int × Int × Int × Int)) (t8 : Int) : St := ⟨[(4, vI t8)], [], 0⟩
def Zmx (code4 : List (Int × Int × Int × Int)) (n9 : Int) (k10 : Int) (t11 : Bool) : St := ⟨[(0, vV (.slice (.prod (.int .i64) (.prod (.int .i64) (.prod (.int .i64) (.int .i64))))) code4), (5, vI n9), (6, vI k10), (25, vB t11)], [], 0⟩
theorem Znv (N : Nat) {R : Type} (K : Ex → St → Option R) {code4 : List (Int × Int × Int × Int)} {K0 : Int → Option R} {K1 : Int → Int → Bool → Option R} (h0 : K0 = fun t8 => K .ret (Zmw code4 t8)) (h1 : K1 = fun n9 k10 t11 => K (.exit 0) (Zmx code4 n9 k10 t11)) (n : Nat) (n5 : Int) (k6 : Int) : Zb2 N code4 K0 K1 n n5 k6 = LM Zfu N 0 100005 n (Znu code4 n5 k6) K := by
  subst h0 h1
  induction n generalizing n5 k6 with
  | zero => kernel_rfl
  | succ n ih => rw [Zb2]; simp (disch := exact id (by kernel_rfl)) only [ih]; kernel_rfl
theorem Zjs : Callable Tryz.prog 91 := callable_of Tryz.func91 (show chkFn Tryz.f91 = true by kernel_rfl)
theorem Zrp (N : Nat) (code1 : List (Int × Int × Int × Int)) (i2 : Int) : DN Zfu N (code1, i2, ()) = Zay N code1 i2 := by
  have h : Zay N code1 i2 = Zay N code1 i2 := rfl
  conv at h => rhs; rw [Zay]
  simp (disch := exact id (by kernel_rfl)) only [Znv (R := Unit × (Int × Unit)) N (CF Zfu N [1, 1, 1, 0, 1, 0])] at h
  exact Eq.trans (by kernel_rfl) h.symm
theorem Zjt (N : Nat) : Good Tryz.prog 91 (Zft N) := GF Zfu N Tryz.func91 (ctx_cons (Zde N) Zdd (ctx_cons (Zhw N) Zhv ctx_nil)) (by kernel_rfl) (fun d => Zrp N d.1 d.2.1)
noncomputable def Zda (N : Nat) : Sig := Sig.of [.v (.slice (.int .i64)) false, .v (.int .i64) false] [.v (.int .i64) false] (fun d => Zak N d.1 d.2.1)
noncomputable def Zbu : Fn := ⟨Tryz.f133, fun | 2 => [.canon [0, 1, 7, 8, 9]] | 3 => [.canon [0, 1, 5, 7, 8]] | 4 => [.canon [0, 1, 5, 7, 8, 16]] | 5 => [.canon [4]] | 6 => [.canon [0, 1, 7, 8]] | 100002 => [.canon [0, 1, 7, 8]] | _ => [], Zda, noCtx⟩
def Zgs (s3 : List Int) (v4 : Int) (t6 : Int) : St := ⟨[(0, vV (.slice (.int .i64)) s3), (1, vI v4), (7, vI (ilen s3)), (8, vI t6)], [], 0⟩
def Zgo (s3 : List Int) (v4 : Int) (t7 : Int) : St := ⟨[(4, vI t7)], [], 0⟩
def Zgp (s3 : List Int) (v4 : Int) (t8 : Int) (t9 : Bool) : St := ⟨[(0, vV (.slice (.int .i64)) s3), (1, vI v4), (7, vI (ilen s3)), (8, vI t8), (9, vB t9)], [], 0⟩
theorem Zgt (N : Nat) {R : Type} (K : Ex → St → Option R) {s3 : List Int} {v4 : Int} {K0 : Int → Option R} {K1 : Int → Bool → Option R} (h0 : K0 = fun t7 => K .ret (Zgo s3 v4 t7)) (h1 : K1 = fun t8 t9 => K (.exit 0) (Zgp s3 v4 t8 t9)) (n : Nat) (t6 : Int) : Za7 N s3 v4 K0 K1 n t6 = LM Zbu N 0 100002 n (Zgs s3 v4 t6) K := by
  subst h0 h1
  induction n generalizing t6 with
  | zero => kernel_rfl
  | succ n ih => rw [Za7]; simp (disch := exact id (by kernel_rfl)) only [ih]; kernel_rfl
theorem Zh5 : Callable Tryz.prog 133 := callable_of Tryz.func133 (show chkFn Tryz.f133 = true by kernel_rfl)
theorem Zh6 (N : Nat) (s1 : List Int) (v2 : Int) : DN Zbu N (s1, v2, ()) = Zak N s1 v2 := by
  have h : Zak N s1 v2 = Zak N s1 v2 := rfl
  conv at h => rhs; rw [Zak]
  simp (disch := exact id (by kernel_rfl)) only [Zgt (R := Unit × (Int × Unit)) N (CF Zbu N [1, 0, 1, 0])] at h
  exact Eq.trans (by kernel_rfl) h.symm
theorem Zh7 (N : Nat) : Good Tryz.prog 133 (Zda N) := GF Zbu N Tryz.func133 ctx_nil (by kernel_rfl) (fun d => Zh6 N d.1 d.2.1)
noncomputable def Zck (N : Nat) : Sig := Sig.of [.v (.slice (.int .i64)) false, .v (.int .i64) false] [.v (.bool) false] (fun d => Zd8 N d.1 d.2.1)
noncomputable def Zhd : Fn := ⟨Tryz.f120, noAnn, Zck, fun N => [(133, Zda N)]⟩
theorem Zhe : Callable Tryz.prog 120 := callable_of Tryz.func120 (show chkFn Tryz.f120 = true by kernel_rfl)
theorem Zhf (N : Nat) : Good Tryz.prog 120 (Zck N) := GF Zhd N Tryz.func120 (ctx_cons (Zh7 N) Zh5 ctx_nil) (by kernel_rfl) (fun d => by kernel_rfl)
noncomputable def Zfj (N : Nat) : Sig := Sig.of [.v (.slice (.int .i64)) false, .v (.int .i64) false] [.v (.own (.int .i64)) false] (fun d => Zaw N d.1 d.2.1)
noncomputable def Zdx : Fn := ⟨Tryz.f92, fun | 3 => [.canon [0, 5, 9, 10, 11]] | 4 => [.canon [0, 5, 6, 9, 10]] | 5 => [.canon [0, 5, 6, 9, 10, 16]] | 6 => [.canon [0, 5, 9, 10]] | 7 => [.canon [0, 5, 9, 10]] | 100003 => [.canon [0, 5, 9, 10]] | _ => [], Zfj, fun N => [(37, Zai N), (120, Zck N)]⟩
def Zi9 (order4 : List Int) (t5 : Int) (t6 : Int) (l7 : List Int) : St := ⟨[(0, vV (.slice (.int .i64)) order4), (5, vO 0), (9, vI t5), (10, vI t6)], [(0, .arr (.int .i64) l7)], 1⟩
def Zis (order4 : List Int) (t5 : Int) (t9 : Int) (t10 : Bool) (l11 : List Int) : St := ⟨[(0, vV (.slice (.int .i64)) order4), (5, vO 0), (9, vI t5), (10, vI t9), (11, vB t10)], [(0, .arr (.int .i64) l11)], 1⟩
theorem Zja (N : Nat) {R : Type} (K : Ex → St → Option R) {order4 : List Int} {t5 : Int} {K0 : Int → Bool → (List Int) → Option R} (h0 : K0 = fun t9 t10 l11 => K (.exit 0) (Zis order4 t5 t9 t10 l11)) (n : Nat) (t6 : Int) (l7 : List Int) : Zcg N order4 t5 K0 n t6 l7 = LM Zdx N 0 100003 n (Zi9 order4 t5 t6 l7) K := by
  subst h0
  induction n generalizing t6 l7 with
  | zero => kernel_rfl
  | succ n ih => rw [Zcg]; simp (disch := exact id (by kernel_rfl)) only [ih]; kernel_rfl
theorem Znw : Callable Tryz.prog 92 := callable_of Tryz.func92 (show chkFn Tryz.f92 = true by kernel_rfl)
theorem Znx (N : Nat) (order1 : List Int) (kids2 : Int) : DN Zdx N (order1, kids2, ()) = Zaw N order1 kids2 := by
  have h : Zaw N order1 kids2 = Zaw N order1 kids2 := rfl
  conv at h => rhs; rw [Zaw]
  simp (disch := exact id (by kernel_rfl)) only [Zja (R := Unit × ((List Int) × Unit)) N (CF Zdx N [1, 1, 0, 1, 0])] at h
  exact Eq.trans (by kernel_rfl) h.symm
theorem Zny (N : Nat) : Good Tryz.prog 92 (Zfj N) := GF Zdx N Tryz.func92 (ctx_cons (Za2 N) Za1 (ctx_cons (Zhf N) Zhe ctx_nil)) (by kernel_rfl) (fun d => Znx N d.1 d.2.1)
noncomputable def Zhz (N : Nat) : Sig := Sig.of [.v (.prod (.int .i64) (.prod (.int .i64) (.prod (.int .i64) (.int .i64)))) true, .mut (.int .i64), .box (.prod (.own (.int .i64)) (.prod (.own (.int .i64)) (.int .i64)))] [] (fun d => Zdn N d.1 d.2.1 d.2.2.1)
noncomputable def Zrq : Fn := ⟨Tryz.f93, noAnn, Zhz, noCtx⟩
theorem Zrr : Callable Tryz.prog 93 := callable_of Tryz.func93 (show chkFn Tryz.f93 = true by kernel_rfl)
theorem Zrs (N : Nat) : Good Tryz.prog 93 (Zhz N) := GF Zrq N Tryz.func93 ctx_nil (by kernel_rfl) (fun d => by kernel_rfl)
noncomputable def Zel (N m : Nat) : Sig := Sig.of [.v (.slice (.prod (.int .i64) (.prod (.int .i64) (.prod (.int .i64) (.int .i64))))) false, .v (.slice (.slice (.prod (.int .i64) (.prod (.int .i64) (.prod (.int .i64) (.int .i64)))))) false, .v (.slice (.int .i64)) false, .v (.slice (.int .i64)) false, .v (.prod (.slice (.int .i64)) (.prod (.slice (.int .i64)) (.int .i64))) true] [.v (.prod (.int .i64) (.prod (.own (.int .i64)) (.prod (.own (.int .i64)) (.prod (.own (.int .i64)) (.int .i64))))) true] (fun d => Zad N m d.1 d.2.1 d.2.2.1 d.2.2.2.1 d.2.2.2.2.1)
noncomputable def Zi3 (N : Nat) : Sig := Zel N N
noncomputable def Zdf (m : Nat) : Fn := ⟨Tryz.f65, fun | 3 => [.empt 25 (.prod (.int .i64) (.prod (.own (.int .i64)) (.prod (.own (.int .i64)) (.prod (.own (.int .i64)) (.int .i64)))))] | 5 => [.canon [0, 1, 2, 3, 9, 10, 11, 12, 13, 29]] | 6 => [.canon [0, 1, 2, 3, 9, 10, 11, 12, 13]] | 7 => [.canon [0, 1, 2, 3, 9, 10, 11, 12, 13, 14]] | 8 => [.canon [0, 1, 2, 3, 9, 10, 11, 12, 13, 14, 37]] | 9 => [.canon [0, 1, 2, 3, 9, 10, 11, 12, 13]] | 10 => [.canon [0, 1, 2, 3, 9, 10, 11, 12, 13, 14, 37, 41]] | 11 => [.canon [0, 1, 2, 3, 9, 10, 11, 12, 13, 14, 37, 41]] | 12 => [.canon [0, 1, 2, 3, 9, 10, 11, 12, 13, 14, 37, 41]] | 13 => [.canon [0, 1, 2, 3, 9, 10, 11, 12, 13, 14, 37, 41]] | 14 => [.canon [0, 1, 2, 3, 9, 10, 11, 12, 13]] | 15 => [.canon [0, 1, 2, 3, 9, 10, 11, 12, 13, 14, 37, 52]] | 16 => [.canon [0, 1, 2, 3, 9, 10, 11, 12, 13, 14, 59]] | 17 => [.canon [0, 1, 2, 3, 9, 10, 11, 12, 13]] | 18 => [.canon [0, 1, 2, 3, 9, 10, 11, 12, 13, 14, 37, 64]] | 19 => [.nest 73 (.prod (.int .i64) (.prod (.own (.int .i64)) (.prod (.own (.int .i64)) (.prod (.own (.int .i64)) (.int .i64))))), .canon [0, 1, 2, 3, 9, 10, 11, 12, 13]] | 20 => [.canon [0, 1, 2, 3, 9, 10, 11, 12, 13, 14, 37, 75]] | 21 => [.opn 81, .canon [0, 1, 2, 3, 9, 10, 11, 12, 13, 15]] | 22 => [.canon [0, 1, 2, 3, 9, 10, 11, 12, 13, 15]] | 23 => [.canon [0, 1, 2, 3, 9, 10, 11, 12, 13]] | 24 => [.canon [0, 1, 2, 3, 9, 10, 11, 12, 13, 14, 37, 96]] | 25 => [.canon [0, 1, 2, 3, 9, 10, 11, 12, 100]] | 26 => [.canon [10]] | 27 => [.opn 109, .canon [0, 1, 2, 9, 10, 11, 12, 16]] | 28 => [.canon [0, 1, 2, 9, 10, 11, 12, 16]] | 29 => [.canon [0, 1, 2, 3, 9, 10, 11, 12, 16]] | 30 => [.canon [0, 1, 2, 3, 9, 10, 11, 12, 16]] | 31 => [.canon [0, 1, 2, 3, 9, 10, 11, 12, 13]] | 32 => [.canon [0, 1, 2, 3, 9, 10, 11, 12, 13, 14, 132]] | 33 => [.canon [0, 1, 2, 3, 9, 10, 11, 12, 13, 17]] | 34 => [.canon [0, 1, 2, 3, 9, 10, 11, 12, 13, 17, 139, 140, 141]] | 35 => [.canon [0, 1, 2, 3, 9, 10, 11, 12, 13, 17, 139, 140, 141, 142]] | 36 => [.canon [0, 1, 2, 3, 9, 10, 11, 12, 13, 17, 19, 139, 140, 141]] | 37 => [.canon [0, 1, 2, 3, 9, 10, 11, 12, 13, 17, 19, 20, 139, 140, 141]] | 38 => [.canon [0, 1, 2, 3, 9, 10, 11, 12, 13, 17, 19, 20, 139, 140, 141]] | 39 => [.canon [0, 1, 2, 3, 9, 10, 11, 12, 13, 17, 19, 20, 139, 140, 141]] | 40 => [.canon [0, 1, 2, 3, 9, 10, 11, 12, 13, 17, 19, 20, 139, 140, 141, 165]] | 41 => [.canon [0, 1, 2, 3, 9, 10, 11, 12, 13, 17, 139, 140, 141]] | 42 => [.canon [0, 1, 2, 3, 9, 10, 11, 12, 13, 17, 139, 140, 141]] | 100005 => [.canon [0, 1, 2, 3, 9, 10, 11, 12, 13]] | 100035 => [.canon [0, 1, 2, 3, 9, 10, 11, 12, 13, 17, 139, 140, 141]] | _ => [], fun N => Zel N (m + 1), fun N => [(37, Zai N), (89, Zev N), (90, Zgg N), (91, Zft N), (92, Zfj N), (65, Zel N m), (93, Zhz N)]⟩
def Zmy (code27 : List (Int × Int × Int × Int)) (kids28 : List (List (Int × Int × Int × Int))) (order29 : List Int) (i30 : Int) (t31 : Int) (t32 : Int) (l33 : List Int) (b34 : List Int × List Int × Int) (b35 : Int) (b36 : Int) (b37 : Int) (l38 : List (Int × List Int × List Int × List Int × Int)) (l39 : List Int) (l40 : List Int) (l41 : List Int) (l42 : List Int) : St := ⟨[(0, vV (.slice (.prod (.int .i64) (.prod (.int .i64) (.prod (.int .i64) (.int .i64))))) code27), (1, vV (.slice (.slice (.prod (.int .i64) (.prod (.int .i64) (.prod (.int .i64) (.int .i64)))))) kids28), (2, vV (.slice (.int .i64)) order29), (3, vO 0), (9, vP 1 0), (10, vP 2 0), (11, vP 3 0), (12, vO 4), (13, vI i30), (17, vO 5), (139, vO 6), (140, vI t31), (141, vI t32)], [(0, .arr (.int .i64) l33), (1, .box [.val (.slice (.int .i64)) b34.1, .val (.slice (.int .i64)) b34.2.1, .val (.int .i64) b34.2.2]), (2, .box [.val (.int .i64) b35, .nils, .nils, .nils, .val (.int .i64) b36]), (3, .box [.own 7, .own 8, .val (.int .i64) b37]), (4, .arr (.prod (.int .i64) (.prod (.own (.int .i64)) (.prod (.own (.int .i64)) (.prod (.own (.int .i64)) (.int .i64))))) l38), (5, .arr (.int .i64) l39), (6, .arr (.int .i64) l40), (7, .arr (.int .i64) l41), (8, .arr (.int .i64) l42)], 9⟩
def Zk0 (code27 : List (Int × Int × Int × Int)) (kids28 : List (List (Int × Int × Int × Int))) (order29 : List Int) (i30 : Int) (t31 : Int) (b34 : List Int × List Int × Int) (b35 : Int) (b36 : Int) (b37 : Int) (l38 : List (Int × List Int × List Int × List Int × Int)) (l39 : List Int) (l40 : List Int) (l42 : List Int) (t49 : Int) (t50 : Bool) (l51 : List Int) (l52 : List Int) : St := ⟨[(0, vV (.slice (.prod (.int .i64) (.prod (.int .i64) (.prod (.int .i64) (.int .i64))))) code27), (1, vV (.slice (.slice (.prod (.int .i64) (.prod (.int .i64) (.prod (.int .i64) (.int .i64)))))) kids28), (2, vV (.slice (.int .i64)) order29), (3, vO 0), (9, vP 1 0), (10, vP 2 0), (11, vP 3 0), (12, vO 4), (13, vI i30), (17, vO 5), (139, vO 6), (140, vI t31), (141, vI t49), (142, vB t50)], [(0, .arr (.int .i64) l51), (1, .box [.val (.slice (.int .i64)) b34.1, .val (.slice (.int .i64)) b34.2.1, .val (.int .i64) b34.2.2]), (2, .box [.val (.int .i64) b35, .nils, .nils, .nils, .val (.int .i64) b36]), (3, .box [.own 7, .own 8, .val (.int .i64) b37]), (4, .arr (.prod (.int .i64) (.prod (.own (.int .i64)) (.prod (.own (.int .i64)) (.prod (.own (.int .i64)) (.int .i64))))) l38), (5, .arr (.int .i64) l39), (6, .arr (.int .i64) l40), (7, .arr (.int .i64) l52), (8, .arr (.int .i64) l42)], 9⟩
theorem Zmz (N m : Nat) {R : Type} (K : Ex → St → Option R) {code27 : List (Int × Int × Int × Int)} {kids28 : List (List (Int × Int × Int × Int))} {order29 : List Int} {i30 : Int} {t31 : Int} {b34 : List Int × List Int × Int} {b35 : Int} {b36 : Int} {b37 : Int} {l38 : List (Int × List Int × List Int × List Int × Int)} {l39 : List Int} {l40 : List Int} {l42 : List Int} {K0 : Int → Bool → (List Int) → (List Int) → Option R} (h0 : K0 = fun t49 t50 l51 l52 => K (.exit 3) (Zk0 code27 kids28 order29 i30 t31 b34 b35 b36 b37 l38 l39 l40 l42 t49 t50 l51 l52)) (n : Nat) (t32 : Int) (l33 : List Int) (l41 : List Int) : Z3 N (Zad N m) code27 kids28 order29 i30 t31 b34 b35 b36 b37 l38 l39 l40 l42 K0 n t32 l33 l41 = LM (Zdf m) N 1 100035 n (Zmy code27 kids28 order29 i30 t31 t32 l33 b34 b35 b36 b37 l38 l39 l40 l41 l42) K := by
  subst h0
  induction n generalizing t32 l33 l41 with
  | zero => kernel_rfl
  | succ n ih => rw [Z3]; simp (disch := exact id (by kernel_rfl)) only [ih]; kernel_rfl
def Zm0 (code8 : List (Int × Int × Int × Int)) (kids9 : List (List (Int × Int × Int × Int))) (order10 : List Int) (i11 : Int) (l12 : List Int) (b13 : List Int × List Int × Int) (b16 : Int) (l17 : List (Int × List Int × List Int × List Int × Int)) (l18 : List Int) (l19 : List Int) : St := ⟨[(0, vV (.slice (.prod (.int .i64) (.prod (.int .i64) (.prod (.int .i64) (.int .i64))))) code8), (1, vV (.slice (.slice (.prod (.int .i64) (.prod (.int .i64) (.prod (.int .i64) (.int .i64)))))) kids9), (2, vV (.slice (.int .i64)) order10), (3, vO 0), (9, vP 1 0), (10, vP 2 0), (11, vP 3 0), (12, vO 4), (13, vI i11)], [(0, .arr (.int .i64) l12), (1, .box [.val (.slice (.int .i64)) b13.1, .val (.slice (.int .i64)) b13.2.1, .val (.int .i64) b13.2.2]), (2, .box [.val (.int .i64) (0 : Int), .nils, .nils, .nils, .val (.int .i64) (0 : Int)]), (3, .box [.own 5, .own 6, .val (.int .i64) b16]), (4, .arr (.prod (.int .i64) (.prod (.own (.int .i64)) (.prod (.own (.int .i64)) (.prod (.own (.int .i64)) (.int .i64))))) l17), (5, .arr (.int .i64) l18), (6, .arr (.int .i64) l19)], 7⟩
def Zk1 (code8 : List (Int × Int × Int × Int)) (kids9 : List (List (Int × Int × Int × Int))) (order10 : List Int) (b13 : List Int × List Int × Int) (b148 : Int) (l149 : List Int) (l150 : List Int) (l151 : List Int) : St := ⟨[(10, vP 0 0)], [(0, .box [.val (.int .i64) (2 : Int), .own 1, .own 2, .own 3, .val (.int .i64) b148]), (1, .arr (.int .i64) l149), (2, .arr (.int .i64) l150), (3, .arr (.int .i64) l151)], 4⟩
def Zk2 (code8 : List (Int × Int × Int × Int)) (kids9 : List (List (Int × Int × Int × Int))) (order10 : List Int) (b13 : List Int × List Int × Int) (i152 : Int) (t153 : Bool) (l154 : List Int) (b155 : Int) (l156 : List (Int × List Int × List Int × List Int × Int)) (l157 : List Int) (l158 : List Int) : St := ⟨[(0, vV (.slice (.prod (.int .i64) (.prod (.int .i64) (.prod (.int .i64) (.int .i64))))) code8), (1, vV (.slice (.slice (.prod (.int .i64) (.prod (.int .i64) (.prod (.int .i64) (.int .i64)))))) kids9), (2, vV (.slice (.int .i64)) order10), (3, vO 0), (9, vP 1 0), (10, vP 2 0), (11, vP 3 0), (12, vO 4), (13, vI i152), (29, vB t153)], [(0, .arr (.int .i64) l154), (1, .box [.val (.slice (.int .i64)) b13.1, .val (.slice (.int .i64)) b13.2.1, .val (.int .i64) b13.2.2]), (2, .box [.val (.int .i64) (0 : Int), .nils, .nils, .nils, .val (.int .i64) (0 : Int)]), (3, .box [.own 5, .own 6, .val (.int .i64) b155]), (4, .arr (.prod (.int .i64) (.prod (.own (.int .i64)) (.prod (.own (.int .i64)) (.prod (.own (.int .i64)) (.int .i64))))) l156), (5, .arr (.int .i64) l157), (6, .arr (.int .i64) l158)], 7⟩
theorem Zm1 (N m : Nat) {R : Type} (K : Ex → St → Option R) {code8 : List (Int × Int × Int × Int)} {kids9 : List (List (Int × Int × Int × Int))} {order10 : List Int} {b13 : List Int × List Int × Int} {K0 : Int → (List Int) → (List Int) → (List Int) → Option R} {K1 : Int → Bool → (List Int) → Int → (List (Int × List Int × List Int × List Int × Int)) → (List Int) → (List Int) → Option R} (h0 : K0 = fun b148 l149 l150 l151 => K .ret (Zk1 code8 kids9 order10 b13 b148 l149 l150 l151)) (h1 : K1 = fun i152 t153 l154 b155 l156 l157 l158 => K (.exit 0) (Zk2 code8 kids9 order10 b13 i152 t153 l154 b155 l156 l157 l158)) (n : Nat) (i11 : Int) (l12 : List Int) (b16 : Int) (l17 : List (Int × List Int × List Int × List Int × Int)) (l18 : List Int) (l19 : List Int) : Ze N (Zad N m) code8 kids9 order10 b13 K0 K1 n i11 l12 b16 l17 l18 l19 = LM (Zdf m) N 0 100005 n (Zm0 code8 kids9 order10 i11 l12 b13 b16 l17 l18 l19) K := by
  subst h0 h1
  induction n generalizing i11 l12 b16 l17 l18 l19 with
  | zero => kernel_rfl
  | succ n ih => rw [Ze]; simp (disch := exact id (by kernel_rfl)) only [ih, Zmz N m (CL (Zdf m) N 0 100005 [1, 0, 0, 1, 1, 0, 1, 1, 1, 1, 1, 1, 1, 1, 1, 1, 1, 0, 1, 1, 0] n K)]; kernel_rfl
theorem Zi4 : Callable Tryz.prog 65 := callable_of Tryz.func65 (show chkFn Tryz.f65 = true by kernel_rfl)
theorem Zqn (N m : Nat) (code1 : List (Int × Int × Int × Int)) (kids2 : List (List (Int × Int × Int × Int))) (order3 : List Int) (regs4 : List Int) (first5 : List Int × List Int × Int) : DN (Zdf m) N (code1, kids2, order3, regs4, first5, ()) = Zad N (m + 1) code1 kids2 order3 regs4 first5 := by
  have h : Zad N (m + 1) code1 kids2 order3 regs4 first5 = Zad N (m + 1) code1 kids2 order3 regs4 first5 := rfl
  conv at h => rhs; rw [Zad]
  simp (disch := exact id (by kernel_rfl)) only [Zm1 (R := Unit × ((Int × List Int × List Int × List Int × Int) × Unit)) N m (CF (Zdf m) N [1, 1, 1, 1, 0, 1, 0])] at h
  exact Eq.trans (by kernel_rfl) h.symm
theorem Zin (N : Nat) : ∀ m, Good Tryz.prog 65 (Zel N m)
  | 0 => fun d o h => nomatch (show none = some o from h)
  | m + 1 => GF (Zdf m) N Tryz.func65 (ctx_cons (Za2 N) Za1 (ctx_cons (Zmv N) Zmu (ctx_cons (Zlo N) Zln (ctx_cons (Zjt N) Zjs (ctx_cons (Zny N) Znw (ctx_cons (Zin N m) Zi4 (ctx_cons (Zrs N) Zrr ctx_nil))))))) (by kernel_rfl) (fun d => Zqn N m d.1 d.2.1 d.2.2.1 d.2.2.2.1 d.2.2.2.2.1)
theorem Zqo (N : Nat) : Good Tryz.prog 65 (Zi3 N) := Zin N N
noncomputable def Zfk (N : Nat) : Sig := Sig.of [.v (.slice (.prod (.int .i64) (.prod (.int .i64) (.prod (.int .i64) (.int .i64))))) false, .v (.slice (.int .i64)) false, .v (.slice (.int .i64)) false] [.v (.int .i64) false, .v (.own (.int .i64)) false, .v (.own (.int .i64)) false] (fun d => Zeg N d.1 d.2.1 d.2.2.1)
noncomputable def Znz : Fn := ⟨Tryz.f34, noAnn, Zfk, fun N => [(64, Zee N), (61, Zbd N), (65, Zi3 N)]⟩
theorem Zn0 : Callable Tryz.prog 34 := callable_of Tryz.func34 (show chkFn Tryz.f34 = true by kernel_rfl)
theorem Zn1 (N : Nat) : Good Tryz.prog 34 (Zfk N) := GF Znz N Tryz.func34 (ctx_cons (Zhy N) Zhx (ctx_cons (Zc9 N) Zc8 (ctx_cons (Zqo N) Zi4 ctx_nil))) (by kernel_rfl) (fun d => by kernel_rfl)
noncomputable def Zh0 (N : Nat) : Sig := Sig.of [.v (.slice (.prod (.int .i64) (.prod (.int .i64) (.prod (.int .i64) (.int .i64))))) false, .v (.slice (.int .i64)) false, .v (.slice (.int .i64)) false] [.box (.prod (.own (.int .i64)) (.prod (.own (.int .i64)) (.prod (.own (.prod (.int .i64) (.int .i64))) (.prod (.int .i64) (.prod (.own (.prod (.int .i64) (.prod (.int .i64) (.own (.int .i64))))) (.own (.int .i64))))))), .v (.bool) false] (fun d => Zfg N d.1 d.2.1 d.2.2.1)
noncomputable def Zrt : Fn := ⟨Tryz.f66, noAnn, Zh0, fun N => [(64, Zee N), (61, Zbd N), (37, Zai N)]⟩
theorem Zru : Callable Tryz.prog 66 := callable_of Tryz.func66 (show chkFn Tryz.f66 = true by kernel_rfl)
theorem Zrv (N : Nat) : Good Tryz.prog 66 (Zh0 N) := GF Zrt N Tryz.func66 (ctx_cons (Zhy N) Zhx (ctx_cons (Zc9 N) Zc8 (ctx_cons (Za2 N) Za1 ctx_nil))) (by kernel_rfl) (fun d => by kernel_rfl)
noncomputable def Zem (N : Nat) : Sig := Sig.of [.v (.prod (.int .i64) (.int .i64)) true, .box (.prod (.int .i64) (.prod (.int .i64) (.prod (.int .i64) (.int .i64))))] [.v (.bool) false] (fun d => Zfh N d.1 d.2.1)
noncomputable def Zk3 : Fn := ⟨Tryz.f95, noAnn, Zem, noCtx⟩
theorem Zk4 : Callable Tryz.prog 95 := callable_of Tryz.func95 (show chkFn Tryz.f95 = true by kernel_rfl)
theorem Zk5 (N : Nat) : Good Tryz.prog 95 (Zem N) := GF Zk3 N Tryz.func95 ctx_nil (by kernel_rfl) (fun d => by kernel_rfl)
noncomputable def Z0 (N : Nat) : Sig := Sig.of [.v (.slice (.prod (.int .i64) (.int .i64))) false, .clos 95 1, .box (.prod (.int .i64) (.prod (.int .i64) (.prod (.int .i64) (.int .i64))))] [.v (.int .i64) false] (fun d => Zh N d.1 d.2.1)
noncomputable def Zs : Fn := ⟨Tryz.f121, fun | 2 => [.canon [0, 1, 7, 8, 9]] | 3 => [.canon [0, 1, 5, 7, 8]] | 4 => [.canon [0, 1, 5, 7, 8, 16]] | 5 => [.canon [1, 4]] | 6 => [.canon [0, 1, 7, 8]] | 100002 => [.canon [0, 1, 7, 8]] | _ => [], Z0, fun N => [(95, Zem N)]⟩
def Zb9 (s3 : List (Int × Int)) (t5 : Int) (b6 : Int × Int × Int × Int) : St := ⟨[(0, vV (.slice (.prod (.int .i64) (.int .i64))) s3), (1, .s (.one (.clos 95 [0]))), (7, vI (ilen s3)), (8, vI t5)], [(0, .box [.val (.int .i64) b6.1, .val (.int .i64) b6.2.1, .val (.int .i64) b6.2.2.1, .val (.int .i64) b6.2.2.2])], 1⟩
def Zb3 (s3 : List (Int × Int)) (t9 : Int) (b10 : Int × Int × Int × Int) : St := ⟨[(1, .s (.one (.clos 95 [0]))), (4, vI t9)], [(0, .box [.val (.int .i64) b10.1, .val (.int .i64) b10.2.1, .val (.int .i64) b10.2.2.1, .val (.int .i64) b10.2.2.2])], 1⟩
def Zb4 (s3 : List (Int × Int)) (t11 : Int) (t12 : Bool) (b13 : Int × Int × Int × Int) : St := ⟨[(0, vV (.slice (.prod (.int .i64) (.int .i64))) s3), (1, .s (.one (.clos 95 [0]))), (7, vI (ilen s3)), (8, vI t11), (9, vB t12)], [(0, .box [.val (.int .i64) b13.1, .val (.int .i64) b13.2.1, .val (.int .i64) b13.2.2.1, .val (.int .i64) b13.2.2.2])], 1⟩
theorem Zca (N : Nat) {R : Type} (K : Ex → St → Option R) {s3 : List (Int × Int)} {K0 : Int → (Int × Int × Int × Int) → Option R} {K1 : Int → Bool → (Int × Int × Int × Int) → Option R} (h0 : K0 = fun t9 b10 => K .ret (Zb3 s3 t9 b10)) (h1 : K1 = fun t11 t12 b13 => K (.exit 0) (Zb4 s3 t11 t12 b13)) (n : Nat) (t5 : Int) (b6 : Int × Int × Int × Int) : Zf N s3 K0 K1 n t5 b6 = LM Zs N 0 100002 n (Zb9 s3 t5 b6) K := by
  subst h0 h1
  induction n generalizing t5 b6 with
  | zero => kernel_rfl
  | succ n ih => rw [Zf]; simp (disch := exact id (by kernel_rfl)) only [ih]; kernel_rfl
theorem Zco : Callable Tryz.prog 121 := callable_of Tryz.func121 (show chkFn Tryz.f121 = true by kernel_rfl)
theorem Zcp (N : Nat) (s1 : List (Int × Int)) (cap2 : Int × Int × Int × Int) : DN Zs N (s1, cap2, ()) = Zh N s1 cap2 := by
  have h : Zh N s1 cap2 = Zh N s1 cap2 := rfl
  conv at h => rhs; rw [Zh]
  simp (disch := exact id (by kernel_rfl)) only [Zca (R := ((Int × Int × Int × Int) × Unit) × (Int × Unit)) N (CF Zs N [1, 0, 1, 0])] at h
  exact Eq.trans (by kernel_rfl) h.symm
theorem Zcq (N : Nat) : Good Tryz.prog 121 (Z0 N) := GF Zs N Tryz.func121 (ctx_cons (Zk5 N) Zk4 ctx_nil) (by kernel_rfl) (fun d => Zcp N d.1 d.2.1)
noncomputable def Zy (N : Nat) : Sig := Sig.of [.v (.slice (.prod (.int .i64) (.int .i64))) false, .clos 95 1, .box (.prod (.int .i64) (.prod (.int .i64) (.prod (.int .i64) (.int .i64))))] [.v (.bool) false] (fun d => Zr N d.1 d.2.1)
noncomputable def Zcb : Fn := ⟨Tryz.f94, noAnn, Zy, fun N => [(121, Z0 N)]⟩
theorem Zcc : Callable Tryz.prog 94 := callable_of Tryz.func94 (show chkFn Tryz.f94 = true by kernel_rfl)
theorem Zcd (N : Nat) : Good Tryz.prog 94 (Zy N) := GF Zcb N Tryz.func94 (ctx_cons (Zcq N) Zco ctx_nil) (by kernel_rfl) (fun d => by kernel_rfl)
noncomputable def Zhg (N : Nat) : Sig := Sig.of [.v (.slice (.prod (.int .i64) (.int .i64))) false] [.v (.bool) false] (fun d => Zcr N d.1)
noncomputable def Zfa : Fn := ⟨Tryz.f44, fun | 2 => [.canon [0, 5, 6, 7, 8]] | 3 => [.canon [0, 4, 5, 6, 7]] | 4 => [.canon [0, 5, 6, 7, 20]] | 5 => [.canon [2]] | 6 => [.canon [0, 5, 6, 7]] | 100002 => [.canon [0, 5, 6, 7]] | _ => [], Zhg, fun N => [(73, Ze8 N), (74, Zdo N)]⟩
def Zm2 (l2 : List (Int × Int)) (t5 : Int) : St := ⟨[(0, vV (.slice (.prod (.int .i64) (.int .i64))) l2), (5, vV (.slice (.prod (.int .i64) (.int .i64))) l2), (6, vI (ilen l2)), (7, vI t5)], [], 0⟩
def Zk6 (l2 : List (Int × Int)) : St := ⟨[(2, vB false)], [], 0⟩
def Zk7 (l2 : List (Int × Int)) (t10 : Int) (t11 : Bool) : St := ⟨[(0, vV (.slice (.prod (.int .i64) (.int .i64))) l2), (5, vV (.slice (.prod (.int .i64) (.int .i64))) l2), (6, vI (ilen l2)), (7, vI t10), (8, vB t11)], [], 0⟩
theorem Zm3 (N : Nat) {R : Type} (K : Ex → St → Option R) {l2 : List (Int × Int)} {K0 : Option R} {K1 : Int → Bool → Option R} (h0 : K0 = K .ret (Zk6 l2)) (h1 : K1 = fun t10 t11 => K (.exit 0) (Zk7 l2 t10 t11)) (n : Nat) (t5 : Int) : Zbh N l2 K0 K1 n t5 = LM Zfa N 0 100002 n (Zm2 l2 t5) K := by
  subst h0 h1
  induction n generalizing t5 with
  | zero => kernel_rfl
  | succ n ih => rw [Zbh]; simp (disch := exact id (by kernel_rfl)) only [ih]; kernel_rfl
theorem Zqp : Callable Tryz.prog 44 := callable_of Tryz.func44 (show chkFn Tryz.f44 = true by kernel_rfl)
theorem Zqq (N : Nat) (l1 : List (Int × Int)) : DN Zfa N (l1, ()) = Zcr N l1 := by
  have h : Zcr N l1 = Zcr N l1 := rfl
  conv at h => rhs; rw [Zcr]
  simp (disch := exact id (by kernel_rfl)) only [Zm3 (R := Unit × (Bool × Unit)) N (CF Zfa N [1, 0, 1, 0])] at h
  exact Eq.trans (by kernel_rfl) h.symm
theorem Zqr (N : Nat) : Good Tryz.prog 44 (Zhg N) := GF Zfa N Tryz.func44 (ctx_cons (Zi2 N) Zi1 (ctx_cons (Zgl N) Zgk ctx_nil)) (by kernel_rfl) (fun d => Zqq N d.1)
noncomputable def Zfy (N : Nat) : Sig := Sig.of [.v (.slice (.prod (.int .i64) (.int .i64))) false] [.v (.own (.prod (.int .i64) (.int .i64))) false] (fun d => Zgu N d.1)
noncomputable def Zoh : Fn := ⟨Tryz.f137, noAnn, Zfy, noCtx⟩
theorem Zoi : Callable Tryz.prog 137 := callable_of Tryz.func137 (show chkFn Tryz.f137 = true by kernel_rfl)
theorem Zoj (N : Nat) : Good Tryz.prog 137 (Zfy N) := GF Zoh N Tryz.func137 ctx_nil (by kernel_rfl) (fun d => by kernel_rfl)
noncomputable def Zfz (N : Nat) : Sig := Sig.of [.v (.slice (.int .i64)) false, .v (.slice (.prod (.int .i64) (.int .i64))) false, .v (.int .i64) false] [.v (.own (.int .i64)) false, .v (.own (.prod (.int .i64) (.int .i64))) false] (fun d => Za6 N d.1 d.2.1 d.2.2.1)
noncomputable def Zd3 : Fn := ⟨Tryz.f134, fun | 5 => [.canon [1, 2, 8, 9, 29]] | 6 => [.canon [1, 2, 8, 9]] | 7 => [.canon [1, 2, 8, 9]] | 100005 => [.canon [1, 2, 8, 9]] | _ => [], Zfz, fun N => [(61, Zbd N), (44, Zhg N), (37, Zai N), (137, Zfy N)]⟩
def Zju (log7 : List (Int × Int)) (n8 : Int) (i9 : Int) (l10 : List Int) : St := ⟨[(1, vV (.slice (.prod (.int .i64) (.int .i64))) log7), (2, vI n8), (8, vO 0), (9, vI i9)], [(0, .arr (.int .i64) l10)], 1⟩
def Zjb (log7 : List (Int × Int)) (n8 : Int) (i11 : Int) (t12 : Bool) (l13 : List Int) : St := ⟨[(1, vV (.slice (.prod (.int .i64) (.int .i64))) log7), (2, vI n8), (8, vO 0), (9, vI i11), (29, vB t12)], [(0, .arr (.int .i64) l13)], 1⟩
theorem Zjv (N : Nat) {R : Type} (K : Ex → St → Option R) {log7 : List (Int × Int)} {n8 : Int} {K0 : Int → Bool → (List Int) → Option R} (h0 : K0 = fun i11 t12 l13 => K (.exit 0) (Zjb log7 n8 i11 t12 l13)) (n : Nat) (i9 : Int) (l10 : List Int) : Zag N log7 n8 K0 n i9 l10 = LM Zd3 N 0 100005 n (Zju log7 n8 i9 l10) K := by
  subst h0
  induction n generalizing i9 l10 with
  | zero => kernel_rfl
  | succ n ih => rw [Zag]; simp (disch := exact id (by kernel_rfl)) only [ih]; kernel_rfl
theorem Zok : Callable Tryz.prog 134 := callable_of Tryz.func134 (show chkFn Tryz.f134 = true by kernel_rfl)
theorem Zol (N : Nat) (cells1 : List Int) (log2 : List (Int × Int)) (n3 : Int) : DN Zd3 N (cells1, log2, n3, ()) = Za6 N cells1 log2 n3 := by
  have h : Za6 N cells1 log2 n3 = Za6 N cells1 log2 n3 := rfl
  conv at h => rhs; rw [Za6]
  simp (disch := exact id (by kernel_rfl)) only [Zjv (R := Unit × ((List Int) × ((List (Int × Int)) × Unit))) N (CF Zd3 N [1, 1, 1, 0, 1, 0])] at h
  exact Eq.trans (by kernel_rfl) h.symm
theorem Zom (N : Nat) : Good Tryz.prog 134 (Zfz N) := GF Zd3 N Tryz.func134 (ctx_cons (Zc9 N) Zc8 (ctx_cons (Zqr N) Zqp (ctx_cons (Za2 N) Za1 (ctx_cons (Zoj N) Zoi ctx_nil)))) (by kernel_rfl) (fun d => Zol N d.1 d.2.1 d.2.2.1)
noncomputable def Zfl (N : Nat) : Sig := Sig.of [.box (.prod (.own (.int .i64)) (.prod (.own (.int .i64)) (.prod (.own (.prod (.int .i64) (.int .i64))) (.prod (.int .i64) (.prod (.own (.prod (.int .i64) (.prod (.int .i64) (.own (.int .i64))))) (.own (.int .i64))))))), .v (.int .i64) false] [] (fun d => Zdm N d.1 d.2.1)
noncomputable def Zn2 : Fn := ⟨Tryz.f122, noAnn, Zfl, fun N => [(134, Zfz N)]⟩
theorem Zn3 : Callable Tryz.prog 122 := callable_of Tryz.func122 (show chkFn Tryz.f122 = true by kernel_rfl)
theorem Zn4 (N : Nat) : Good Tryz.prog 122 (Zfl N) := GF Zn2 N Tryz.func122 (ctx_cons (Zom N) Zok ctx_nil) (by kernel_rfl) (fun d => by kernel_rfl)
noncomputable def Zen (N : Nat) : Sig := Sig.of [.box (.prod (.own (.int .i64)) (.prod (.own (.int .i64)) (.prod (.own (.prod (.int .i64) (.int .i64))) (.prod (.int .i64) (.prod (.own (.prod (.int .i64) (.prod (.int .i64) (.own (.int .i64))))) (.own (.int .i64))))))), .v (.slice (.prod (.int .i64) (.prod (.int .i64) (.prod (.int .i64) (.int .i64))))) false] [.v (.int .i64) false] (fun d => Zdt N d.1 d.2.1)
noncomputable def Zk8 : Fn := ⟨Tryz.f96, fun | 5 => [.opn 22] | _ => [], Zen, fun N => [(122, Zfl N)]⟩
theorem Zk9 : Callable Tryz.prog 96 := callable_of Tryz.func96 (show chkFn Tryz.f96 = true by kernel_rfl)
theorem Zla (N : Nat) : Good Tryz.prog 96 (Zen N) := GF Zk8 N Tryz.func96 (ctx_cons (Zn4 N) Zn3 ctx_nil) (by kernel_rfl) (fun d => by kernel_rfl)
noncomputable def Zfm (N : Nat) : Sig := Sig.of [.box (.prod (.own (.int .i64)) (.prod (.own (.int .i64)) (.prod (.own (.prod (.int .i64) (.int .i64))) (.prod (.int .i64) (.prod (.own (.prod (.int .i64) (.prod (.int .i64) (.own (.int .i64))))) (.own (.int .i64))))))), .v (.slice (.prod (.int .i64) (.prod (.int .i64) (.prod (.int .i64) (.int .i64))))) false] [.v (.int .i64) false] (fun d => Zav N d.1 d.2.1)
noncomputable def Zdy : Fn := ⟨Tryz.f67, fun | 2 => [.canon [0, 1, 5, 12]] | 3 => [.canon [0, 1, 5]] | 4 => [.canon [0, 1, 5, 6]] | 5 => [.canon [0, 1, 5, 6, 20]] | 6 => [.canon [0, 1, 5]] | 7 => [.canon [0, 1, 5, 6, 20, 33]] | 8 => [.canon [0, 1, 5, 6, 41]] | 9 => [.canon [0, 1, 5, 6]] | 10 => [.canon [0, 1, 5]] | 11 => [.canon [0, 1, 5, 6, 20, 68]] | 12 => [.canon [0, 1, 5, 6]] | 13 => [.canon [0, 1, 5]] | 14 => [.canon [0, 1, 5, 6, 20, 105]] | 15 => [.canon [0, 1, 5, 6, 115]] | 16 => [.canon [0, 1, 5]] | 17 => [.canon [0, 1, 5, 6, 20, 120]] | 18 => [.nest 139 (.prod (.int .i64) (.prod (.int .i64) (.own (.int .i64)))), .canon [0, 1, 5]] | 19 => [.canon [0, 1, 5, 6, 20, 143]] | 20 => [.canon [0, 1, 5, 7]] | 21 => [.canon [0, 1, 5, 7]] | 22 => [.canon [0, 1, 5]] | 23 => [.canon [0, 1, 5, 6, 182]] | 24 => [.canon [0, 1, 8]] | 25 => [.canon [0, 1, 8, 188]] | 26 => [.canon [0, 4]] | 27 => [.canon [0, 1, 5]] | 100002 => [.canon [0, 1, 5]] | _ => [], Zfm, fun N => [(94, Zy N), (37, Zai N), (96, Zen N), (91, Zft N), (90, Zgg N)]⟩
def Zjc (code3 : List (Int × Int × Int × Int)) (i4 : Int) (b5 : Int) (l6 : List Int) (l7 : List Int) (l8 : List (Int × Int)) (l9 : List (Int × Int × List Int)) (l10 : List Int) : St := ⟨[(0, vP 0 0), (1, vV (.slice (.prod (.int .i64) (.prod (.int .i64) (.prod (.int .i64) (.int .i64))))) code3), (5, vI i4)], [(0, .box [.own 1, .own 2, .own 3, .val (.int .i64) b5, .own 4, .own 5]), (1, .arr (.int .i64) l6), (2, .arr (.int .i64) l7), (3, .arr (.prod (.int .i64) (.int .i64)) l8), (4, .arr (.prod (.int .i64) (.prod (.int .i64) (.own (.int .i64)))) l9), (5, .arr (.int .i64) l10)], 6⟩
def Zit (code3 : List (Int × Int × Int × Int)) (b16 : Int) (l17 : List Int) (l18 : List Int) (l19 : List (Int × Int)) (l20 : List (Int × Int × List Int)) (l21 : List Int) : St := ⟨[(0, vP 0 0), (4, vI 2)], [(0, .box [.own 1, .own 2, .own 3, .val (.int .i64) b16, .own 4, .own 5]), (1, .arr (.int .i64) l17), (2, .arr (.int .i64) l18), (3, .arr (.prod (.int .i64) (.int .i64)) l19), (4, .arr (.prod (.int .i64) (.prod (.int .i64) (.own (.int .i64)))) l20), (5, .arr (.int .i64) l21)], 6⟩
def Ziu (code3 : List (Int × Int × Int × Int)) (i22 : Int) (t23 : Bool) (b24 : Int) (l25 : List Int) (l26 : List Int) (l27 : List (Int × Int)) (l28 : List (Int × Int × List Int)) (l29 : List Int) : St := ⟨[(0, vP 0 0), (1, vV (.slice (.prod (.int .i64) (.prod (.int .i64) (.prod (.int .i64) (.int .i64))))) code3), (5, vI i22), (12, vB t23)], [(0, .box [.own 1, .own 2, .own 3, .val (.int .i64) b24, .own 4, .own 5]), (1, .arr (.int .i64) l25), (2, .arr (.int .i64) l26), (3, .arr (.prod (.int .i64) (.int .i64)) l27), (4, .arr (.prod (.int .i64) (.prod (.int .i64) (.own (.int .i64)))) l28), (5, .arr (.int .i64) l29)], 6⟩
theorem Zjd (N : Nat) {R : Type} (K : Ex → St → Option R) {code3 : List (Int × Int × Int × Int)} {K0 : Int → (List Int) → (List Int) → (List (Int × Int)) → (List (Int × Int × List Int)) → (List Int) → Option R} {K1 : Int → Bool → Int → (List Int) → (List Int) → (List (Int × Int)) → (List (Int × Int × List Int)) → (List Int) → Option R} (h0 : K0 = fun b16 l17 l18 l19 l20 l21 => K .ret (Zit code3 b16 l17 l18 l19 l20 l21)) (h1 : K1 = fun i22 t23 b24 l25 l26 l27 l28 l29 => K (.exit 0) (Ziu code3 i22 t23 b24 l25 l26 l27 l28 l29)) (n : Nat) (i4 : Int) (b5 : Int) (l6 : List Int) (l7 : List Int) (l8 : List (Int × Int)) (l9 : List (Int × Int × List Int)) (l10 : List Int) : Zn N code3 K0 K1 n i4 b5 l6 l7 l8 l9 l10 = LM Zdy N 0 100002 n (Zjc code3 i4 b5 l6 l7 l8 l9 l10) K := by
  subst h0 h1
  induction n generalizing i4 b5 l6 l7 l8 l9 l10 with
  | zero => kernel_rfl
  | succ n ih => rw [Zn]; simp (disch := exact id (by kernel_rfl)) only [ih]; kernel_rfl
theorem Zn5 : Callable Tryz.prog 67 := callable_of Tryz.func67 (show chkFn Tryz.f67 = true by kernel_rfl)
theorem Zn6 (N : Nat) (e1 : List Int × List Int × List (Int × Int) × Int × List (Int × Int × List Int) × List Int) (code2 : List (Int × Int × Int × Int)) : DN Zdy N (e1, code2, ()) = Zav N e1 code2 := by
  have h : Zav N e1 code2 = Zav N e1 code2 := rfl
  conv at h => rhs; rw [Zav]
  simp (disch := exact id (by kernel_rfl)) only [Zjd (R := ((List Int × List Int × List (Int × Int) × Int × List (Int × Int × List Int) × List Int) × Unit) × (Int × Unit)) N (CF Zdy N [1, 0, 1, 0])] at h
  exact Eq.trans (by kernel_rfl) h.symm
theorem Zn7 (N : Nat) : Good Tryz.prog 67 (Zfm N) := GF Zdy N Tryz.func67 (ctx_cons (Zcd N) Zcc (ctx_cons (Za2 N) Za1 (ctx_cons (Zla N) Zk9 (ctx_cons (Zjt N) Zjs (ctx_cons (Zlo N) Zln ctx_nil))))) (by kernel_rfl) (fun d => Zn6 N d.1 d.2.1)
noncomputable def Zdh (N : Nat) : Sig := Sig.of [.mut (.int .i64)] [] (fun d => Zaf N d.1)
theorem Zer : Callable Tryz.prog 36 := callable_of Tryz.func36 (show chkFn Tryz.f36 = true by kernel_rfl)
theorem Zes (N : Nat) : Good Tryz.prog 36 (Zdh N) := good_sortL sortL N
noncomputable def Za8 (N : Nat) : Sig := Sig.of [.v (.own (.int .i64)) false] [.v (.own (.int .i64)) false] (fun d => Zp N d.1)
noncomputable def Zaa : Fn := ⟨Tryz.f38, fun | 4 => [.canon [0, 3, 13]] | 5 => [.canon [0, 3]] | 6 => [.canon [0, 3, 25]] | 7 => [.view 28, .canon [0, 3, 4]] | 8 => [.canon [0, 3, 4, 5]] | 9 => [.canon [0, 3, 4, 5, 32]] | 10 => [.canon [0, 3, 4, 5]] | 11 => [.canon [0, 3, 4, 5, 44]] | 12 => [.canon [0, 3, 4, 5]] | 13 => [.canon [0, 3, 4, 5]] | 14 => [.view 56, .canon [0, 3]] | 15 => [.canon [2]] | 100004 => [.canon [0, 3]] | 100009 => [.canon [0, 3, 4, 5]] | _ => [], Za8, noCtx⟩
def Zf6 (k4 : Int) (s5 : Nat) (s6 : Nat) (k7 : Int) (l8 : List Int) : St := ⟨[(0, vO 0), (3, vI k4), (4, .s (.one (.vw 0 s5 s6))), (5, vI k7)], [(0, .arr (.int .i64) l8)], 1⟩
def Zf0 (s5 : Nat) (s6 : Nat) (k9 : Int) (k10 : Int) (t11 : Bool) (l12 : List Int) : St := ⟨[(0, vO 0), (3, vI k9), (4, .s (.one (.vw 0 s5 s6))), (5, vI k10), (32, vB t11)], [(0, .arr (.int .i64) l12)], 1⟩
theorem Zf7 (N : Nat) {R : Type} (K : Ex → St → Option R) {s5 : Nat} {s6 : Nat} {K0 : Int → Int → Bool → (List Int) → Option R} (h0 : K0 = fun k9 k10 t11 l12 => K (.exit 2) (Zf0 s5 s6 k9 k10 t11 l12)) (n : Nat) (k4 : Int) (k7 : Int) (l8 : List Int) : Zx N s5 s6 K0 n k4 k7 l8 = LM Zaa N 1 100009 n (Zf6 k4 s5 s6 k7 l8) K := by
  subst h0
  induction n generalizing k4 k7 l8 with
  | zero => kernel_rfl
  | succ n ih => rw [Zx]; simp (disch := exact id (by kernel_rfl)) only [ih]; kernel_rfl
def Zf8 (k2 : Int) (l3 : List Int) : St := ⟨[(0, vO 0), (3, vI k2)], [(0, .arr (.int .i64) l3)], 1⟩
def Zf1 (l3 : List Int) (l17 : List Int) : St := ⟨[(2, vO 0)], [(0, .arr (.int .i64) l17)], 1⟩
def Zf2 (l3 : List Int) (k18 : Int) (t19 : Bool) : St := ⟨[(0, vO 0), (3, vI k18), (13, vB t19)], [(0, .arr (.int .i64) l3)], 1⟩
theorem Zf9 (N : Nat) {R : Type} (K : Ex → St → Option R) {l3 : List Int} {K0 : (List Int) → Option R} {K1 : Int → Bool → Option R} (h0 : K0 = fun l17 => K .ret (Zf1 l3 l17)) (h1 : K1 = fun k18 t19 => K (.exit 0) (Zf2 l3 k18 t19)) (n : Nat) (k2 : Int) : Z5 N l3 K0 K1 n k2 = LM Zaa N 0 100004 n (Zf8 k2 l3) K := by
  subst h0 h1
  induction n generalizing k2 with
  | zero => kernel_rfl
  | succ n ih => rw [Z5]; simp (disch := exact id (by kernel_rfl)) only [ih, Zf7 N (CL Zaa N 0 100004 [1, 0, 0, 1, 0, 1, 0, 1, 0] n K)]; kernel_rfl
theorem Zdz : Callable Tryz.prog 38 := callable_of Tryz.func38 (show chkFn Tryz.f38 = true by kernel_rfl)
theorem Zhj (N : Nat) (s1 : List Int) : DN Zaa N (s1, ()) = Zp N s1 := by
  have h : Zp N s1 = Zp N s1 := rfl
  conv at h => rhs; rw [Zp]
  simp (disch := exact id (by kernel_rfl)) only [Zf9 (R := Unit × ((List Int) × Unit)) N (CF Zaa N [1, 1, 0, 1, 0])] at h
  exact Eq.trans (by kernel_rfl) h.symm
theorem Zd0 (N : Nat) : Good Tryz.prog 38 (Za8 N) := GF Zaa N Tryz.func38 ctx_nil (by kernel_rfl) (fun d => Zhj N d.1)
noncomputable def Zgq (N : Nat) : Sig := Sig.of [.v (.slice (.prod (.int .i64) (.prod (.int .i64) (.prod (.int .i64) (.int .i64))))) false, .v (.slice (.int .i64)) false, .v (.slice (.int .i64)) false] [.v (.own (.int .i64)) false] (fun d => Zfn N d.1 d.2.1 d.2.2.1)
noncomputable def Zpe : Fn := ⟨Tryz.f35, noAnn, Zgq, fun N => [(66, Zh0 N), (67, Zfm N), (36, Zdh N), (38, Za8 N)]⟩
theorem Zpf : Callable Tryz.prog 35 := callable_of Tryz.func35 (show chkFn Tryz.f35 = true by kernel_rfl)
theorem Zpg (N : Nat) : Good Tryz.prog 35 (Zgq N) := GF Zpe N Tryz.func35 (ctx_cons (Zrv N) Zru (ctx_cons (Zn7 N) Zn5 (ctx_cons (Zes N) Zer (ctx_cons (Zd0 N) Zdz ctx_nil)))) (by kernel_rfl) (fun d => by kernel_rfl)
noncomputable def Zhh (N : Nat) : Sig := Sig.of [.v (.slice (.slice (.prod (.int .i64) (.prod (.int .i64) (.prod (.int .i64) (.int .i64)))))) false, .v (.slice (.int .i64)) false, .v (.slice (.int .i64)) false] [.v (.prod (.int .i64) (.prod (.own (.int .i64)) (.prod (.own (.int .i64)) (.own (.int .i64))))) true] (fun d => Zbx N d.1 d.2.1 d.2.2.1)
noncomputable def Zfb : Fn := ⟨Tryz.f10, fun | 5 => [.canon [1, 2, 6, 7, 20, 21, 22, 23]] | 6 => [.canon [1, 2, 6, 7, 8, 9, 20, 21, 22]] | 7 => [.canon [1, 2, 6, 7, 8, 9, 10, 11, 12, 20, 21, 22]] | 8 => [.canon [1, 2, 6, 7, 8, 9, 11, 12, 20, 21, 22, 37]] | 9 => [.canon [6]] | 10 => [.canon [1, 2, 6, 7, 20, 21, 22]] | 11 => [.canon [1, 2, 6, 7, 20, 21, 22]] | 100005 => [.canon [1, 2, 6, 7, 20, 21, 22]] | _ => [], Zhh, fun N => [(33, Zhc N), (34, Zfk N), (35, Zgq N), (36, Zdh N), (37, Zai N), (38, Za8 N)]⟩
def Zm4 (regs5 : List Int) (cells6 : List Int) (t7 : List (List (Int × Int × Int × Int))) (t9 : Int) (l11 : List Int) : St := ⟨[(1, vV (.slice (.int .i64)) regs5), (2, vV (.slice (.int .i64)) cells6), (6, vP 0 0), (7, vO 1), (20, vV (.slice (.slice (.prod (.int .i64) (.prod (.int .i64) (.prod (.int .i64) (.int .i64)))))) t7), (21, vI (ilen t7)), (22, vI t9)], [(0, .box [.val (.int .i64) (0 : Int), .nils, .nils, .nils]), (1, .arr (.int .i64) l11)], 2⟩
def Zlb (regs5 : List Int) (cells6 : List Int) (t7 : List (List (Int × Int × Int × Int))) (b16 : Int) (l17 : List Int) (l18 : List Int) : St := ⟨[(6, vP 0 0)], [(0, .box [.val (.int .i64) b16, .own 1, .own 2, .nils]), (1, .arr (.int .i64) l17), (2, .arr (.int .i64) l18)], 3⟩
def Zlc (regs5 : List Int) (cells6 : List Int) (t7 : List (List (Int × Int × Int × Int))) (t19 : Int) (t20 : Bool) (l21 : List Int) : St := ⟨[(1, vV (.slice (.int .i64)) regs5), (2, vV (.slice (.int .i64)) cells6), (6, vP 0 0), (7, vO 1), (20, vV (.slice (.slice (.prod (.int .i64) (.prod (.int .i64) (.prod (.int .i64) (.int .i64)))))) t7), (21, vI (ilen t7)), (22, vI t19), (23, vB t20)], [(0, .box [.val (.int .i64) (0 : Int), .nils, .nils, .nils]), (1, .arr (.int .i64) l21)], 2⟩
theorem Zm5 (N : Nat) {R : Type} (K : Ex → St → Option R) {regs5 : List Int} {cells6 : List Int} {t7 : List (List (Int × Int × Int × Int))} {K0 : Int → (List Int) → (List Int) → Option R} {K1 : Int → Bool → (List Int) → Option R} (h0 : K0 = fun b16 l17 l18 => K .ret (Zlb regs5 cells6 t7 b16 l17 l18)) (h1 : K1 = fun t19 t20 l21 => K (.exit 0) (Zlc regs5 cells6 t7 t19 t20 l21)) (n : Nat) (t9 : Int) (l11 : List Int) : Zbp N regs5 cells6 t7 K0 K1 n t9 l11 = LM Zfb N 0 100005 n (Zm4 regs5 cells6 t7 t9 l11) K := by
  subst h0 h1
  induction n generalizing t9 l11 with
  | zero => kernel_rfl
  | succ n ih => rw [Zbp]; simp (disch := exact id (by kernel_rfl)) only [ih]; kernel_rfl
theorem Zqs : Callable Tryz.prog 10 := callable_of Tryz.func10 (show chkFn Tryz.f10 = true by kernel_rfl)
theorem Zqt (N : Nat) (l1 : List (List (Int × Int × Int × Int))) (regs2 : List Int) (cells3 : List Int) : DN Zfb N (l1, regs2, cells3, ()) = Zbx N l1 regs2 cells3 := by
  have h : Zbx N l1 regs2 cells3 = Zbx N l1 regs2 cells3 := rfl
  conv at h => rhs; rw [Zbx]
  simp (disch := exact id (by kernel_rfl)) only [Zm5 (R := Unit × ((Int × List Int × List Int × List Int) × Unit)) N (CF Zfb N [1, 1, 1, 0, 1, 0])] at h
  exact Eq.trans (by kernel_rfl) h.symm
theorem Zqu (N : Nat) : Good Tryz.prog 10 (Zhh N) := GF Zfb N Tryz.func10 (ctx_cons (Zqm N) Zql (ctx_cons (Zn1 N) Zn0 (ctx_cons (Zpg N) Zpf (ctx_cons (Zes N) Zer (ctx_cons (Za2 N) Za1 (ctx_cons (Zd0 N) Zdz ctx_nil)))))) (by kernel_rfl) (fun d => Zqt N d.1 d.2.1 d.2.2.1)
noncomputable def Zfc (N : Nat) : Sig := Sig.of [.v (.slice (.int .i64)) false, .v (.slice (.int .i64)) false] [.v (.bool) false] (fun d => Zab N d.1 d.2.1)
noncomputable def Zfd : Fn := ⟨Tryz.f13, fun | 4 => [.canon [0, 1, 5, 14]] | 5 => [.canon [0, 1, 5]] | 6 => [.canon [0, 1, 5, 25]] | 7 => [.canon [4]] | 100004 => [.canon [0, 1, 5]] | _ => [], Zfc, noCtx⟩
def Zm6 (a3 : List Int) (b4 : List Int) (i5 : Int) : St := ⟨[(0, vV (.slice (.int .i64)) a3), (1, vV (.slice (.int .i64)) b4), (5, vI i5)], [], 0⟩
def Zld (a3 : List Int) (b4 : List Int) : St := ⟨[(4, vB false)], [], 0⟩
def Zle (a3 : List Int) (b4 : List Int) (i6 : Int) (t7 : Bool) : St := ⟨[(0, vV (.slice (.int .i64)) a3), (1, vV (.slice (.int .i64)) b4), (5, vI i6), (14, vB t7)], [], 0⟩
theorem Zm7 (N : Nat) {R : Type} (K : Ex → St → Option R) {a3 : List Int} {b4 : List Int} {K0 : Option R} {K1 : Int → Bool → Option R} (h0 : K0 = K .ret (Zld a3 b4)) (h1 : K1 = fun i6 t7 => K (.exit 0) (Zle a3 b4 i6 t7)) (n : Nat) (i5 : Int) : Zbf N a3 b4 K0 K1 n i5 = LM Zfd N 0 100004 n (Zm6 a3 b4 i5) K := by
  subst h0 h1
  induction n generalizing i5 with
  | zero => kernel_rfl
  | succ n ih => rw [Zbf]; simp (disch := exact id (by kernel_rfl)) only [ih]; kernel_rfl
theorem Zi5 : Callable Tryz.prog 13 := callable_of Tryz.func13 (show chkFn Tryz.f13 = true by kernel_rfl)
theorem Zqv (N : Nat) (a1 : List Int) (b2 : List Int) : DN Zfd N (a1, b2, ()) = Zab N a1 b2 := by
  have h : Zab N a1 b2 = Zab N a1 b2 := rfl
  conv at h => rhs; rw [Zab]
  simp (disch := exact id (by kernel_rfl)) only [Zm7 (R := Unit × (Bool × Unit)) N (CF Zfd N [1, 1, 0, 1, 0])] at h
  exact Eq.trans (by kernel_rfl) h.symm
theorem Zi6 (N : Nat) : Good Tryz.prog 13 (Zfc N) := GF Zfd N Tryz.func13 ctx_nil (by kernel_rfl) (fun d => Zqv N d.1 d.2.1)
noncomputable def Zf3 (N : Nat) : Sig := Sig.of [.v (.prod (.int .i64) (.prod (.slice (.int .i64)) (.prod (.slice (.int .i64)) (.slice (.int .i64))))) true, .v (.prod (.int .i64) (.prod (.slice (.int .i64)) (.prod (.slice (.int .i64)) (.slice (.int .i64))))) true] [.v (.bool) false] (fun d => Zdb N d.1 d.2.1)
noncomputable def Zon : Fn := ⟨Tryz.f11, noAnn, Zf3, fun N => [(13, Zfc N)]⟩
theorem Zoo : Callable Tryz.prog 11 := callable_of Tryz.func11 (show chkFn Tryz.f11 = true by kernel_rfl)
theorem Zop (N : Nat) : Good Tryz.prog 11 (Zf3 N) := GF Zon N Tryz.func11 (ctx_cons (Zi6 N) Zi5 ctx_nil) (by kernel_rfl) (fun d => by kernel_rfl)
noncomputable def Zie (N : Nat) : Sig := Sig.of [.v (.prod (.int .i64) (.prod (.int .i64) (.prod (.int .i64) (.int .i64)))) true, .v (.prod (.int .i64) (.prod (.int .i64) (.prod (.int .i64) (.int .i64)))) true] [.v (.bool) false] (fun d => Zh4 N d.1 d.2.1)
noncomputable def Zsa : Fn := ⟨Tryz.f108, noAnn, Zie, noCtx⟩
theorem Zsb : Callable Tryz.prog 108 := callable_of Tryz.func108 (show chkFn Tryz.f108 = true by kernel_rfl)
theorem Zsc (N : Nat) : Good Tryz.prog 108 (Zie N) := GF Zsa N Tryz.func108 ctx_nil (by kernel_rfl) (fun d => by kernel_rfl)
noncomputable def Zh1 (N : Nat) : Sig := Sig.of [.v (.slice (.prod (.int .i64) (.prod (.int .i64) (.prod (.int .i64) (.int .i64))))) false, .v (.slice (.prod (.int .i64) (.prod (.int .i64) (.prod (.int .i64) (.int .i64))))) false] [.v (.bool) false] (fun d => Zc7 N d.1 d.2.1)
noncomputable def Zfv : Fn := ⟨Tryz.f70, fun | 4 => [.canon [0, 1, 5, 14]] | 5 => [.canon [0, 1, 5]] | 6 => [.canon [0, 1, 5, 26]] | 7 => [.canon [4]] | 100004 => [.canon [0, 1, 5]] | _ => [], Zh1, fun N => [(108, Zie N)]⟩
def Zn8 (a3 : List (Int × Int × Int × Int)) (b4 : List (Int × Int × Int × Int)) (i5 : Int) : St := ⟨[(0, vV (.slice (.prod (.int .i64) (.prod (.int .i64) (.prod (.int .i64) (.int .i64))))) a3), (1, vV (.slice (.prod (.int .i64) (.prod (.int .i64) (.prod (.int .i64) (.int .i64))))) b4), (5, vI i5)], [], 0⟩
def Zm8 (a3 : List (Int × Int × Int × Int)) (b4 : List (Int × Int × Int × Int)) : St := ⟨[(4, vB false)], [], 0⟩
def Zm9 (a3 : List (Int × Int × Int × Int)) (b4 : List (Int × Int × Int × Int)) (i7 : Int) (t8 : Bool) : St := ⟨[(0, vV (.slice (.prod (.int .i64) (.prod (.int .i64) (.prod (.int .i64) (.int .i64))))) a3), (1, vV (.slice (.prod (.int .i64) (.prod (.int .i64) (.prod (.int .i64) (.int .i64))))) b4), (5, vI i7), (14, vB t8)], [], 0⟩
theorem Zn9 (N : Nat) {R : Type} (K : Ex → St → Option R) {a3 : List (Int × Int × Int × Int)} {b4 : List (Int × Int × Int × Int)} {K0 : Option R} {K1 : Int → Bool → Option R} (h0 : K0 = K .ret (Zm8 a3 b4)) (h1 : K1 = fun i7 t8 => K (.exit 0) (Zm9 a3 b4 i7 t8)) (n : Nat) (i5 : Int) : Zb1 N a3 b4 K0 K1 n i5 = LM Zfv N 0 100004 n (Zn8 a3 b4 i5) K := by
  subst h0 h1
  induction n generalizing i5 with
  | zero => kernel_rfl
  | succ n ih => rw [Zb1]; simp (disch := exact id (by kernel_rfl)) only [ih]; kernel_rfl
theorem Zrw : Callable Tryz.prog 70 := callable_of Tryz.func70 (show chkFn Tryz.f70 = true by kernel_rfl)
theorem Zrx (N : Nat) (a1 : List (Int × Int × Int × Int)) (b2 : List (Int × Int × Int × Int)) : DN Zfv N (a1, b2, ()) = Zc7 N a1 b2 := by
  have h : Zc7 N a1 b2 = Zc7 N a1 b2 := rfl
  conv at h => rhs; rw [Zc7]
  simp (disch := exact id (by kernel_rfl)) only [Zn9 (R := Unit × (Bool × Unit)) N (CF Zfv N [1, 1, 0, 1, 0])] at h
  exact Eq.trans (by kernel_rfl) h.symm
theorem Zry (N : Nat) : Good Tryz.prog 70 (Zh1 N) := GF Zfv N Tryz.func70 (ctx_cons (Zsc N) Zsb ctx_nil) (by kernel_rfl) (fun d => Zrx N d.1 d.2.1)
noncomputable def Zh2 (N : Nat) : Sig := Sig.of [.v (.slice (.prod (.int .i64) (.prod (.int .i64) (.prod (.int .i64) (.int .i64))))) true, .v (.slice (.prod (.int .i64) (.prod (.int .i64) (.prod (.int .i64) (.int .i64))))) true] [.v (.bool) false] (fun d => Zgz N d.1 d.2.1)
noncomputable def Zrz : Fn := ⟨Tryz.f39, noAnn, Zh2, fun N => [(70, Zh1 N)]⟩
theorem Zr0 : Callable Tryz.prog 39 := callable_of Tryz.func39 (show chkFn Tryz.f39 = true by kernel_rfl)
theorem Zr1 (N : Nat) : Good Tryz.prog 39 (Zh2 N) := GF Zrz N Tryz.func39 (ctx_cons (Zry N) Zrw ctx_nil) (by kernel_rfl) (fun d => by kernel_rfl)
noncomputable def Zhi (N : Nat) : Sig := Sig.of [.v (.slice (.slice (.prod (.int .i64) (.prod (.int .i64) (.prod (.int .i64) (.int .i64)))))) false, .v (.slice (.slice (.prod (.int .i64) (.prod (.int .i64) (.prod (.int .i64) (.int .i64)))))) false] [.v (.bool) false] (fun d => Zcw N d.1 d.2.1)
noncomputable def Zfe : Fn := ⟨Tryz.f12, fun | 4 => [.canon [0, 1, 5, 14]] | 5 => [.canon [0, 1, 5]] | 6 => [.canon [0, 1, 5, 26]] | 7 => [.canon [4]] | 100004 => [.canon [0, 1, 5]] | _ => [], Zhi, fun N => [(39, Zh2 N)]⟩
def Zna (a3 : List (List (Int × Int × Int × Int))) (b4 : List (List (Int × Int × Int × Int))) (i5 : Int) : St := ⟨[(0, vV (.slice (.slice (.prod (.int .i64) (.prod (.int .i64) (.prod (.int .i64) (.int .i64)))))) a3), (1, vV (.slice (.slice (.prod (.int .i64) (.prod (.int .i64) (.prod (.int .i64) (.int .i64)))))) b4), (5, vI i5)], [], 0⟩
def Zlf (a3 : List (List (Int × Int × Int × Int))) (b4 : List (List (Int × Int × Int × Int))) : St := ⟨[(4, vB false)], [], 0⟩
def Zlg (a3 : List (List (Int × Int × Int × Int))) (b4 : List (List (Int × Int × Int × Int))) (i7 : Int) (t8 : Bool) : St := ⟨[(0, vV (.slice (.slice (.prod (.int .i64) (.prod (.int .i64) (.prod (.int .i64) (.int .i64)))))) a3), (1, vV (.slice (.slice (.prod (.int .i64) (.prod (.int .i64) (.prod (.int .i64) (.int .i64)))))) b4), (5, vI i7), (14, vB t8)], [], 0⟩
theorem Znb (N : Nat) {R : Type} (K : Ex → St → Option R) {a3 : List (List (Int × Int × Int × Int))} {b4 : List (List (Int × Int × Int × Int))} {K0 : Option R} {K1 : Int → Bool → Option R} (h0 : K0 = K .ret (Zlf a3 b4)) (h1 : K1 = fun i7 t8 => K (.exit 0) (Zlg a3 b4 i7 t8)) (n : Nat) (i5 : Int) : Zbm N a3 b4 K0 K1 n i5 = LM Zfe N 0 100004 n (Zna a3 b4 i5) K := by
  subst h0 h1
  induction n generalizing i5 with
  | zero => kernel_rfl
  | succ n ih => rw [Zbm]; simp (disch := exact id (by kernel_rfl)) only [ih]; kernel_rfl
theorem Zqw : Callable Tryz.prog 12 := callable_of Tryz.func12 (show chkFn Tryz.f12 = true by kernel_rfl)
theorem Zqx (N : Nat) (a1 : List (List (Int × Int × Int × Int))) (b2 : List (List (Int × Int × Int × Int))) : DN Zfe N (a1, b2, ()) = Zcw N a1 b2 := by
  have h : Zcw N a1 b2 = Zcw N a1 b2 := rfl
  conv at h => rhs; rw [Zcw]
  simp (disch := exact id (by kernel_rfl)) only [Znb (R := Unit × (Bool × Unit)) N (CF Zfe N [1, 1, 0, 1, 0])] at h
  exact Eq.trans (by kernel_rfl) h.symm
theorem Zqy (N : Nat) : Good Tryz.prog 12 (Zhi N) := GF Zfe N Tryz.func12 (ctx_cons (Zr1 N) Zr0 ctx_nil) (by kernel_rfl) (fun d => Zqx N d.1 d.2.1)
noncomputable def Zgr (N : Nat) : Sig := Sig.of [.mut (.prod (.int .i64) (.prod (.int .i64) (.prod (.int .i64) (.int .i64)))), .v (.int .i64) false] [.v (.int .i64) false] (fun d => Zb7 N d.1 d.2.1)
noncomputable def Zeo : Fn := ⟨Tryz.f40, fun | 2 => [.canon [0, 1, 5, 9]] | 3 => [.canon [0, 1, 5]] | 4 => [.canon [0, 1, 5]] | 5 => [.canon [0, 1, 5]] | 6 => [.canon [0, 1, 5]] | 7 => [.canon [0, 1, 5]] | 8 => [.canon [0, 1, 5]] | 9 => [.canon [0, 1, 5]] | 10 => [.canon [0, 1, 5]] | 11 => [.canon [0, 1, 5]] | 100002 => [.canon [0, 1, 5]] | _ => [], Zgr, noCtx⟩
def Zlh (k3 : Int) (i4 : Int) (l5 : List (Int × Int × Int × Int)) : St := ⟨[(0, vO 0), (1, vI k3), (5, vI i4)], [(0, .arr (.prod (.int .i64) (.prod (.int .i64) (.prod (.int .i64) (.int .i64)))) l5)], 1⟩
def Zjw (k9 : Int) (i10 : Int) (t11 : Bool) (l12 : List (Int × Int × Int × Int)) : St := ⟨[(0, vO 0), (1, vI k9), (5, vI i10), (9, vB t11)], [(0, .arr (.prod (.int .i64) (.prod (.int .i64) (.prod (.int .i64) (.int .i64)))) l12)], 1⟩
theorem Zli (N : Nat) {R : Type} (K : Ex → St → Option R) {K0 : Int → Int → Bool → (List (Int × Int × Int × Int)) → Option R} (h0 : K0 = fun k9 i10 t11 l12 => K (.exit 0) (Zjw k9 i10 t11 l12)) (n : Nat) (k3 : Int) (i4 : Int) (l5 : List (Int × Int × Int × Int)) : Zbc N K0 n k3 i4 l5 = LM Zeo N 0 100002 n (Zlh k3 i4 l5) K := by
  subst h0
  induction n generalizing k3 i4 l5 with
  | zero => kernel_rfl
  | succ n ih => rw [Zbc]; simp (disch := exact id (by kernel_rfl)) only [ih]; kernel_rfl
theorem Zph : Callable Tryz.prog 40 := callable_of Tryz.func40 (show chkFn Tryz.f40 = true by kernel_rfl)
theorem Zpi (N : Nat) (a1 : List (Int × Int × Int × Int)) (k2 : Int) : DN Zeo N (a1, k2, ()) = Zb7 N a1 k2 := by
  have h : Zb7 N a1 k2 = Zb7 N a1 k2 := rfl
  conv at h => rhs; rw [Zb7]
  simp (disch := exact id (by kernel_rfl)) only [Zli (R := ((List (Int × Int × Int × Int)) × Unit) × (Int × Unit)) N (CF Zeo N [1, 0, 1, 0])] at h
  exact Eq.trans (by kernel_rfl) h.symm
theorem Zpj (N : Nat) : Good Tryz.prog 40 (Zgr N) := GF Zeo N Tryz.func40 ctx_nil (by kernel_rfl) (fun d => Zpi N d.1 d.2.1)
noncomputable def Zf4 (N : Nat) : Sig := Sig.of [.mut (.own (.prod (.int .i64) (.prod (.int .i64) (.prod (.int .i64) (.int .i64))))), .v (.int .i64) false] [.v (.int .i64) false] (fun d => Zbq N d.1 d.2.1)
noncomputable def Zd4 : Fn := ⟨Tryz.f14, fun | 2 => [.canon [0, 1, 5, 9]] | 3 => [.canon [0, 1, 5]] | 4 => [.opn 14, .refold 14, .canon [0, 1, 5]] | 100002 => [.canon [0, 1, 5]] | _ => [], Zf4, fun N => [(40, Zgr N)]⟩
def Zjx (k3 : Int) (i4 : Int) (l5 : List (List (Int × Int × Int × Int))) : St := ⟨[(0, vO 0), (1, vI k3), (5, vI i4)], [(0, .arr (.own (.prod (.int .i64) (.prod (.int .i64) (.prod (.int .i64) (.int .i64))))) l5)], 1⟩
def Zje (k7 : Int) (i8 : Int) (t9 : Bool) (l10 : List (List (Int × Int × Int × Int))) : St := ⟨[(0, vO 0), (1, vI k7), (5, vI i8), (9, vB t9)], [(0, .arr (.own (.prod (.int .i64) (.prod (.int .i64) (.prod (.int .i64) (.int .i64))))) l10)], 1⟩
theorem Zjy (N : Nat) {R : Type} (K : Ex → St → Option R) {K0 : Int → Int → Bool → (List (List (Int × Int × Int × Int))) → Option R} (h0 : K0 = fun k7 i8 t9 l10 => K (.exit 0) (Zje k7 i8 t9 l10)) (n : Nat) (k3 : Int) (i4 : Int) (l5 : List (List (Int × Int × Int × Int))) : Za5 N K0 n k3 i4 l5 = LM Zd4 N 0 100002 n (Zjx k3 i4 l5) K := by
  subst h0
  induction n generalizing k3 i4 l5 with
  | zero => kernel_rfl
  | succ n ih => rw [Za5]; simp (disch := exact id (by kernel_rfl)) only [ih]; kernel_rfl
theorem Zoq : Callable Tryz.prog 14 := callable_of Tryz.func14 (show chkFn Tryz.f14 = true by kernel_rfl)
theorem Zor (N : Nat) (a1 : List (List (Int × Int × Int × Int))) (k2 : Int) : DN Zd4 N (a1, k2, ()) = Zbq N a1 k2 := by
  have h : Zbq N a1 k2 = Zbq N a1 k2 := rfl
  conv at h => rhs; rw [Zbq]
  simp (disch := exact id (by kernel_rfl)) only [Zjy (R := ((List (List (Int × Int × Int × Int))) × Unit) × (Int × Unit)) N (CF Zd4 N [1, 0, 1, 0])] at h
  exact Eq.trans (by kernel_rfl) h.symm
theorem Zos (N : Nat) : Good Tryz.prog 14 (Zf4 N) := GF Zd4 N Tryz.func14 (ctx_cons (Zpj N) Zph ctx_nil) (by kernel_rfl) (fun d => Zor N d.1 d.2.1)
noncomputable def Zd5 (N : Nat) : Sig := Sig.of [.mut (.int .i64), .v (.int .i64) false] [.v (.int .i64) false] (fun d => Zac N d.1 d.2.1)
noncomputable def Zd6 : Fn := ⟨Tryz.f15, fun | 2 => [.canon [0, 1, 5, 9]] | 3 => [.canon [0, 1, 5]] | 4 => [.canon [0, 1, 5]] | 5 => [.canon [0, 1, 5]] | 100002 => [.canon [0, 1, 5]] | _ => [], Zd5, noCtx⟩
def Zjz (k3 : Int) (i4 : Int) (l5 : List Int) : St := ⟨[(0, vO 0), (1, vI k3), (5, vI i4)], [(0, .arr (.int .i64) l5)], 1⟩
def Zjf (k6 : Int) (i7 : Int) (t8 : Bool) (l9 : List Int) : St := ⟨[(0, vO 0), (1, vI k6), (5, vI i7), (9, vB t8)], [(0, .arr (.int .i64) l9)], 1⟩
theorem Zj0 (N : Nat) {R : Type} (K : Ex → St → Option R) {K0 : Int → Int → Bool → (List Int) → Option R} (h0 : K0 = fun k6 i7 t8 l9 => K (.exit 0) (Zjf k6 i7 t8 l9)) (n : Nat) (k3 : Int) (i4 : Int) (l5 : List Int) : Za3 N K0 n k3 i4 l5 = LM Zd6 N 0 100002 n (Zjz k3 i4 l5) K := by
  subst h0
  induction n generalizing k3 i4 l5 with
  | zero => kernel_rfl
  | succ n ih => rw [Za3]; simp (disch := exact id (by kernel_rfl)) only [ih]; kernel_rfl
theorem Zif : Callable Tryz.prog 15 := callable_of Tryz.func15 (show chkFn Tryz.f15 = true by kernel_rfl)
theorem Zot (N : Nat) (a1 : List Int) (k2 : Int) : DN Zd6 N (a1, k2, ()) = Zac N a1 k2 := by
  have h : Zac N a1 k2 = Zac N a1 k2 := rfl
  conv at h => rhs; rw [Zac]
  simp (disch := exact id (by kernel_rfl)) only [Zj0 (R := ((List Int) × Unit) × (Int × Unit)) N (CF Zd6 N [1, 0, 1, 0])] at h
  exact Eq.trans (by kernel_rfl) h.symm
theorem Zig (N : Nat) : Good Tryz.prog 15 (Zd5 N) := GF Zd6 N Tryz.func15 ctx_nil (by kernel_rfl) (fun d => Zot N d.1 d.2.1)
noncomputable def Zew (N : Nat) : Sig := Sig.of [.kv (.prod (.int .i64) (.prod (.own (.int .i64)) (.prod (.own (.int .i64)) (.own (.int .i64))))) true, .v (.int .i64) false] [.v (.int .i64) false] (fun d => Zd2 N d.1 d.2.1)
noncomputable def Znc : Fn := ⟨Tryz.f16, noAnn, Zew, fun N => [(15, Zd5 N)]⟩
theorem Znd : Callable Tryz.prog 16 := callable_of Tryz.func16 (show chkFn Tryz.f16 = true by kernel_rfl)
theorem Zne (N : Nat) : Good Tryz.prog 16 (Zew N) := GF Znc N Tryz.func16 (ctx_cons (Zig N) Zif ctx_nil) (by kernel_rfl) (fun d => by kernel_rfl)
noncomputable def Zf5 (N : Nat) : Sig := Sig.of [.v (.slice (.int .i64)) false, .v (.int .i64) false] [.v (.int .i64) false] (fun d => Zat N d.1 d.2.1)
noncomputable def Zd7 : Fn := ⟨Tryz.f41, fun | 2 => [.canon [0, 1, 5, 9]] | 3 => [.canon [0, 1, 5]] | 4 => [.canon [0, 1, 5, 17]] | 5 => [.canon [4]] | 6 => [.canon [0, 1, 5]] | 100002 => [.canon [0, 1, 5]] | _ => [], Zf5, noCtx⟩
def Zj1 (a3 : List Int) (k4 : Int) (i5 : Int) : St := ⟨[(0, vV (.slice (.int .i64)) a3), (1, vI k4), (5, vI i5)], [], 0⟩
def Zjg (a3 : List Int) : St := ⟨[(4, vI (-1 : Int))], [], 0⟩
def Zjh (a3 : List Int) (k6 : Int) (i7 : Int) (t8 : Bool) : St := ⟨[(0, vV (.slice (.int .i64)) a3), (1, vI k6), (5, vI i7), (9, vB t8)], [], 0⟩
theorem Zj2 (N : Nat) {R : Type} (K : Ex → St → Option R) {a3 : List Int} {K0 : Option R} {K1 : Int → Int → Bool → Option R} (h0 : K0 = K .ret (Zjg a3)) (h1 : K1 = fun k6 i7 t8 => K (.exit 0) (Zjh a3 k6 i7 t8)) (n : Nat) (k4 : Int) (i5 : Int) : Za4 N a3 K0 K1 n k4 i5 = LM Zd7 N 0 100002 n (Zj1 a3 k4 i5) K := by
  subst h0 h1
  induction n generalizing k4 i5 with
  | zero => kernel_rfl
  | succ n ih => rw [Za4]; simp (disch := exact id (by kernel_rfl)) only [ih]; kernel_rfl
theorem Zou : Callable Tryz.prog 41 := callable_of Tryz.func41 (show chkFn Tryz.f41 = true by kernel_rfl)
theorem Zov (N : Nat) (a1 : List Int) (k2 : Int) : DN Zd7 N (a1, k2, ()) = Zat N a1 k2 := by
  have h : Zat N a1 k2 = Zat N a1 k2 := rfl
  conv at h => rhs; rw [Zat]
  simp (disch := exact id (by kernel_rfl)) only [Zj2 (R := Unit × (Int × Unit)) N (CF Zd7 N [1, 0, 1, 0])] at h
  exact Eq.trans (by kernel_rfl) h.symm
theorem Zow (N : Nat) : Good Tryz.prog 41 (Zf5 N) := GF Zd7 N Tryz.func41 ctx_nil (by kernel_rfl) (fun d => Zov N d.1 d.2.1)
noncomputable def Zex (N : Nat) : Sig := Sig.of [.v (.prod (.int .i64) (.prod (.slice (.int .i64)) (.prod (.slice (.int .i64)) (.slice (.int .i64))))) true, .v (.int .i64) false] [.v (.int .i64) false] (fun d => Zdk N d.1 d.2.1)
noncomputable def Znf : Fn := ⟨Tryz.f17, noAnn, Zex, fun N => [(41, Zf5 N)]⟩
theorem Zng : Callable Tryz.prog 17 := callable_of Tryz.func17 (show chkFn Tryz.f17 = true by kernel_rfl)
theorem Znh (N : Nat) : Good Tryz.prog 17 (Zex N) := GF Znf N Tryz.func17 (ctx_cons (Zow N) Zou ctx_nil) (by kernel_rfl) (fun d => by kernel_rfl)
noncomputable def Zga (N : Nat) : Sig := Sig.of [.v (.slice (.slice (.prod (.int .i64) (.prod (.int .i64) (.prod (.int .i64) (.int .i64)))))) false, .v (.slice (.int .i64)) false, .v (.slice (.int .i64)) false] [.v (.bool) false] (fun d => Zch N d.1 d.2.1 d.2.2.1)
noncomputable def Zji : Fn := ⟨Tryz.f3, noAnn, Zga, fun N => [(6, Zg0 N), (8, Zg1 N), (9, Zg2 N), (7, Zha N), (10, Zhh N), (11, Zf3 N), (12, Zhi N), (13, Zfc N), (14, Zf4 N), (15, Zd5 N), (16, Zew N), (17, Zex N)]⟩
theorem Zsd : Callable Tryz.prog 3 := callable_of Tryz.func3 (show chkFn Tryz.f3 = true by kernel_rfl)
theorem Zjj (N : Nat) : Good Tryz.prog 3 (Zga N) := GF Zji N Tryz.func3 (ctx_cons (Zpm N) Zpk (ctx_cons (Zpp N) Zpn (ctx_cons (Zps N) Zpq (ctx_cons (Zqe N) Zqc (ctx_cons (Zqu N) Zqs (ctx_cons (Zop N) Zoo (ctx_cons (Zqy N) Zqw (ctx_cons (Zi6 N) Zi5 (ctx_cons (Zos N) Zoq (ctx_cons (Zig N) Zif (ctx_cons (Zne N) Znd (ctx_cons (Znh N) Zng ctx_nil)))))))))))) (by kernel_rfl) (fun d => by kernel_rfl)
end Go.Sx
