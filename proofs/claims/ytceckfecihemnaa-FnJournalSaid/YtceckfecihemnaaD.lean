/- Each Go function does what its Lean function says. -/
import Derived.Test.YtceckfecihemnaaT
import Derived.Test.YtceckfecihemnaaProg
namespace Go.Sx
open Go.Proofs
set_option linter.unusedVariables false
set_option linter.unusedSimpArgs false
def tab : Tab := [(3, ⟨.int .i64, false, .basic⟩), (4, ⟨.bool, false, .basic⟩), (5, ⟨.int .u8, false, .basic⟩), (9, ⟨.str, false, .basic⟩), (22, ⟨.slice (.int .u8), false, .slice 5⟩), (25, ⟨.slice (.prod (.int .i64) (.prod (.int .i64) (.slice (.prod (.int .i64) (.int .i64))))), false, .slice 35⟩), (32, ⟨.prod (.int .i64) (.int .i64), true, .struct [(0, 3), (1, 3)]⟩), (33, ⟨.slice (.prod (.int .i64) (.int .i64)), false, .slice 32⟩), (35, ⟨.prod (.int .i64) (.prod (.int .i64) (.slice (.prod (.int .i64) (.int .i64)))), true, .struct [(0, 3), (1, 3), (2, 33)]⟩), (38, ⟨.slice (.int .i64), false, .slice 3⟩), (113, ⟨.prod (.slice (.int .u8)) (.prod (.int .i64) (.int .i64)), true, .struct [(0, 22), (1, 3), (2, 3)]⟩)]
theorem mixedOk : Try.prog.follows .mixedOrders = true := by kernel_rfl
theorem tabOk : TabOk Try.prog tab := tab_ok (show chkTab Try.prog tab tab = true by kernel_rfl)
noncomputable def LM (x : Fn) (N : Nat) {R : Type} (i k n : Nat) (st : St) (K : Ex → St → Option R) : Option R := lpM tab (x.c N) x.a N x.F i k n st K
noncomputable def CF (x : Fn) (N : Nat) (p : List Nat) : Ex → St → Option (Qs (x.s N)) := cxF tab (x.c N) x.a N (x.s N) x.F p
noncomputable def CL (x : Fn) (N : Nat) {R : Type} (i k : Nat) (p : List Nat) (n : Nat) (K : Ex → St → Option R) : Ex → St → Option R := cxL tab (x.c N) x.a N x.F i k p n K
noncomputable def DN (x : Fn) (N : Nat) (d : PDen (x.s N).ps) : Option (Qs (x.s N)) := den (R := Qs (x.s N)) tab (x.c N) x.a N (x.s N) x.F d some
theorem GF (x : Fn) {k : FuncId} (N : Nat) (hf : Try.prog.funcs[k]? = some x.F) (hc : CtxOk Try.prog (x.c N)) (hok : chkBody x.F (x.s N).ps = true) (h : ∀ d, DN x N d = (x.s N).run d) : Good Try.prog k (x.s N) :=
  good_body mixedOk tabOk hc hf hok (fun d _ e => ⟨N, (h d).trans e⟩)
noncomputable def Zgs (N : Nat) : Sig := Sig.of [.v (.slice (.int .u8)) false] [.v (.bool) false] (fun d => Zi5 N d.1)
noncomputable def Zpf : Fn := ⟨Try.f6, noAnn, Zgs, noCtx⟩
theorem Zpg : Callable Try.prog 6 := callable_of Try.func6 (show chkFn Try.f6 = true by kernel_rfl)
theorem Zph (N : Nat) : Good Try.prog 6 (Zgs N) := GF Zpf N Try.func6 ctx_nil (by kernel_rfl) (fun d => by kernel_rfl)
noncomputable def Zez (N : Nat) : Sig := Sig.of [.v (.slice (.int .u8)) false] [.box (.prod (.slice (.int .u8)) (.prod (.int .i64) (.int .i64)))] (fun d => Zbm N d.1)
noncomputable def Ze0 : Fn := ⟨Try.f33, fun | 3 => [.canon [0, 3, 4, 15]] | 4 => [.canon [0, 3, 4]] | 5 => [.canon [0, 3, 4]] | 100003 => [.canon [0, 3, 4]] | _ => [], Zez, noCtx⟩
def Zle (code2 : List Int) (h3 : Int) (i4 : Int) : St := ⟨[(0, vV (.slice (.int .u8)) code2), (3, vI h3), (4, vI i4)], [], 0⟩
def Zkb (code2 : List Int) (h5 : Int) (i6 : Int) (t7 : Bool) : St := ⟨[(0, vV (.slice (.int .u8)) code2), (3, vI h5), (4, vI i6), (15, vB t7)], [], 0⟩
theorem Zlf (N : Nat) {R : Type} (K : Ex → St → Option R) {code2 : List Int} {K0 : Int → Int → Bool → Option R} (h0 : K0 = fun h5 i6 t7 => K (.exit 0) (Zkb code2 h5 i6 t7)) (n : Nat) (h3 : Int) (i4 : Int) : Zaq N code2 K0 n h3 i4 = LM Ze0 N 0 100003 n (Zle code2 h3 i4) K := by
  subst h0
  induction n generalizing h3 i4 with
  | zero => kernel_rfl
  | succ n ih => rw [Zaq]; simp (disch := exact id (by kernel_rfl)) only [ih]; kernel_rfl
theorem Zic : Callable Try.prog 33 := callable_of Try.func33 (show chkFn Try.f33 = true by kernel_rfl)
theorem Zor (N : Nat) (code1 : List Int) : DN Ze0 N (code1, ()) = Zbm N code1 := by
  have h : Zbm N code1 = Zbm N code1 := rfl
  conv at h => rhs; rw [Zbm]
  simp (disch := exact id (by kernel_rfl)) only [Zlf (R := Unit × ((List Int × Int × Int) × Unit)) N (CF Ze0 N [1, 1, 0, 1, 0])] at h
  exact Eq.trans (by kernel_rfl) h.symm
theorem Zid (N : Nat) : Good Try.prog 33 (Zez N) := GF Ze0 N Try.func33 ctx_nil (by kernel_rfl) (fun d => Zor N d.1)
noncomputable def Zc6 (N : Nat) : Sig := Sig.of [.box (.prod (.slice (.int .u8)) (.prod (.int .i64) (.int .i64)))] [.v (.int .i64) false] (fun d => Zm N d.1)
noncomputable def Zn2 : Fn := ⟨Try.f90, noAnn, Zc6, noCtx⟩
theorem Zfl : Callable Try.prog 90 := callable_of Try.func90 (show chkFn Try.f90 = true by kernel_rfl)
theorem Zfm (N : Nat) : Good Try.prog 90 (Zc6 N) := GF Zn2 N Try.func90 ctx_nil (by kernel_rfl) (fun d => by kernel_rfl)
noncomputable def Zq (N : Nat) : Sig := Sig.of [.box (.prod (.slice (.int .u8)) (.prod (.int .i64) (.int .i64))), .v (.int .i64) false] [.v (.int .i64) false] (fun d => Zc N d.1 d.2.1)
noncomputable def Zmr : Fn := ⟨Try.f47, noAnn, Zq, fun N => [(90, Zc6 N)]⟩
theorem Zt : Callable Try.prog 47 := callable_of Try.func47 (show chkFn Try.f47 = true by kernel_rfl)
theorem Zu (N : Nat) : Good Try.prog 47 (Zq N) := GF Zmr N Try.func47 (ctx_cons (Zfm N) Zfl ctx_nil) (by kernel_rfl) (fun d => by kernel_rfl)
noncomputable def Zcg (N : Nat) : Sig := Sig.of [.box (.prod (.slice (.int .u8)) (.prod (.int .i64) (.int .i64))), .v (.int .i64) false] [.v (.bool) false] (fun d => Zp N d.1 d.2.1)
noncomputable def Zn3 : Fn := ⟨Try.f45, noAnn, Zcg, fun N => [(47, Zq N)]⟩
theorem Zd9 : Callable Try.prog 45 := callable_of Try.func45 (show chkFn Try.f45 = true by kernel_rfl)
theorem Zea (N : Nat) : Good Try.prog 45 (Zcg N) := GF Zn3 N Try.func45 (ctx_cons (Zu N) Zt ctx_nil) (by kernel_rfl) (fun d => by kernel_rfl)
noncomputable def Zd5 (N : Nat) : Sig := Sig.of [.box (.prod (.slice (.int .u8)) (.prod (.int .i64) (.int .i64)))] [.v (.int .i64) false] (fun d => Z0 N d.1)
noncomputable def Zkc : Fn := ⟨Try.f144, noAnn, Zd5, fun N => [(45, Zcg N), (47, Zq N)]⟩
theorem Zkd : Callable Try.prog 144 := callable_of Try.func144 (show chkFn Try.f144 = true by kernel_rfl)
theorem Zke (N : Nat) : Good Try.prog 144 (Zd5 N) := GF Zkc N Try.func144 (ctx_cons (Zea N) Zd9 (ctx_cons (Zu N) Zt ctx_nil)) (by kernel_rfl) (fun d => by kernel_rfl)
noncomputable def Zep (N : Nat) : Sig := Sig.of [.box (.prod (.slice (.int .u8)) (.prod (.int .i64) (.int .i64))), .v (.slice (.int .i64)) false] [.v (.int .i64) false] (fun d => Zbw N d.1 d.2.1)
noncomputable def Zlg : Fn := ⟨Try.f117, noAnn, Zep, fun N => [(47, Zq N)]⟩
theorem Zlh : Callable Try.prog 117 := callable_of Try.func117 (show chkFn Try.f117 = true by kernel_rfl)
theorem Zli (N : Nat) : Good Try.prog 117 (Zep N) := GF Zlg N Try.func117 (ctx_cons (Zu N) Zt ctx_nil) (by kernel_rfl) (fun d => by kernel_rfl)
noncomputable def Zeb (N : Nat) : Sig := Sig.of [.box (.prod (.slice (.int .u8)) (.prod (.int .i64) (.int .i64)))] [.v (.int .i64) false] (fun d => Zcn N d.1)
noncomputable def Zn4 : Fn := ⟨Try.f88, noAnn, Zeb, fun N => [(45, Zcg N), (117, Zep N), (47, Zq N)]⟩
theorem Zhk : Callable Try.prog 88 := callable_of Try.func88 (show chkFn Try.f88 = true by kernel_rfl)
theorem Zhl (N : Nat) : Good Try.prog 88 (Zeb N) := GF Zn4 N Try.func88 (ctx_cons (Zea N) Zd9 (ctx_cons (Zli N) Zlh (ctx_cons (Zu N) Zt ctx_nil))) (by kernel_rfl) (fun d => by kernel_rfl)
noncomputable def Zec (N : Nat) : Sig := Sig.of [.box (.prod (.slice (.int .u8)) (.prod (.int .i64) (.int .i64))), .v (.int .i64) false] [.v (.own (.prod (.int .i64) (.int .i64))) false] (fun d => Zbf N d.1 d.2.1)
noncomputable def Zed : Fn := ⟨Try.f115, fun | 3 => [.canon [0, 5, 6, 13]] | 4 => [.canon [0, 5, 6]] | 5 => [.canon [0, 5, 6]] | 100003 => [.canon [0, 5, 6]] | _ => [], Zec, fun N => [(47, Zq N), (144, Zd5 N), (88, Zeb N)]⟩
def Zkf (n4 : Int) (b5 : List Int × Int × Int) (l6 : List (Int × Int)) : St := ⟨[(0, vP 0 0), (5, vO 1), (6, vI n4)], [(0, .box [.val (.slice (.int .u8)) b5.1, .val (.int .i64) b5.2.1, .val (.int .i64) b5.2.2]), (1, .arr (.prod (.int .i64) (.int .i64)) l6)], 2⟩
def Zi6 (n9 : Int) (t10 : Bool) (b11 : List Int × Int × Int) (l12 : List (Int × Int)) : St := ⟨[(0, vP 0 0), (5, vO 1), (6, vI n9), (13, vB t10)], [(0, .box [.val (.slice (.int .u8)) b11.1, .val (.int .i64) b11.2.1, .val (.int .i64) b11.2.2]), (1, .arr (.prod (.int .i64) (.int .i64)) l12)], 2⟩
theorem Zkg (N : Nat) {R : Type} (K : Ex → St → Option R) {K0 : Int → Bool → (List Int × Int × Int) → (List (Int × Int)) → Option R} (h0 : K0 = fun n9 t10 b11 l12 => K (.exit 0) (Zi6 n9 t10 b11 l12)) (n : Nat) (n4 : Int) (b5 : List Int × Int × Int) (l6 : List (Int × Int)) : Zbo N K0 n n4 b5 l6 = LM Zed N 0 100003 n (Zkf n4 b5 l6) K := by
  subst h0
  induction n generalizing n4 b5 l6 with
  | zero => kernel_rfl
  | succ n ih => rw [Zbo]; simp (disch := exact id (by kernel_rfl)) only [ih]; kernel_rfl
theorem Zhm : Callable Try.prog 115 := callable_of Try.func115 (show chkFn Try.f115 = true by kernel_rfl)
theorem Zn5 (N : Nat) (c1 : List Int × Int × Int) (most2 : Int) : DN Zed N (c1, most2, ()) = Zbf N c1 most2 := by
  have h : Zbf N c1 most2 = Zbf N c1 most2 := rfl
  conv at h => rhs; rw [Zbf]
  simp (disch := exact id (by kernel_rfl)) only [Zkg (R := ((List Int × Int × Int) × Unit) × ((List (Int × Int)) × Unit)) N (CF Zed N [1, 1, 0, 1, 0])] at h
  exact Eq.trans (by kernel_rfl) h.symm
theorem Zhn (N : Nat) : Good Try.prog 115 (Zec N) := GF Zed N Try.func115 (ctx_cons (Zu N) Zt (ctx_cons (Zke N) Zkd (ctx_cons (Zhl N) Zhk ctx_nil))) (by kernel_rfl) (fun d => Zn5 N d.1 d.2.1)
noncomputable def Zbu (N : Nat) : Sig := Sig.of [.v (.int .i64) false, .v (.int .i64) false, .v (.int .i64) false] [.v (.bool) false] (fun d => Zd N d.1 d.2.1 d.2.2.1)
noncomputable def Zpb : Fn := ⟨Try.f40, noAnn, Zbu, noCtx⟩
theorem Zcz : Callable Try.prog 40 := callable_of Try.func40 (show chkFn Try.f40 = true by kernel_rfl)
theorem Zc0 (N : Nat) : Good Try.prog 40 (Zbu N) := GF Zpb N Try.func40 ctx_nil (by kernel_rfl) (fun d => by kernel_rfl)
noncomputable def Zfn (N : Nat) : Sig := Sig.of [.v (.int .i64) false] [.v (.bool) false] (fun d => Zaa N d.1)
noncomputable def Zn6 : Fn := ⟨Try.f80, noAnn, Zfn, fun N => [(40, Zbu N)]⟩
theorem Zn7 : Callable Try.prog 80 := callable_of Try.func80 (show chkFn Try.f80 = true by kernel_rfl)
theorem Zn8 (N : Nat) : Good Try.prog 80 (Zfn N) := GF Zn6 N Try.func80 (ctx_cons (Zc0 N) Zcz ctx_nil) (by kernel_rfl) (fun d => by kernel_rfl)
noncomputable def Ze1 (N : Nat) : Sig := Sig.of [.v (.int .i64) false] [.v (.bool) false] (fun d => Zcu N d.1)
noncomputable def Zos : Fn := ⟨Try.f81, noAnn, Ze1, fun N => [(40, Zbu N)]⟩
theorem Zie : Callable Try.prog 81 := callable_of Try.func81 (show chkFn Try.f81 = true by kernel_rfl)
theorem Zif (N : Nat) : Good Try.prog 81 (Ze1 N) := GF Zos N Try.func81 (ctx_cons (Zc0 N) Zcz ctx_nil) (by kernel_rfl) (fun d => by kernel_rfl)
noncomputable def Zch (N : Nat) : Sig := Sig.of [.v (.slice (.prod (.int .i64) (.int .i64))) false] [.v (.bool) false] (fun d => Zam N d.1)
noncomputable def Zee : Fn := ⟨Try.f41, fun | 4 => [.canon [0, 3, 10]] | 5 => [.canon [0, 3]] | 6 => [.canon [0, 3, 28]] | 7 => [.canon [2]] | 100004 => [.canon [0, 3]] | _ => [], Zch, fun N => [(80, Zfn N), (81, Ze1 N)]⟩
def Zkh (l2 : List (Int × Int)) (i3 : Int) : St := ⟨[(0, vV (.slice (.prod (.int .i64) (.int .i64))) l2), (3, vI i3)], [], 0⟩
def Zi7 (l2 : List (Int × Int)) : St := ⟨[(2, vB false)], [], 0⟩
def Zi8 (l2 : List (Int × Int)) (i6 : Int) (t7 : Bool) : St := ⟨[(0, vV (.slice (.prod (.int .i64) (.int .i64))) l2), (3, vI i6), (10, vB t7)], [], 0⟩
theorem Zki (N : Nat) {R : Type} (K : Ex → St → Option R) {l2 : List (Int × Int)} {K0 : Option R} {K1 : Int → Bool → Option R} (h0 : K0 = K .ret (Zi7 l2)) (h1 : K1 = fun i6 t7 => K (.exit 0) (Zi8 l2 i6 t7)) (n : Nat) (i3 : Int) : Za6 N l2 K0 K1 n i3 = LM Zee N 0 100004 n (Zkh l2 i3) K := by
  subst h0 h1
  induction n generalizing i3 with
  | zero => kernel_rfl
  | succ n ih => rw [Za6]; simp (disch := exact id (by kernel_rfl)) only [ih]; kernel_rfl
theorem Zef : Callable Try.prog 41 := callable_of Try.func41 (show chkFn Try.f41 = true by kernel_rfl)
theorem Zn9 (N : Nat) (l1 : List (Int × Int)) : DN Zee N (l1, ()) = Zam N l1 := by
  have h : Zam N l1 = Zam N l1 := rfl
  conv at h => rhs; rw [Zam]
  simp (disch := exact id (by kernel_rfl)) only [Zki (R := Unit × (Bool × Unit)) N (CF Zee N [1, 1, 0, 1, 0])] at h
  exact Eq.trans (by kernel_rfl) h.symm
theorem Zeg (N : Nat) : Good Try.prog 41 (Zch N) := GF Zee N Try.func41 (ctx_cons (Zn8 N) Zn7 (ctx_cons (Zif N) Zie ctx_nil)) (by kernel_rfl) (fun d => Zn9 N d.1)
noncomputable def Zgf (N : Nat) : Sig := Sig.of [.v (.slice (.prod (.int .i64) (.int .i64))) false, .v (.int .i64) false] [.v (.int .i64) false, .v (.bool) false] (fun d => Zct N d.1 d.2.1)
noncomputable def Zfa : Fn := ⟨Try.f143, fun | 4 => [.canon [0, 1, 6, 14]] | 5 => [.canon [0, 1, 6]] | 6 => [.canon [0, 1, 6, 23]] | 7 => [.canon [4, 5]] | 100004 => [.canon [0, 1, 6]] | _ => [], Zgf, fun N => [(41, Zch N)]⟩
def Zl7 (l4 : List (Int × Int)) (cell5 : Int) (i6 : Int) : St := ⟨[(0, vV (.slice (.prod (.int .i64) (.int .i64))) l4), (1, vI cell5), (6, vI i6)], [], 0⟩
def Zlj (l4 : List (Int × Int)) (cell5 : Int) (t7 : Int) : St := ⟨[(4, vI t7), (5, vB true)], [], 0⟩
def Zlk (l4 : List (Int × Int)) (cell5 : Int) (i8 : Int) (t9 : Bool) : St := ⟨[(0, vV (.slice (.prod (.int .i64) (.int .i64))) l4), (1, vI cell5), (6, vI i8), (14, vB t9)], [], 0⟩
theorem Zl8 (N : Nat) {R : Type} (K : Ex → St → Option R) {l4 : List (Int × Int)} {cell5 : Int} {K0 : Int → Option R} {K1 : Int → Bool → Option R} (h0 : K0 = fun t7 => K .ret (Zlj l4 cell5 t7)) (h1 : K1 = fun i8 t9 => K (.exit 0) (Zlk l4 cell5 i8 t9)) (n : Nat) (i6 : Int) : Zcf N l4 cell5 K0 K1 n i6 = LM Zfa N 0 100004 n (Zl7 l4 cell5 i6) K := by
  subst h0 h1
  induction n generalizing i6 with
  | zero => kernel_rfl
  | succ n ih => rw [Zcf]; simp (disch := exact id (by kernel_rfl)) only [ih]; kernel_rfl
theorem Zpc : Callable Try.prog 143 := callable_of Try.func143 (show chkFn Try.f143 = true by kernel_rfl)
theorem Zpd (N : Nat) (l1 : List (Int × Int)) (cell2 : Int) : DN Zfa N (l1, cell2, ()) = Zct N l1 cell2 := by
  have h : Zct N l1 cell2 = Zct N l1 cell2 := rfl
  conv at h => rhs; rw [Zct]
  simp (disch := exact id (by kernel_rfl)) only [Zl8 (R := Unit × (Int × (Bool × Unit))) N (CF Zfa N [1, 1, 0, 1, 0])] at h
  exact Eq.trans (by kernel_rfl) h.symm
theorem Zpe (N : Nat) : Good Try.prog 143 (Zgf N) := GF Zfa N Try.func143 (ctx_cons (Zeg N) Zef ctx_nil) (by kernel_rfl) (fun d => Zpd N d.1 d.2.1)
noncomputable def Zgt (N : Nat) : Sig := Sig.of [.v (.slice (.prod (.int .i64) (.int .i64))) false] [.v (.own (.prod (.int .i64) (.int .i64))) false] (fun d => Zc2 N d.1)
noncomputable def Zfo : Fn := ⟨Try.f114, fun | 3 => [.canon [0, 3, 4, 9]] | 4 => [.canon [0, 3, 4]] | 5 => [.canon [0, 3, 4, 5, 6]] | 6 => [.canon [0, 3, 4, 5, 18]] | 7 => [.canon [0, 3, 4]] | 100003 => [.canon [0, 3, 4]] | _ => [], Zgt, fun N => [(143, Zgf N)]⟩
def Zms (l2 : List (Int × Int)) (i3 : Int) (l4 : List (Int × Int)) : St := ⟨[(0, vV (.slice (.prod (.int .i64) (.int .i64))) l2), (3, vO 0), (4, vI i3)], [(0, .arr (.prod (.int .i64) (.int .i64)) l4)], 1⟩
def Zl9 (l2 : List (Int × Int)) (i6 : Int) (t7 : Bool) (l8 : List (Int × Int)) : St := ⟨[(0, vV (.slice (.prod (.int .i64) (.int .i64))) l2), (3, vO 0), (4, vI i6), (9, vB t7)], [(0, .arr (.prod (.int .i64) (.int .i64)) l8)], 1⟩
theorem Zmt (N : Nat) {R : Type} (K : Ex → St → Option R) {l2 : List (Int × Int)} {K0 : Int → Bool → (List (Int × Int)) → Option R} (h0 : K0 = fun i6 t7 l8 => K (.exit 0) (Zl9 l2 i6 t7 l8)) (n : Nat) (i3 : Int) (l4 : List (Int × Int)) : Zbx N l2 K0 n i3 l4 = LM Zfo N 0 100003 n (Zms l2 i3 l4) K := by
  subst h0
  induction n generalizing i3 l4 with
  | zero => kernel_rfl
  | succ n ih => rw [Zbx]; simp (disch := exact id (by kernel_rfl)) only [ih]; kernel_rfl
theorem Zpi : Callable Try.prog 114 := callable_of Try.func114 (show chkFn Try.f114 = true by kernel_rfl)
theorem Zpj (N : Nat) (l1 : List (Int × Int)) : DN Zfo N (l1, ()) = Zc2 N l1 := by
  have h : Zc2 N l1 = Zc2 N l1 := rfl
  conv at h => rhs; rw [Zc2]
  simp (disch := exact id (by kernel_rfl)) only [Zmt (R := Unit × ((List (Int × Int)) × Unit)) N (CF Zfo N [1, 1, 0, 1, 0])] at h
  exact Eq.trans (by kernel_rfl) h.symm
theorem Zpk (N : Nat) : Good Try.prog 114 (Zgt N) := GF Zfo N Try.func114 (ctx_cons (Zpe N) Zpc ctx_nil) (by kernel_rfl) (fun d => Zpj N d.1)
noncomputable def Zdg (N : Nat) : Sig := Sig.of [.box (.prod (.slice (.int .u8)) (.prod (.int .i64) (.int .i64))), .v (.int .i64) false] [.v (.prod (.int .i64) (.prod (.int .i64) (.own (.prod (.int .i64) (.int .i64))))) true] (fun d => Zc3 N d.1 d.2.1)
noncomputable def Zma : Fn := ⟨Try.f75, noAnn, Zdg, fun N => [(47, Zq N), (115, Zec N), (114, Zgt N)]⟩
theorem Zgh : Callable Try.prog 75 := callable_of Try.func75 (show chkFn Try.f75 = true by kernel_rfl)
theorem Zgi (N : Nat) : Good Try.prog 75 (Zdg N) := GF Zma N Try.func75 (ctx_cons (Zu N) Zt (ctx_cons (Zhn N) Zhm (ctx_cons (Zpk N) Zpi ctx_nil))) (by kernel_rfl) (fun d => by kernel_rfl)
noncomputable def Zdl (N : Nat) : Sig := Sig.of [.v (.int .i64) false] [.v (.str) false] (fun d => Zw N d.1)
noncomputable def Zfp : Fn := ⟨Try.f78, fun | 4 => [.canon [0, 3, 9]] | 5 => [.canon [0, 3]] | 6 => [.canon [0, 3]] | 100004 => [.canon [0, 3]] | _ => [], Zdl, fun N => [(40, Zbu N)]⟩
def Zmu (n3 : Int) (l4 : List Int) : St := ⟨[(0, vI n3), (3, vO 0)], [(0, .arr (.int .u8) l4)], 1⟩
def Zmb (n5 : Int) (t6 : Bool) (l7 : List Int) : St := ⟨[(0, vI n5), (3, vO 0), (9, vB t6)], [(0, .arr (.int .u8) l7)], 1⟩
theorem Zmv (N : Nat) {R : Type} (K : Ex → St → Option R) {K0 : Int → Bool → (List Int) → Option R} (h0 : K0 = fun n5 t6 l7 => K (.exit 0) (Zmb n5 t6 l7)) (n : Nat) (n3 : Int) (l4 : List Int) : Zbh N K0 n n3 l4 = LM Zfp N 0 100004 n (Zmu n3 l4) K := by
  subst h0
  induction n generalizing n3 l4 with
  | zero => kernel_rfl
  | succ n ih => rw [Zbh]; simp (disch := exact id (by kernel_rfl)) only [ih]; kernel_rfl
theorem Zfq : Callable Try.prog 78 := callable_of Try.func78 (show chkFn Try.f78 = true by kernel_rfl)
theorem Zpl (N : Nat) (n1 : Int) : DN Zfp N (n1, ()) = Zw N n1 := by
  have h : Zw N n1 = Zw N n1 := rfl
  conv at h => rhs; rw [Zw]
  simp (disch := exact id (by kernel_rfl)) only [Zmv (R := Unit × ((List UInt8) × Unit)) N (CF Zfp N [1, 1, 1, 0, 0])] at h
  exact Eq.trans (by kernel_rfl) h.symm
theorem Zfr (N : Nat) : Good Try.prog 78 (Zdl N) := GF Zfp N Try.func78 (ctx_cons (Zc0 N) Zcz ctx_nil) (by kernel_rfl) (fun d => Zpl N d.1)
noncomputable def Zgu (N : Nat) : Sig := Sig.of [.v (.str) false] [.v (.int .i64) false] (fun d => Zc4 N d.1)
noncomputable def Zdm : Fn := ⟨Try.f112, fun | 3 => [.canon [0, 3, 4, 10]] | 4 => [.canon [0, 3, 4]] | 5 => [.canon [0, 3, 4]] | 6 => [.canon [0, 3, 4, 5]] | 7 => [.canon [0, 3, 4, 5, 20]] | 8 => [.canon [0, 3, 4, 5]] | 9 => [.canon [0, 3, 4, 5, 6]] | 10 => [.canon [0, 3, 4, 5, 6]] | 11 => [.canon [0, 3, 4, 5, 28]] | 12 => [.canon [0, 3, 4, 5]] | 100003 => [.canon [0, 3, 4]] | 100007 => [.canon [0, 3, 4, 5]] | _ => [], Zgu, noCtx⟩
def Zmw (s5 : List UInt8) (c6 : Int) (i7 : Int) (k8 : Int) : St := ⟨[(0, vV (.str) s5), (3, vI c6), (4, vI i7), (5, vI k8)], [], 0⟩
def Zmc (s5 : List UInt8) (i7 : Int) (c9 : Int) (k10 : Int) (t11 : Bool) : St := ⟨[(0, vV (.str) s5), (3, vI c9), (4, vI i7), (5, vI k10), (20, vB t11)], [], 0⟩
theorem Zmx (N : Nat) {R : Type} (K : Ex → St → Option R) {s5 : List UInt8} {i7 : Int} {K0 : Int → Int → Bool → Option R} (h0 : K0 = fun c9 k10 t11 => K (.exit 2) (Zmc s5 i7 c9 k10 t11)) (n : Nat) (c6 : Int) (k8 : Int) : Za0 N s5 i7 K0 n c6 k8 = LM Zdm N 1 100007 n (Zmw s5 c6 i7 k8) K := by
  subst h0
  induction n generalizing c6 k8 with
  | zero => kernel_rfl
  | succ n ih => rw [Za0]; simp (disch := exact id (by kernel_rfl)) only [ih]; kernel_rfl
def Zmy (s2 : List UInt8) (c3 : Int) (i4 : Int) : St := ⟨[(0, vV (.str) s2), (3, vI c3), (4, vI i4)], [], 0⟩
def Zmd (s2 : List UInt8) (c15 : Int) (i16 : Int) (t17 : Bool) : St := ⟨[(0, vV (.str) s2), (3, vI c15), (4, vI i16), (10, vB t17)], [], 0⟩
theorem Zmz (N : Nat) {R : Type} (K : Ex → St → Option R) {s2 : List UInt8} {K0 : Int → Int → Bool → Option R} (h0 : K0 = fun c15 i16 t17 => K (.exit 0) (Zmd s2 c15 i16 t17)) (n : Nat) (c3 : Int) (i4 : Int) : Zby N s2 K0 n c3 i4 = LM Zdm N 0 100003 n (Zmy s2 c3 i4) K := by
  subst h0
  induction n generalizing c3 i4 with
  | zero => kernel_rfl
  | succ n ih => rw [Zby]; simp (disch := exact id (by kernel_rfl)) only [ih, Zmx N (CL Zdm N 0 100003 [1, 0, 0, 1, 1, 0] n K)]; kernel_rfl
theorem Zpm : Callable Try.prog 112 := callable_of Try.func112 (show chkFn Try.f112 = true by kernel_rfl)
theorem Zpn (N : Nat) (s1 : List UInt8) : DN Zdm N (s1, ()) = Zc4 N s1 := by
  have h : Zc4 N s1 = Zc4 N s1 := rfl
  conv at h => rhs; rw [Zc4]
  simp (disch := exact id (by kernel_rfl)) only [Zmz (R := Unit × (Int × Unit)) N (CF Zdm N [1, 1, 0, 1, 0])] at h
  exact Eq.trans (by kernel_rfl) h.symm
theorem Zpo (N : Nat) : Good Try.prog 112 (Zgu N) := GF Zdm N Try.func112 ctx_nil (by kernel_rfl) (fun d => Zpn N d.1)
noncomputable def Zf3 (N : Nat) : Sig := Sig.of [.v (.int .i64) false, .v (.int .i64) false] [.v (.str) false] (fun d => Zb8 N d.1 d.2.1)
noncomputable def Ze2 : Fn := ⟨Try.f111, fun | 5 => [.canon [0, 1, 5, 6, 16]] | 6 => [.canon [0, 1, 5, 6]] | 7 => [.canon [0, 1, 5, 6]] | 8 => [.canon [0, 1, 5, 6]] | 100005 => [.canon [0, 1, 5, 6]] | _ => [], Zf3, fun N => [(40, Zbu N)]⟩
def Zll (n4 : Int) (width5 : Int) (out6 : List UInt8) (i7 : Int) : St := ⟨[(0, vI n4), (1, vI width5), (5, vV (.str) out6), (6, vI i7)], [], 0⟩
def Zkj (width5 : Int) (n8 : Int) (out9 : List UInt8) (i10 : Int) (t11 : Bool) : St := ⟨[(0, vI n8), (1, vI width5), (5, vV (.str) out9), (6, vI i10), (16, vB t11)], [], 0⟩
theorem Zlm (N : Nat) {R : Type} (K : Ex → St → Option R) {width5 : Int} {K0 : Int → (List UInt8) → Int → Bool → Option R} (h0 : K0 = fun n8 out9 i10 t11 => K (.exit 0) (Zkj width5 n8 out9 i10 t11)) (n : Nat) (n4 : Int) (out6 : List UInt8) (i7 : Int) : Zcv N width5 K0 n n4 out6 i7 = LM Ze2 N 0 100005 n (Zll n4 width5 out6 i7) K := by
  subst h0
  induction n generalizing n4 out6 i7 with
  | zero => kernel_rfl
  | succ n ih => rw [Zcv]; simp (disch := exact id (by kernel_rfl)) only [ih]; kernel_rfl
theorem Zot : Callable Try.prog 111 := callable_of Try.func111 (show chkFn Try.f111 = true by kernel_rfl)
theorem Zou (N : Nat) (n1 : Int) (width2 : Int) : DN Ze2 N (n1, width2, ()) = Zb8 N n1 width2 := by
  have h : Zb8 N n1 width2 = Zb8 N n1 width2 := rfl
  conv at h => rhs; rw [Zb8]
  simp (disch := exact id (by kernel_rfl)) only [Zlm (R := Unit × ((List UInt8) × Unit)) N (CF Ze2 N [1, 1, 1, 0, 1, 0])] at h
  exact Eq.trans (by kernel_rfl) h.symm
theorem Zov (N : Nat) : Good Try.prog 111 (Zf3 N) := GF Ze2 N Try.func111 (ctx_cons (Zc0 N) Zcz ctx_nil) (by kernel_rfl) (fun d => Zou N d.1 d.2.1)
noncomputable def Zdn (N : Nat) : Sig := Sig.of [.v (.str) false] [.v (.str) false] (fun d => Zbc N d.1)
noncomputable def Zow : Fn := ⟨Try.f73, noAnn, Zdn, fun N => [(78, Zdl N), (112, Zgu N), (111, Zf3 N)]⟩
theorem Zf4 : Callable Try.prog 73 := callable_of Try.func73 (show chkFn Try.f73 = true by kernel_rfl)
theorem Zf5 (N : Nat) : Good Try.prog 73 (Zdn N) := GF Zow N Try.func73 (ctx_cons (Zfr N) Zfq (ctx_cons (Zpo N) Zpm (ctx_cons (Zov N) Zot ctx_nil))) (by kernel_rfl) (fun d => by kernel_rfl)
noncomputable def Zfb (N : Nat) : Sig := Sig.of [.v (.str) false] [.v (.str) false, .v (.int .i64) false] (fun d => Zbz N d.1)
noncomputable def Zdr : Fn := ⟨Try.f37, fun | 2 => [.canon [0, 4, 8]] | 3 => [.canon [0, 4]] | 4 => [.canon [0, 4, 5]] | 5 => [.canon [0, 4, 5, 29]] | 6 => [.canon [0, 4, 5, 6]] | 7 => [.canon [0, 4, 5, 6, 46]] | 8 => [.canon [2, 3]] | 100002 => [.canon [0, 4]] | _ => [], Zfb, fun N => [(78, Zdl N), (73, Zdn N)]⟩
def Zi9 (s2 : List UInt8) (n3 : Int) : St := ⟨[(0, vV (.str) s2), (4, vI n3)], [], 0⟩
def Zig (s2 : List UInt8) (t11 : List UInt8) (t12 : Int) : St := ⟨[(2, vV (.str) t11), (3, vI t12)], [], 0⟩
def Zih (s2 : List UInt8) (n13 : Int) (t14 : Bool) : St := ⟨[(0, vV (.str) s2), (4, vI n13), (8, vB t14)], [], 0⟩
theorem Zja (N : Nat) {R : Type} (K : Ex → St → Option R) {s2 : List UInt8} {K0 : (List UInt8) → Int → Option R} {K1 : Int → Bool → Option R} (h0 : K0 = fun t11 t12 => K .ret (Zig s2 t11 t12)) (h1 : K1 = fun n13 t14 => K (.exit 0) (Zih s2 n13 t14)) (n : Nat) (n3 : Int) : Zr N s2 K0 K1 n n3 = LM Zdr N 0 100002 n (Zi9 s2 n3) K := by
  subst h0 h1
  induction n generalizing n3 with
  | zero => kernel_rfl
  | succ n ih => rw [Zr]; simp (disch := exact id (by kernel_rfl)) only [ih]; kernel_rfl
theorem Zm0 : Callable Try.prog 37 := callable_of Try.func37 (show chkFn Try.f37 = true by kernel_rfl)
theorem Zm1 (N : Nat) (s1 : List UInt8) : DN Zdr N (s1, ()) = Zbz N s1 := by
  have h : Zbz N s1 = Zbz N s1 := rfl
  conv at h => rhs; rw [Zbz]
  simp (disch := exact id (by kernel_rfl)) only [Zja (R := Unit × ((List UInt8) × (Int × Unit))) N (CF Zdr N [1, 0, 1, 0])] at h
  exact Eq.trans (by kernel_rfl) h.symm
theorem Zm2 (N : Nat) : Good Try.prog 37 (Zfb N) := GF Zdr N Try.func37 (ctx_cons (Zfr N) Zfq (ctx_cons (Zf5 N) Zf4 ctx_nil)) (by kernel_rfl) (fun d => Zm1 N d.1)
noncomputable def Zfc (N : Nat) : Sig := Sig.of [.v (.str) false] [.v (.int .i64) false, .v (.int .i64) false] (fun d => Zb0 N d.1)
noncomputable def Zb5 : Fn := ⟨Try.f116, fun | 2 => [.canon [0, 4, 14]] | 3 => [.canon [0, 4]] | 4 => [.canon [0, 4, 5]] | 5 => [.canon [0, 4, 5, 6]] | 6 => [.canon [0, 4, 5, 6, 20]] | 7 => [.canon [0, 4, 5, 6]] | 8 => [.canon [0, 4, 5, 6]] | 9 => [.canon [0, 4, 5, 36]] | 10 => [.canon [2, 3]] | 100002 => [.canon [0, 4]] | 100006 => [.canon [0, 4, 5, 6]] | _ => [], Zfc, fun N => [(78, Zdl N)]⟩
def Zjb (s4 : List UInt8) (k5 : Int) (n6 : Int) (i7 : Int) : St := ⟨[(0, vV (.str) s4), (4, vI k5), (5, vI n6), (6, vI i7)], [], 0⟩
def Zii (s4 : List UInt8) (k5 : Int) (n8 : Int) (i9 : Int) (t10 : Bool) : St := ⟨[(0, vV (.str) s4), (4, vI k5), (5, vI n8), (6, vI i9), (20, vB t10)], [], 0⟩
theorem Zjc (N : Nat) {R : Type} (K : Ex → St → Option R) {s4 : List UInt8} {k5 : Int} {K0 : Int → Int → Bool → Option R} (h0 : K0 = fun n8 i9 t10 => K (.exit 2) (Zii s4 k5 n8 i9 t10)) (n : Nat) (n6 : Int) (i7 : Int) : Zbi N s4 k5 K0 n n6 i7 = LM Zb5 N 1 100006 n (Zjb s4 k5 n6 i7) K := by
  subst h0
  induction n generalizing n6 i7 with
  | zero => kernel_rfl
  | succ n ih => rw [Zbi]; simp (disch := exact id (by kernel_rfl)) only [ih]; kernel_rfl
def Zjd (s2 : List UInt8) (k3 : Int) : St := ⟨[(0, vV (.str) s2), (4, vI k3)], [], 0⟩
def Zij (s2 : List UInt8) (t16 : Int) (t17 : Int) : St := ⟨[(2, vI t16), (3, vI t17)], [], 0⟩
def Zik (s2 : List UInt8) (k18 : Int) (t19 : Bool) : St := ⟨[(0, vV (.str) s2), (4, vI k18), (14, vB t19)], [], 0⟩
theorem Zje (N : Nat) {R : Type} (K : Ex → St → Option R) {s2 : List UInt8} {K0 : Int → Int → Option R} {K1 : Int → Bool → Option R} (h0 : K0 = fun t16 t17 => K .ret (Zij s2 t16 t17)) (h1 : K1 = fun k18 t19 => K (.exit 0) (Zik s2 k18 t19)) (n : Nat) (k3 : Int) : Z7 N s2 K0 K1 n k3 = LM Zb5 N 0 100002 n (Zjd s2 k3) K := by
  subst h0 h1
  induction n generalizing k3 with
  | zero => kernel_rfl
  | succ n ih => rw [Z7]; simp (disch := exact id (by kernel_rfl)) only [ih, Zjc N (CL Zb5 N 0 100002 [1, 0, 0, 1, 0, 1, 0] n K)]; kernel_rfl
theorem Zm3 : Callable Try.prog 116 := callable_of Try.func116 (show chkFn Try.f116 = true by kernel_rfl)
theorem Zm4 (N : Nat) (s1 : List UInt8) : DN Zb5 N (s1, ()) = Zb0 N s1 := by
  have h : Zb0 N s1 = Zb0 N s1 := rfl
  conv at h => rhs; rw [Zb0]
  simp (disch := exact id (by kernel_rfl)) only [Zje (R := Unit × (Int × (Int × Unit))) N (CF Zb5 N [1, 0, 1, 0])] at h
  exact Eq.trans (by kernel_rfl) h.symm
theorem Zm5 (N : Nat) : Good Try.prog 116 (Zfc N) := GF Zb5 N Try.func116 (ctx_cons (Zfr N) Zfq ctx_nil) (by kernel_rfl) (fun d => Zm4 N d.1)
noncomputable def Zfd (N : Nat) : Sig := Sig.of [.v (.str) false, .v (.int .i64) false, .v (.int .i64) false] [.v (.own (.int .i64)) false, .v (.int .i64) false] (fun d => Za1 N d.1 d.2.1 d.2.2.1)
noncomputable def Zds : Fn := ⟨Try.f79, fun | 3 => [.canon [0, 1, 2, 8, 9, 15]] | 4 => [.canon [0, 1, 2, 8, 9]] | 5 => [.canon [0, 1, 2, 8, 9, 10, 11]] | 6 => [.canon [0, 1, 2, 8, 9, 10, 11, 26]] | 7 => [.canon [6, 7]] | 8 => [.canon [0, 1, 2, 8, 9, 11]] | 9 => [.canon [0, 1, 2, 8, 9]] | 100003 => [.canon [0, 1, 2, 8, 9]] | _ => [], Zfd, fun N => [(116, Zfc N)]⟩
def Zjf (s4 : List UInt8) (at5 : Int) (n6 : Int) (i7 : Int) (l8 : List Int) : St := ⟨[(0, vV (.str) s4), (1, vI at5), (2, vI n6), (8, vO 0), (9, vI i7)], [(0, .arr (.int .i64) l8)], 1⟩
def Zil (s4 : List UInt8) (n6 : Int) : St := ⟨[(6, vO 0), (7, vI (-1 : Int))], [(0, .arr (.int .i64) (List.replicate (Int.toNat n6) (0 : Int)))], 1⟩
def Zim (s4 : List UInt8) (n6 : Int) (at10 : Int) (i11 : Int) (t12 : Bool) (l13 : List Int) : St := ⟨[(0, vV (.str) s4), (1, vI at10), (2, vI n6), (8, vO 0), (9, vI i11), (15, vB t12)], [(0, .arr (.int .i64) l13)], 1⟩
theorem Zjg (N : Nat) {R : Type} (K : Ex → St → Option R) {s4 : List UInt8} {n6 : Int} {K0 : Option R} {K1 : Int → Int → Bool → (List Int) → Option R} (h0 : K0 = K .ret (Zil s4 n6)) (h1 : K1 = fun at10 i11 t12 l13 => K (.exit 0) (Zim s4 n6 at10 i11 t12 l13)) (n : Nat) (at5 : Int) (i7 : Int) (l8 : List Int) : Zar N s4 n6 K0 K1 n at5 i7 l8 = LM Zds N 0 100003 n (Zjf s4 at5 n6 i7 l8) K := by
  subst h0 h1
  induction n generalizing at5 i7 l8 with
  | zero => kernel_rfl
  | succ n ih => rw [Zar]; simp (disch := exact id (by kernel_rfl)) only [ih]; kernel_rfl
theorem Zm6 : Callable Try.prog 79 := callable_of Try.func79 (show chkFn Try.f79 = true by kernel_rfl)
theorem Zm7 (N : Nat) (s1 : List UInt8) (at2 : Int) (n3 : Int) : DN Zds N (s1, at2, n3, ()) = Za1 N s1 at2 n3 := by
  have h : Za1 N s1 at2 n3 = Za1 N s1 at2 n3 := rfl
  conv at h => rhs; rw [Za1]
  simp (disch := exact id (by kernel_rfl)) only [Zjg (R := Unit × ((List Int) × (Int × Unit))) N (CF Zds N [1, 1, 0, 1, 0])] at h
  exact Eq.trans (by kernel_rfl) h.symm
theorem Zm8 (N : Nat) : Good Try.prog 79 (Zfd N) := GF Zds N Try.func79 (ctx_cons (Zm5 N) Zm3 ctx_nil) (by kernel_rfl) (fun d => Zm7 N d.1 d.2.1 d.2.2.1)
noncomputable def Zf6 (N : Nat) : Sig := Sig.of [.v (.prod (.int .i64) (.prod (.int .i64) (.slice (.prod (.int .i64) (.int .i64))))) true] [.v (.bool) false] (fun d => Zb9 N d.1)
noncomputable def Ze3 : Fn := ⟨Try.f113, fun | 4 => [.canon [1, 3, 24]] | 5 => [.canon [1, 3]] | 6 => [.canon [1, 3, 40]] | 7 => [.canon [2]] | 100004 => [.canon [1, 3]] | _ => [], Zf6, fun N => [(40, Zbu N), (41, Zch N)]⟩
def Zln (i5 : Int) (b6 : Int × Int × List (Int × Int)) : St := ⟨[(1, vP 0 0), (3, vI i5)], [(0, .box [.val (.int .i64) b6.1, .val (.int .i64) b6.2.1, .val (.slice (.prod (.int .i64) (.int .i64))) b6.2.2])], 1⟩
def Zkk (b6 : Int × Int × List (Int × Int)) : St := ⟨[(2, vB false)], [], 0⟩
def Zkl (b6 : Int × Int × List (Int × Int)) (i7 : Int) (t8 : Bool) : St := ⟨[(1, vP 0 0), (3, vI i7), (24, vB t8)], [(0, .box [.val (.int .i64) b6.1, .val (.int .i64) b6.2.1, .val (.slice (.prod (.int .i64) (.int .i64))) b6.2.2])], 1⟩
theorem Zlo (N : Nat) {R : Type} (K : Ex → St → Option R) {b6 : Int × Int × List (Int × Int)} {K0 : Option R} {K1 : Int → Bool → Option R} (h0 : K0 = K .ret (Zkk b6)) (h1 : K1 = fun i7 t8 => K (.exit 0) (Zkl b6 i7 t8)) (n : Nat) (i5 : Int) : Zb1 N b6 K0 K1 n i5 = LM Ze3 N 0 100004 n (Zln i5 b6) K := by
  subst h0 h1
  induction n generalizing i5 with
  | zero => kernel_rfl
  | succ n ih => rw [Zb1]; simp (disch := exact id (by kernel_rfl)) only [ih]; kernel_rfl
theorem Zox : Callable Try.prog 113 := callable_of Try.func113 (show chkFn Try.f113 = true by kernel_rfl)
theorem Zoy (N : Nat) (w1 : Int × Int × List (Int × Int)) : DN Ze3 N (w1, ()) = Zb9 N w1 := by
  have h : Zb9 N w1 = Zb9 N w1 := rfl
  conv at h => rhs; rw [Zb9]
  simp (disch := exact id (by kernel_rfl)) only [Zlo (R := Unit × (Bool × Unit)) N (CF Ze3 N [1, 1, 0, 1, 0])] at h
  exact Eq.trans (by kernel_rfl) h.symm
theorem Zoz (N : Nat) : Good Try.prog 113 (Zf6 N) := GF Ze3 N Try.func113 (ctx_cons (Zc0 N) Zcz (ctx_cons (Zeg N) Zef ctx_nil)) (by kernel_rfl) (fun d => Zoy N d.1)
noncomputable def Zce (N : Nat) : Sig := Sig.of [.v (.prod (.int .i64) (.prod (.int .i64) (.slice (.prod (.int .i64) (.int .i64))))) true] [.v (.str) false] (fun d => Zz N d.1)
noncomputable def Zc7 : Fn := ⟨Try.f74, fun | 5 => [.canon [1, 3, 4, 24]] | 6 => [.canon [1, 3, 4]] | 7 => [.canon [1, 3, 4]] | 100005 => [.canon [1, 3, 4]] | _ => [], Zce, fun N => [(113, Zf6 N), (78, Zdl N)]⟩
def Zhu (s6 : List UInt8) (i7 : Int) (b8 : Int × Int × List (Int × Int)) : St := ⟨[(1, vP 0 0), (3, vV (.str) s6), (4, vI i7)], [(0, .box [.val (.int .i64) b8.1, .val (.int .i64) b8.2.1, .val (.slice (.prod (.int .i64) (.int .i64))) b8.2.2])], 1⟩
def Zha (b8 : Int × Int × List (Int × Int)) (s11 : List UInt8) (i12 : Int) (t13 : Bool) : St := ⟨[(1, vP 0 0), (3, vV (.str) s11), (4, vI i12), (24, vB t13)], [(0, .box [.val (.int .i64) b8.1, .val (.int .i64) b8.2.1, .val (.slice (.prod (.int .i64) (.int .i64))) b8.2.2])], 1⟩
theorem Zhv (N : Nat) {R : Type} (K : Ex → St → Option R) {b8 : Int × Int × List (Int × Int)} {K0 : (List UInt8) → Int → Bool → Option R} (h0 : K0 = fun s11 i12 t13 => K (.exit 0) (Zha b8 s11 i12 t13)) (n : Nat) (s6 : List UInt8) (i7 : Int) : Zag N b8 K0 n s6 i7 = LM Zc7 N 0 100005 n (Zhu s6 i7 b8) K := by
  subst h0
  induction n generalizing s6 i7 with
  | zero => kernel_rfl
  | succ n ih => rw [Zag]; simp (disch := exact id (by kernel_rfl)) only [ih]; kernel_rfl
theorem Zeq : Callable Try.prog 74 := callable_of Try.func74 (show chkFn Try.f74 = true by kernel_rfl)
theorem Zlp (N : Nat) (w1 : Int × Int × List (Int × Int)) : DN Zc7 N (w1, ()) = Zz N w1 := by
  have h : Zz N w1 = Zz N w1 := rfl
  conv at h => rhs; rw [Zz]
  simp (disch := exact id (by kernel_rfl)) only [Zhv (R := Unit × ((List UInt8) × Unit)) N (CF Zc7 N [1, 1, 1, 0, 1, 0])] at h
  exact Eq.trans (by kernel_rfl) h.symm
theorem Zer (N : Nat) : Good Try.prog 74 (Zce N) := GF Zc7 N Try.func74 (ctx_cons (Zoz N) Zox (ctx_cons (Zfr N) Zfq ctx_nil)) (by kernel_rfl) (fun d => Zlp N d.1)
noncomputable def Zes (N : Nat) : Sig := Sig.of [.v (.str) false] [.v (.prod (.int .i64) (.prod (.int .i64) (.own (.prod (.int .i64) (.int .i64))))) true, .v (.bool) false] (fun d => Zas N d.1)
noncomputable def Zc8 : Fn := ⟨Try.f38, fun | 6 => [.canon [0, 2, 4, 5, 6, 7, 35]] | 7 => [.canon [0, 2, 4, 5, 6, 7]] | 8 => [.canon [0, 2, 4, 6, 7, 8, 9]] | 9 => [.canon [0, 2, 4, 6, 7, 8, 9, 45]] | 10 => [.canon [2, 3]] | 11 => [.canon [0, 2, 4, 6, 7, 9]] | 12 => [.canon [0, 2, 4, 5, 6, 7]] | 100006 => [.adoptC 6 2 (.prod (.int .i64) (.int .i64)), .canon [0, 2, 4, 5, 6, 7]] | _ => [], Zes, fun N => [(79, Zfd N), (74, Zce N)]⟩
def Zhw (s3 : List UInt8) (at4 : Int) (i5 : Int) (l8 : List Int) (b9 : Int) (b10 : Int) (l11 : List (Int × Int)) : St := ⟨[(0, vV (.str) s3), (2, vP 0 0), (4, vO 1), (5, vI at4), (6, vP 2 0), (7, vI i5)], [(0, .box [.val (.int .i64) (0 : Int), .val (.int .i64) (0 : Int), .nils]), (1, .arr (.int .i64) l8), (2, .box [.val (.int .i64) b9, .val (.int .i64) b10, .own 3]), (3, .arr (.prod (.int .i64) (.int .i64)) l11)], 4⟩
def Zhb (s3 : List UInt8) (l8 : List Int) (b9 : Int) (b10 : Int) : St := ⟨[(2, vP 0 0), (3, vB false)], [(0, .box [.val (.int .i64) (0 : Int), .val (.int .i64) (0 : Int), .nils])], 1⟩
def Zhc (s3 : List UInt8) (l8 : List Int) (b9 : Int) (b10 : Int) (at14 : Int) (i15 : Int) (t16 : Bool) (l17 : List (Int × Int)) : St := ⟨[(0, vV (.str) s3), (2, vP 0 0), (4, vO 1), (5, vI at14), (6, vP 2 0), (7, vI i15), (35, vB t16)], [(0, .box [.val (.int .i64) (0 : Int), .val (.int .i64) (0 : Int), .nils]), (1, .arr (.int .i64) l8), (2, .box [.val (.int .i64) b9, .val (.int .i64) b10, .own 3]), (3, .arr (.prod (.int .i64) (.int .i64)) l17)], 4⟩
theorem Zhx (N : Nat) {R : Type} (K : Ex → St → Option R) {s3 : List UInt8} {l8 : List Int} {b9 : Int} {b10 : Int} {K0 : Option R} {K1 : Int → Int → Bool → (List (Int × Int)) → Option R} (h0 : K0 = K .ret (Zhb s3 l8 b9 b10)) (h1 : K1 = fun at14 i15 t16 l17 => K (.exit 0) (Zhc s3 l8 b9 b10 at14 i15 t16 l17)) (n : Nat) (at4 : Int) (i5 : Int) (l11 : List (Int × Int)) : Zah N s3 l8 b9 b10 K0 K1 n at4 i5 l11 = LM Zc8 N 0 100006 n (Zhw s3 at4 i5 l8 b9 b10 l11) K := by
  subst h0 h1
  induction n generalizing at4 i5 l11 with
  | zero => kernel_rfl
  | succ n ih => rw [Zah]; simp (disch := exact id (by kernel_rfl)) only [ih]; kernel_rfl
theorem Zlq : Callable Try.prog 38 := callable_of Try.func38 (show chkFn Try.f38 = true by kernel_rfl)
theorem Zlr (N : Nat) (s1 : List UInt8) : DN Zc8 N (s1, ()) = Zas N s1 := by
  have h : Zas N s1 = Zas N s1 := rfl
  conv at h => rhs; rw [Zas]
  simp (disch := exact id (by kernel_rfl)) only [Zhx (R := Unit × ((Int × Int × List (Int × Int)) × (Bool × Unit))) N (CF Zc8 N [1, 1, 1, 1, 0, 1, 0])] at h
  exact Eq.trans (by kernel_rfl) h.symm
theorem Zls (N : Nat) : Good Try.prog 38 (Zes N) := GF Zc8 N Try.func38 (ctx_cons (Zm8 N) Zm6 (ctx_cons (Zer N) Zeq ctx_nil)) (by kernel_rfl) (fun d => Zlr N d.1)
noncomputable def Zcq (N : Nat) : Sig := Sig.of [.v (.str) false] [.v (.own (.prod (.int .i64) (.prod (.int .i64) (.slice (.prod (.int .i64) (.int .i64)))))) false, .v (.int .i64) false] (fun d => Zac N d.1)
noncomputable def Zcr : Fn := ⟨Try.f9, fun | 3 => [.canon [0, 4, 5, 13]] | 4 => [.canon [0, 4, 5, 6, 7]] | 5 => [.canon [0, 4, 5, 7, 8, 9]] | 6 => [.canon [0, 4, 5, 7, 8, 48]] | 7 => [.canon [0, 4, 5, 7]] | 8 => [.canon [0, 4, 5]] | 100003 => [.canon [0, 4, 5]] | _ => [], Zcq, fun N => [(37, Zfb N), (38, Zes N)]⟩
def Zgv (log2 : List UInt8) (at3 : Int) (l4 : List (Int × Int × List (Int × Int))) : St := ⟨[(0, vV (.str) log2), (4, vO 0), (5, vI at3)], [(0, .arr (.prod (.int .i64) (.prod (.int .i64) (.slice (.prod (.int .i64) (.int .i64))))) l4)], 1⟩
def Zgl (log2 : List UInt8) (at7 : Int) (n8 : Int) (t9 : Bool) (l10 : List (Int × Int × List (Int × Int))) (b11 : Int) (b12 : Int) (l13 : List (Int × Int)) : St := ⟨[(0, vV (.str) log2), (4, vO 0), (5, vI at7), (7, vI n8), (8, vP 1 0), (48, vB t9)], [(0, .arr (.prod (.int .i64) (.prod (.int .i64) (.slice (.prod (.int .i64) (.int .i64))))) l10), (1, .box [.val (.int .i64) b11, .val (.int .i64) b12, .own 2]), (2, .arr (.prod (.int .i64) (.int .i64)) l13)], 3⟩
def Zgm (log2 : List UInt8) (at14 : Int) (t15 : Bool) (l16 : List (Int × Int × List (Int × Int))) : St := ⟨[(0, vV (.str) log2), (4, vO 0), (5, vI at14), (13, vB t15)], [(0, .arr (.prod (.int .i64) (.prod (.int .i64) (.slice (.prod (.int .i64) (.int .i64))))) l16)], 1⟩
theorem Zgw (N : Nat) {R : Type} (K : Ex → St → Option R) {log2 : List UInt8} {K0 : Int → Int → Bool → (List (Int × Int × List (Int × Int))) → Int → Int → (List (Int × Int)) → Option R} {K1 : Int → Bool → (List (Int × Int × List (Int × Int))) → Option R} (h0 : K0 = fun at7 n8 t9 l10 b11 b12 l13 => K (.exit 0) (Zgl log2 at7 n8 t9 l10 b11 b12 l13)) (h1 : K1 = fun at14 t15 l16 => K (.exit 0) (Zgm log2 at14 t15 l16)) (n : Nat) (at3 : Int) (l4 : List (Int × Int × List (Int × Int))) : Zv N log2 K0 K1 n at3 l4 = LM Zcr N 0 100003 n (Zgv log2 at3 l4) K := by
  subst h0 h1
  induction n generalizing at3 l4 with
  | zero => kernel_rfl
  | succ n ih => rw [Zv]; simp (disch := exact id (by kernel_rfl)) only [ih]; kernel_rfl
theorem Zfs : Callable Try.prog 9 := callable_of Try.func9 (show chkFn Try.f9 = true by kernel_rfl)
theorem Zjh (N : Nat) (log1 : List UInt8) : DN Zcr N (log1, ()) = Zac N log1 := by
  have h : Zac N log1 = Zac N log1 := rfl
  conv at h => rhs; rw [Zac]
  simp (disch := exact id (by kernel_rfl)) only [Zgw (R := Unit × ((List (Int × Int × List (Int × Int))) × (Int × Unit))) N (CF Zcr N [1, 1, 1, 0, 0])] at h
  exact Eq.trans (by kernel_rfl) h.symm
theorem Zft (N : Nat) : Good Try.prog 9 (Zcq N) := GF Zcr N Try.func9 (ctx_cons (Zm2 N) Zm0 (ctx_cons (Zls N) Zlq ctx_nil)) (by kernel_rfl) (fun d => Zjh N d.1)
noncomputable def Zd6 (N : Nat) : Sig := Sig.of [.v (.str) false, .v (.prod (.int .i64) (.prod (.int .i64) (.slice (.prod (.int .i64) (.int .i64))))) true] [.v (.str) false, .v (.bool) false] (fun d => Zdf N d.1 d.2.1)
noncomputable def Zkm : Fn := ⟨Try.f110, noAnn, Zd6, fun N => [(9, Zcq N), (74, Zce N), (73, Zdn N)]⟩
theorem Zkn : Callable Try.prog 110 := callable_of Try.func110 (show chkFn Try.f110 = true by kernel_rfl)
theorem Zko (N : Nat) : Good Try.prog 110 (Zd6 N) := GF Zkm N Try.func110 (ctx_cons (Zft N) Zfs (ctx_cons (Zer N) Zeq (ctx_cons (Zf5 N) Zf4 ctx_nil))) (by kernel_rfl) (fun d => by kernel_rfl)
noncomputable def Zfu (N : Nat) : Sig := Sig.of [.box (.prod (.slice (.int .u8)) (.prod (.int .i64) (.int .i64)))] [.v (.str) false] (fun d => Zbs N d.1)
noncomputable def Zeh : Fn := ⟨Try.f70, fun | 4 => [.canon [0, 3, 4, 5, 11]] | 5 => [.canon [0, 3, 4, 5]] | 6 => [.canon [0, 3, 4, 5]] | 7 => [.canon [0, 4, 5, 6]] | 8 => [.canon [0, 3, 4, 5]] | 100004 => [.canon [0, 3, 4, 5]] | _ => [], Zfu, fun N => [(47, Zq N), (75, Zdg N), (110, Zd6 N)]⟩
def Zkp (log3 : List UInt8) (at4 : Int) (n5 : Int) (b6 : List Int × Int × Int) : St := ⟨[(0, vP 0 0), (3, vV (.str) log3), (4, vI at4), (5, vI n5)], [(0, .box [.val (.slice (.int .u8)) b6.1, .val (.int .i64) b6.2.1, .val (.int .i64) b6.2.2])], 1⟩
def Zji (log10 : List UInt8) (at11 : Int) (n12 : Int) (t13 : Bool) (b14 : List Int × Int × Int) : St := ⟨[(0, vP 0 0), (3, vV (.str) log10), (4, vI at11), (5, vI n12), (11, vB t13)], [(0, .box [.val (.slice (.int .u8)) b14.1, .val (.int .i64) b14.2.1, .val (.int .i64) b14.2.2])], 1⟩
theorem Zkq (N : Nat) {R : Type} (K : Ex → St → Option R) {K0 : (List UInt8) → Int → Int → Bool → (List Int × Int × Int) → Option R} (h0 : K0 = fun log10 at11 n12 t13 b14 => K (.exit 0) (Zji log10 at11 n12 t13 b14)) (n : Nat) (log3 : List UInt8) (at4 : Int) (n5 : Int) (b6 : List Int × Int × Int) : Zbp N K0 n log3 at4 n5 b6 = LM Zeh N 0 100004 n (Zkp log3 at4 n5 b6) K := by
  subst h0
  induction n generalizing log3 at4 n5 b6 with
  | zero => kernel_rfl
  | succ n ih => rw [Zbp]; simp (disch := exact id (by kernel_rfl)) only [ih]; kernel_rfl
theorem Zoa : Callable Try.prog 70 := callable_of Try.func70 (show chkFn Try.f70 = true by kernel_rfl)
theorem Zob (N : Nat) (c1 : List Int × Int × Int) : DN Zeh N (c1, ()) = Zbs N c1 := by
  have h : Zbs N c1 = Zbs N c1 := rfl
  conv at h => rhs; rw [Zbs]
  simp (disch := exact id (by kernel_rfl)) only [Zkq (R := ((List Int × Int × Int) × Unit) × ((List UInt8) × Unit)) N (CF Zeh N [1, 1, 1, 0, 1, 0])] at h
  exact Eq.trans (by kernel_rfl) h.symm
theorem Zoc (N : Nat) : Good Try.prog 70 (Zfu N) := GF Zeh N Try.func70 (ctx_cons (Zu N) Zt (ctx_cons (Zgi N) Zgh (ctx_cons (Zko N) Zkn ctx_nil))) (by kernel_rfl) (fun d => Zob N d.1)
noncomputable def Zei (N : Nat) : Sig := Sig.of [.box (.prod (.slice (.int .u8)) (.prod (.int .i64) (.int .i64))), .v (.int .i64) false] [.v (.str) false] (fun d => Zbg N d.1 d.2.1)
noncomputable def Zej : Fn := ⟨Try.f72, fun | 4 => [.canon [0, 5, 6, 7, 17]] | 5 => [.canon [0, 5, 6, 7]] | 6 => [.canon [0, 5, 6, 7, 8]] | 7 => [.canon [0, 5, 6, 7, 8, 23]] | 8 => [.canon [0, 5, 6, 7, 8]] | 9 => [.canon [0, 5, 6, 7, 8, 27]] | 10 => [.canon [0, 5, 6, 7, 8]] | 11 => [.canon [0, 5, 6, 7]] | 100004 => [.canon [0, 5, 6, 7]] | _ => [], Zei, fun N => [(47, Zq N), (90, Zc6 N)]⟩
def Zkr (style5 : Int) (n6 : Int) (b7 : List Int × Int × Int) (l8 : List Int) : St := ⟨[(0, vP 0 0), (5, vO 1), (6, vI style5), (7, vI n6)], [(0, .box [.val (.slice (.int .u8)) b7.1, .val (.int .i64) b7.2.1, .val (.int .i64) b7.2.2]), (1, .arr (.int .u8) l8)], 2⟩
def Zjj (style5 : Int) (n10 : Int) (t11 : Bool) (b12 : List Int × Int × Int) (l13 : List Int) : St := ⟨[(0, vP 0 0), (5, vO 1), (6, vI style5), (7, vI n10), (17, vB t11)], [(0, .box [.val (.slice (.int .u8)) b12.1, .val (.int .i64) b12.2.1, .val (.int .i64) b12.2.2]), (1, .arr (.int .u8) l13)], 2⟩
theorem Zks (N : Nat) {R : Type} (K : Ex → St → Option R) {style5 : Int} {K0 : Int → Bool → (List Int × Int × Int) → (List Int) → Option R} (h0 : K0 = fun n10 t11 b12 l13 => K (.exit 0) (Zjj style5 n10 t11 b12 l13)) (n : Nat) (n6 : Int) (b7 : List Int × Int × Int) (l8 : List Int) : Z4 N style5 K0 n n6 b7 l8 = LM Zej N 0 100004 n (Zkr style5 n6 b7 l8) K := by
  subst h0
  induction n generalizing n6 b7 l8 with
  | zero => kernel_rfl
  | succ n ih => rw [Z4]; simp (disch := exact id (by kernel_rfl)) only [ih]; kernel_rfl
theorem Zho : Callable Try.prog 72 := callable_of Try.func72 (show chkFn Try.f72 = true by kernel_rfl)
theorem Zod (N : Nat) (c1 : List Int × Int × Int) (most2 : Int) : DN Zej N (c1, most2, ()) = Zbg N c1 most2 := by
  have h : Zbg N c1 most2 = Zbg N c1 most2 := rfl
  conv at h => rhs; rw [Zbg]
  simp (disch := exact id (by kernel_rfl)) only [Zks (R := ((List Int × Int × Int) × Unit) × ((List UInt8) × Unit)) N (CF Zej N [1, 1, 1, 0, 1, 0])] at h
  exact Eq.trans (by kernel_rfl) h.symm
theorem Zhp (N : Nat) : Good Try.prog 72 (Zei N) := GF Zej N Try.func72 (ctx_cons (Zu N) Zt (ctx_cons (Zfm N) Zfl ctx_nil)) (by kernel_rfl) (fun d => Zod N d.1 d.2.1)
noncomputable def Zfe (N : Nat) : Sig := Sig.of [.box (.prod (.slice (.int .u8)) (.prod (.int .i64) (.int .i64))), .v (.str) false] [.v (.str) false] (fun d => Zew N d.1 d.2.1)
noncomputable def Zm9 : Fn := ⟨Try.f71, noAnn, Zfe, fun N => [(72, Zei N), (47, Zq N), (90, Zc6 N)]⟩
theorem Zna : Callable Try.prog 71 := callable_of Try.func71 (show chkFn Try.f71 = true by kernel_rfl)
theorem Znb (N : Nat) : Good Try.prog 71 (Zfe N) := GF Zm9 N Try.func71 (ctx_cons (Zhp N) Zho (ctx_cons (Zu N) Zt (ctx_cons (Zfm N) Zfl ctx_nil))) (by kernel_rfl) (fun d => by kernel_rfl)
noncomputable def Zet (N : Nat) : Sig := Sig.of [.box (.prod (.slice (.int .u8)) (.prod (.int .i64) (.int .i64)))] [.v (.str) false] (fun d => Zdq N d.1)
noncomputable def Zlt : Fn := ⟨Try.f34, noAnn, Zet, fun N => [(70, Zfu N), (47, Zq N), (71, Zfe N), (72, Zei N), (75, Zdg N), (74, Zce N), (73, Zdn N)]⟩
theorem Zlu : Callable Try.prog 34 := callable_of Try.func34 (show chkFn Try.f34 = true by kernel_rfl)
theorem Zlv (N : Nat) : Good Try.prog 34 (Zet N) := GF Zlt N Try.func34 (ctx_cons (Zoc N) Zoa (ctx_cons (Zu N) Zt (ctx_cons (Znb N) Zna (ctx_cons (Zhp N) Zho (ctx_cons (Zgi N) Zgh (ctx_cons (Zer N) Zeq (ctx_cons (Zf5 N) Zf4 ctx_nil))))))) (by kernel_rfl) (fun d => by kernel_rfl)
noncomputable def Zcx (N : Nat) : Sig := Sig.of [.v (.slice (.int .u8)) false] [.v (.str) false] (fun d => Zb7 N d.1)
noncomputable def Zgx : Fn := ⟨Try.f7, noAnn, Zcx, fun N => [(33, Zez N), (34, Zet N)]⟩
theorem Zgy : Callable Try.prog 7 := callable_of Try.func7 (show chkFn Try.f7 = true by kernel_rfl)
theorem Zgz (N : Nat) : Good Try.prog 7 (Zcx N) := GF Zgx N Try.func7 (ctx_cons (Zid N) Zic (ctx_cons (Zlv N) Zlu ctx_nil)) (by kernel_rfl) (fun d => by kernel_rfl)
noncomputable def Zbb (N : Nat) : Sig := Sig.of [.v (.int .i64) false, .v (.int .i64) false, .v (.int .i64) false] [.v (.bool) false] (fun d => Zy N d.1 d.2.1 d.2.2.1)
noncomputable def Zoe : Fn := ⟨Try.f82, noAnn, Zbb, noCtx⟩
theorem Zci : Callable Try.prog 82 := callable_of Try.func82 (show chkFn Try.f82 = true by kernel_rfl)
theorem Zcj (N : Nat) : Good Try.prog 82 (Zbb N) := GF Zoe N Try.func82 ctx_nil (by kernel_rfl) (fun d => by kernel_rfl)
noncomputable def Zeu (N : Nat) : Sig := Sig.of [.v (.int .i64) false] [.v (.str) false] (fun d => Zai N d.1)
noncomputable def Zfv : Fn := ⟨Try.f85, fun | 4 => [.canon [0, 3, 9]] | 5 => [.canon [0, 3]] | 6 => [.canon [0, 3]] | 100004 => [.canon [0, 3]] | _ => [], Zeu, fun N => [(82, Zbb N)]⟩
def Znc (n3 : Int) (l4 : List Int) : St := ⟨[(0, vI n3), (3, vO 0)], [(0, .arr (.int .u8) l4)], 1⟩
def Zme (n5 : Int) (t6 : Bool) (l7 : List Int) : St := ⟨[(0, vI n5), (3, vO 0), (9, vB t6)], [(0, .arr (.int .u8) l7)], 1⟩
theorem Znd (N : Nat) {R : Type} (K : Ex → St → Option R) {K0 : Int → Bool → (List Int) → Option R} (h0 : K0 = fun n5 t6 l7 => K (.exit 0) (Zme n5 t6 l7)) (n : Nat) (n3 : Int) (l4 : List Int) : Zbj N K0 n n3 l4 = LM Zfv N 0 100004 n (Znc n3 l4) K := by
  subst h0
  induction n generalizing n3 l4 with
  | zero => kernel_rfl
  | succ n ih => rw [Zbj]; simp (disch := exact id (by kernel_rfl)) only [ih]; kernel_rfl
theorem Zg0 : Callable Try.prog 85 := callable_of Try.func85 (show chkFn Try.f85 = true by kernel_rfl)
theorem Zpp (N : Nat) (n1 : Int) : DN Zfv N (n1, ()) = Zai N n1 := by
  have h : Zai N n1 = Zai N n1 := rfl
  conv at h => rhs; rw [Zai]
  simp (disch := exact id (by kernel_rfl)) only [Znd (R := Unit × ((List UInt8) × Unit)) N (CF Zfv N [1, 1, 1, 0, 0])] at h
  exact Eq.trans (by kernel_rfl) h.symm
theorem Zg1 (N : Nat) : Good Try.prog 85 (Zeu N) := GF Zfv N Try.func85 (ctx_cons (Zcj N) Zci ctx_nil) (by kernel_rfl) (fun d => Zpp N d.1)
noncomputable def Zdt (N : Nat) : Sig := Sig.of [.v (.str) false] [.v (.int .i64) false, .v (.int .i64) false] (fun d => Zbk N d.1)
noncomputable def Zdu : Fn := ⟨Try.f76, fun | 3 => [.canon [0, 4, 5, 13]] | 4 => [.canon [0, 4, 5]] | 5 => [.canon [0, 4, 5]] | 6 => [.canon [0, 4, 5, 29]] | 7 => [.canon [4, 5, 36]] | 8 => [.canon [2, 3]] | 9 => [.canon [2, 3]] | 100003 => [.canon [0, 4, 5]] | _ => [], Zdt, fun N => [(85, Zeu N)]⟩
def Zjk (s2 : List UInt8) (n3 : Int) (i4 : Int) : St := ⟨[(0, vV (.str) s2), (4, vI n3), (5, vI i4)], [], 0⟩
def Zin (s2 : List UInt8) (t7 : Int) (t8 : Int) : St := ⟨[(2, vI t7), (3, vI t8)], [], 0⟩
def Zio (s2 : List UInt8) (n9 : Int) (i10 : Int) (t11 : Bool) : St := ⟨[(0, vV (.str) s2), (4, vI n9), (5, vI i10), (13, vB t11)], [], 0⟩
theorem Zjl (N : Nat) {R : Type} (K : Ex → St → Option R) {s2 : List UInt8} {K0 : Int → Int → Option R} {K1 : Int → Int → Bool → Option R} (h0 : K0 = fun t7 t8 => K .ret (Zin s2 t7 t8)) (h1 : K1 = fun n9 i10 t11 => K (.exit 0) (Zio s2 n9 i10 t11)) (n : Nat) (n3 : Int) (i4 : Int) : Zat N s2 K0 K1 n n3 i4 = LM Zdu N 0 100003 n (Zjk s2 n3 i4) K := by
  subst h0 h1
  induction n generalizing n3 i4 with
  | zero => kernel_rfl
  | succ n ih => rw [Zat]; simp (disch := exact id (by kernel_rfl)) only [ih]; kernel_rfl
theorem Zg2 : Callable Try.prog 76 := callable_of Try.func76 (show chkFn Try.f76 = true by kernel_rfl)
theorem Zne (N : Nat) (s1 : List UInt8) : DN Zdu N (s1, ()) = Zbk N s1 := by
  have h : Zbk N s1 = Zbk N s1 := rfl
  conv at h => rhs; rw [Zbk]
  simp (disch := exact id (by kernel_rfl)) only [Zjl (R := Unit × (Int × (Int × Unit))) N (CF Zdu N [1, 1, 0, 1, 0])] at h
  exact Eq.trans (by kernel_rfl) h.symm
theorem Zg3 (N : Nat) : Good Try.prog 76 (Zdt N) := GF Zdu N Try.func76 (ctx_cons (Zg1 N) Zg0 ctx_nil) (by kernel_rfl) (fun d => Zne N d.1)
noncomputable def Zg4 (N : Nat) : Sig := Sig.of [.v (.str) false] [.v (.int .i64) false] (fun d => Zc5 N d.1)
noncomputable def Zdo : Fn := ⟨Try.f87, fun | 3 => [.canon [0, 3, 4, 9]] | 4 => [.canon [0, 3, 4]] | 5 => [.canon [0, 3, 4]] | 6 => [.canon [0, 3, 4, 18]] | 7 => [.canon [0, 3, 4, 18, 19]] | 8 => [.canon [0, 3, 4, 5, 18]] | 9 => [.canon [0, 3, 4, 5, 18]] | 10 => [.canon [0, 3, 4, 18, 25]] | 11 => [.canon [0, 3, 4, 18]] | 12 => [.canon [0, 3, 4, 18]] | 100003 => [.canon [0, 3, 4]] | 100007 => [.canon [0, 3, 4, 18]] | _ => [], Zg4, noCtx⟩
def Znf (s5 : List UInt8) (c6 : Int) (i7 : Int) (t8 : Int) : St := ⟨[(0, vV (.str) s5), (3, vI c6), (4, vI i7), (18, vI t8)], [], 0⟩
def Zmf (s5 : List UInt8) (i7 : Int) (c9 : Int) (t10 : Int) (t11 : Bool) : St := ⟨[(0, vV (.str) s5), (3, vI c9), (4, vI i7), (18, vI t10), (19, vB t11)], [], 0⟩
theorem Zng (N : Nat) {R : Type} (K : Ex → St → Option R) {s5 : List UInt8} {i7 : Int} {K0 : Int → Int → Bool → Option R} (h0 : K0 = fun c9 t10 t11 => K (.exit 2) (Zmf s5 i7 c9 t10 t11)) (n : Nat) (c6 : Int) (t8 : Int) : Za2 N s5 i7 K0 n c6 t8 = LM Zdo N 1 100007 n (Znf s5 c6 i7 t8) K := by
  subst h0
  induction n generalizing c6 t8 with
  | zero => kernel_rfl
  | succ n ih => rw [Za2]; simp (disch := exact id (by kernel_rfl)) only [ih]; kernel_rfl
def Znh (s2 : List UInt8) (c3 : Int) (i4 : Int) : St := ⟨[(0, vV (.str) s2), (3, vI c3), (4, vI i4)], [], 0⟩
def Zmg (s2 : List UInt8) (c15 : Int) (i16 : Int) (t17 : Bool) : St := ⟨[(0, vV (.str) s2), (3, vI c15), (4, vI i16), (9, vB t17)], [], 0⟩
theorem Zni (N : Nat) {R : Type} (K : Ex → St → Option R) {s2 : List UInt8} {K0 : Int → Int → Bool → Option R} (h0 : K0 = fun c15 i16 t17 => K (.exit 0) (Zmg s2 c15 i16 t17)) (n : Nat) (c3 : Int) (i4 : Int) : Zb2 N s2 K0 n c3 i4 = LM Zdo N 0 100003 n (Znh s2 c3 i4) K := by
  subst h0
  induction n generalizing c3 i4 with
  | zero => kernel_rfl
  | succ n ih => rw [Zb2]; simp (disch := exact id (by kernel_rfl)) only [ih, Zng N (CL Zdo N 0 100003 [1, 0, 0, 1, 1, 0] n K)]; kernel_rfl
theorem Zpq : Callable Try.prog 87 := callable_of Try.func87 (show chkFn Try.f87 = true by kernel_rfl)
theorem Zpr (N : Nat) (s1 : List UInt8) : DN Zdo N (s1, ()) = Zc5 N s1 := by
  have h : Zc5 N s1 = Zc5 N s1 := rfl
  conv at h => rhs; rw [Zc5]
  simp (disch := exact id (by kernel_rfl)) only [Zni (R := Unit × (Int × Unit)) N (CF Zdo N [1, 1, 0, 1, 0])] at h
  exact Eq.trans (by kernel_rfl) h.symm
theorem Zps (N : Nat) : Good Try.prog 87 (Zg4 N) := GF Zdo N Try.func87 ctx_nil (by kernel_rfl) (fun d => Zpr N d.1)
noncomputable def Zf7 (N : Nat) : Sig := Sig.of [.v (.int .i64) false, .v (.int .i64) false] [.v (.str) false] (fun d => Zca N d.1 d.2.1)
noncomputable def Ze4 : Fn := ⟨Try.f86, fun | 5 => [.canon [0, 5, 6, 26]] | 6 => [.canon [0, 5, 6]] | 7 => [.canon [0, 5, 6]] | 8 => [.canon [0, 5, 6]] | 100005 => [.canon [0, 5, 6]] | _ => [], Zf7, fun N => [(82, Zbb N)]⟩
def Zlw (n4 : Int) (i5 : Int) (l6 : List Int) : St := ⟨[(0, vI n4), (5, vO 0), (6, vI i5)], [(0, .arr (.int .u8) l6)], 1⟩
def Zkt (n7 : Int) (i8 : Int) (t9 : Bool) (l10 : List Int) : St := ⟨[(0, vI n7), (5, vO 0), (6, vI i8), (26, vB t9)], [(0, .arr (.int .u8) l10)], 1⟩
theorem Zlx (N : Nat) {R : Type} (K : Ex → St → Option R) {K0 : Int → Int → Bool → (List Int) → Option R} (h0 : K0 = fun n7 i8 t9 l10 => K (.exit 0) (Zkt n7 i8 t9 l10)) (n : Nat) (n4 : Int) (i5 : Int) (l6 : List Int) : Zaj N K0 n n4 i5 l6 = LM Ze4 N 0 100005 n (Zlw n4 i5 l6) K := by
  subst h0
  induction n generalizing n4 i5 l6 with
  | zero => kernel_rfl
  | succ n ih => rw [Zaj]; simp (disch := exact id (by kernel_rfl)) only [ih]; kernel_rfl
theorem Zo0 : Callable Try.prog 86 := callable_of Try.func86 (show chkFn Try.f86 = true by kernel_rfl)
theorem Zo1 (N : Nat) (n1 : Int) (width2 : Int) : DN Ze4 N (n1, width2, ()) = Zca N n1 width2 := by
  have h : Zca N n1 width2 = Zca N n1 width2 := rfl
  conv at h => rhs; rw [Zca]
  simp (disch := exact id (by kernel_rfl)) only [Zlx (R := Unit × ((List UInt8) × Unit)) N (CF Ze4 N [1, 1, 1, 0, 1, 0])] at h
  exact Eq.trans (by kernel_rfl) h.symm
theorem Zo2 (N : Nat) : Good Try.prog 86 (Zf7 N) := GF Ze4 N Try.func86 (ctx_cons (Zcj N) Zci ctx_nil) (by kernel_rfl) (fun d => Zo1 N d.1 d.2.1)
noncomputable def Ze5 (N : Nat) : Sig := Sig.of [.v (.str) false] [.v (.str) false] (fun d => Zbd N d.1)
noncomputable def Zo3 : Fn := ⟨Try.f43, noAnn, Ze5, fun N => [(85, Zeu N), (87, Zg4 N), (86, Zf7 N)]⟩
theorem Zip : Callable Try.prog 43 := callable_of Try.func43 (show chkFn Try.f43 = true by kernel_rfl)
theorem Ziq (N : Nat) : Good Try.prog 43 (Ze5 N) := GF Zo3 N Try.func43 (ctx_cons (Zg1 N) Zg0 (ctx_cons (Zps N) Zpq (ctx_cons (Zo2 N) Zo0 ctx_nil))) (by kernel_rfl) (fun d => by kernel_rfl)
noncomputable def Zff (N : Nat) : Sig := Sig.of [.v (.str) false] [.v (.str) false, .v (.int .i64) false] (fun d => Zex N d.1)
noncomputable def Znj : Fn := ⟨Try.f35, noAnn, Zff, fun N => [(76, Zdt N), (43, Ze5 N)]⟩
theorem Znk : Callable Try.prog 35 := callable_of Try.func35 (show chkFn Try.f35 = true by kernel_rfl)
theorem Znl (N : Nat) : Good Try.prog 35 (Zff N) := GF Znj N Try.func35 (ctx_cons (Zg3 N) Zg2 (ctx_cons (Ziq N) Zip ctx_nil)) (by kernel_rfl) (fun d => by kernel_rfl)
noncomputable def Zf8 (N : Nat) : Sig := Sig.of [.v (.str) false] [.v (.int .i64) false, .v (.str) false, .v (.bool) false] (fun d => Zcb N d.1)
noncomputable def Zo4 : Fn := ⟨Try.f77, noAnn, Zf8, fun N => [(76, Zdt N)]⟩
theorem Zo5 : Callable Try.prog 77 := callable_of Try.func77 (show chkFn Try.f77 = true by kernel_rfl)
theorem Zo6 (N : Nat) : Good Try.prog 77 (Zf8 N) := GF Zo4 N Try.func77 (ctx_cons (Zg3 N) Zg2 ctx_nil) (by kernel_rfl) (fun d => by kernel_rfl)
noncomputable def Zfg (N : Nat) : Sig := Sig.of [.v (.int .i64) false] [.v (.bool) false] (fun d => Zf1 N d.1)
noncomputable def Znm : Fn := ⟨Try.f83, noAnn, Zfg, fun N => [(82, Zbb N)]⟩
theorem Znn : Callable Try.prog 83 := callable_of Try.func83 (show chkFn Try.f83 = true by kernel_rfl)
theorem Zno (N : Nat) : Good Try.prog 83 (Zfg N) := GF Znm N Try.func83 (ctx_cons (Zcj N) Zci ctx_nil) (by kernel_rfl) (fun d => by kernel_rfl)
noncomputable def Zfw (N : Nat) : Sig := Sig.of [.v (.int .i64) false] [.v (.bool) false] (fun d => Zab N d.1)
noncomputable def Zof : Fn := ⟨Try.f118, noAnn, Zfw, fun N => [(82, Zbb N)]⟩
theorem Zog : Callable Try.prog 118 := callable_of Try.func118 (show chkFn Try.f118 = true by kernel_rfl)
theorem Zoh (N : Nat) : Good Try.prog 118 (Zfw N) := GF Zof N Try.func118 (ctx_cons (Zcj N) Zci ctx_nil) (by kernel_rfl) (fun d => by kernel_rfl)
noncomputable def Zdv (N : Nat) : Sig := Sig.of [.v (.int .i64) false] [.v (.bool) false] (fun d => Zbv N d.1)
noncomputable def Znp : Fn := ⟨Try.f91, noAnn, Zdv, fun N => [(82, Zbb N)]⟩
theorem Zg5 : Callable Try.prog 91 := callable_of Try.func91 (show chkFn Try.f91 = true by kernel_rfl)
theorem Zg6 (N : Nat) : Good Try.prog 91 (Zdv N) := GF Znp N Try.func91 (ctx_cons (Zcj N) Zci ctx_nil) (by kernel_rfl) (fun d => by kernel_rfl)
noncomputable def Zek (N : Nat) : Sig := Sig.of [.v (.slice (.prod (.int .i64) (.int .i64))) false] [.v (.bool) false] (fun d => Zay N d.1)
noncomputable def Zel : Fn := ⟨Try.f92, fun | 2 => [.canon [0, 5, 6, 7, 8]] | 3 => [.canon [0, 4, 5, 6, 7]] | 4 => [.canon [0, 5, 6, 7, 20]] | 5 => [.canon [2]] | 6 => [.canon [0, 5, 6, 7]] | 100002 => [.canon [0, 5, 6, 7]] | _ => [], Zek, fun N => [(118, Zfw N), (91, Zdv N)]⟩
def Zku (l2 : List (Int × Int)) (t5 : Int) : St := ⟨[(0, vV (.slice (.prod (.int .i64) (.int .i64))) l2), (5, vV (.slice (.prod (.int .i64) (.int .i64))) l2), (6, vI (ilen l2)), (7, vI t5)], [], 0⟩
def Zjm (l2 : List (Int × Int)) : St := ⟨[(2, vB false)], [], 0⟩
def Zjn (l2 : List (Int × Int)) (t10 : Int) (t11 : Bool) : St := ⟨[(0, vV (.slice (.prod (.int .i64) (.int .i64))) l2), (5, vV (.slice (.prod (.int .i64) (.int .i64))) l2), (6, vI (ilen l2)), (7, vI t10), (8, vB t11)], [], 0⟩
theorem Zkv (N : Nat) {R : Type} (K : Ex → St → Option R) {l2 : List (Int × Int)} {K0 : Option R} {K1 : Int → Bool → Option R} (h0 : K0 = K .ret (Zjm l2)) (h1 : K1 = fun t10 t11 => K (.exit 0) (Zjn l2 t10 t11)) (n : Nat) (t5 : Int) : Za7 N l2 K0 K1 n t5 = LM Zel N 0 100002 n (Zku l2 t5) K := by
  subst h0 h1
  induction n generalizing t5 with
  | zero => kernel_rfl
  | succ n ih => rw [Za7]; simp (disch := exact id (by kernel_rfl)) only [ih]; kernel_rfl
theorem Zhq : Callable Try.prog 92 := callable_of Try.func92 (show chkFn Try.f92 = true by kernel_rfl)
theorem Zoi (N : Nat) (l1 : List (Int × Int)) : DN Zel N (l1, ()) = Zay N l1 := by
  have h : Zay N l1 = Zay N l1 := rfl
  conv at h => rhs; rw [Zay]
  simp (disch := exact id (by kernel_rfl)) only [Zkv (R := Unit × (Bool × Unit)) N (CF Zel N [1, 0, 1, 0])] at h
  exact Eq.trans (by kernel_rfl) h.symm
theorem Zhr (N : Nat) : Good Try.prog 92 (Zek N) := GF Zel N Try.func92 (ctx_cons (Zoh N) Zog (ctx_cons (Zg6 N) Zg5 ctx_nil)) (by kernel_rfl) (fun d => Zoi N d.1)
noncomputable def Zf9 (N : Nat) : Sig := Sig.of [.v (.slice (.prod (.int .i64) (.int .i64))) false] [.v (.bool) false] (fun d => Zcc N d.1)
noncomputable def Ze6 : Fn := ⟨Try.f84, fun | 2 => [.canon [0, 3, 7]] | 3 => [.canon [0, 3]] | 4 => [.canon [0, 3, 21]] | 5 => [.canon [2]] | 100002 => [.canon [0, 3]] | _ => [], Zf9, fun N => [(92, Zek N)]⟩
def Zly (l2 : List (Int × Int)) (i3 : Int) : St := ⟨[(0, vV (.slice (.prod (.int .i64) (.int .i64))) l2), (3, vI i3)], [], 0⟩
def Zkw (l2 : List (Int × Int)) : St := ⟨[(2, vB false)], [], 0⟩
def Zkx (l2 : List (Int × Int)) (i4 : Int) (t5 : Bool) : St := ⟨[(0, vV (.slice (.prod (.int .i64) (.int .i64))) l2), (3, vI i4), (7, vB t5)], [], 0⟩
theorem Zlz (N : Nat) {R : Type} (K : Ex → St → Option R) {l2 : List (Int × Int)} {K0 : Option R} {K1 : Int → Bool → Option R} (h0 : K0 = K .ret (Zkw l2)) (h1 : K1 = fun i4 t5 => K (.exit 0) (Zkx l2 i4 t5)) (n : Nat) (i3 : Int) : Zb3 N l2 K0 K1 n i3 = LM Ze6 N 0 100002 n (Zly l2 i3) K := by
  subst h0 h1
  induction n generalizing i3 with
  | zero => kernel_rfl
  | succ n ih => rw [Zb3]; simp (disch := exact id (by kernel_rfl)) only [ih]; kernel_rfl
theorem Zo7 : Callable Try.prog 84 := callable_of Try.func84 (show chkFn Try.f84 = true by kernel_rfl)
theorem Zo8 (N : Nat) (l1 : List (Int × Int)) : DN Ze6 N (l1, ()) = Zcc N l1 := by
  have h : Zcc N l1 = Zcc N l1 := rfl
  conv at h => rhs; rw [Zcc]
  simp (disch := exact id (by kernel_rfl)) only [Zlz (R := Unit × (Bool × Unit)) N (CF Ze6 N [1, 0, 1, 0])] at h
  exact Eq.trans (by kernel_rfl) h.symm
theorem Zo9 (N : Nat) : Good Try.prog 84 (Zf9 N) := GF Ze6 N Try.func84 (ctx_cons (Zhr N) Zhq ctx_nil) (by kernel_rfl) (fun d => Zo8 N d.1)
noncomputable def Zc9 (N : Nat) : Sig := Sig.of [.v (.prod (.int .i64) (.prod (.int .i64) (.slice (.prod (.int .i64) (.int .i64))))) true] [.v (.str) false] (fun d => Z2 N d.1)
noncomputable def Zda : Fn := ⟨Try.f42, fun | 5 => [.canon [3, 35, 36, 37, 38]] | 6 => [.canon [3, 5, 35, 36, 37]] | 7 => [.canon [3, 35, 36, 37]] | 8 => [.canon [3, 35, 36, 37]] | 100005 => [.canon [3, 35, 36, 37]] | _ => [], Zc9, fun N => [(82, Zbb N), (83, Zfg N), (84, Zf9 N), (85, Zeu N)]⟩
def Zhy (s8 : List UInt8) (t9 : List (Int × Int)) (t10 : Int) (t11 : Int) : St := ⟨[(3, vV (.str) s8), (35, vV (.slice (.prod (.int .i64) (.int .i64))) t9), (36, vI t10), (37, vI t11)], [], 0⟩
def Zhd (t9 : List (Int × Int)) (t10 : Int) (s14 : List UInt8) (t15 : Int) (t16 : Bool) : St := ⟨[(3, vV (.str) s14), (35, vV (.slice (.prod (.int .i64) (.int .i64))) t9), (36, vI t10), (37, vI t15), (38, vB t16)], [], 0⟩
theorem Zhz (N : Nat) {R : Type} (K : Ex → St → Option R) {t9 : List (Int × Int)} {t10 : Int} {K0 : (List UInt8) → Int → Bool → Option R} (h0 : K0 = fun s14 t15 t16 => K (.exit 0) (Zhd t9 t10 s14 t15 t16)) (n : Nat) (s8 : List UInt8) (t11 : Int) : Zak N t9 t10 K0 n s8 t11 = LM Zda N 0 100005 n (Zhy s8 t9 t10 t11) K := by
  subst h0
  induction n generalizing s8 t11 with
  | zero => kernel_rfl
  | succ n ih => rw [Zak]; simp (disch := exact id (by kernel_rfl)) only [ih]; kernel_rfl
theorem Zga : Callable Try.prog 42 := callable_of Try.func42 (show chkFn Try.f42 = true by kernel_rfl)
theorem Zl0 (N : Nat) (w1 : Int × Int × List (Int × Int)) : DN Zda N (w1, ()) = Z2 N w1 := by
  have h : Z2 N w1 = Z2 N w1 := rfl
  conv at h => rhs; rw [Z2]
  simp (disch := exact id (by kernel_rfl)) only [Zhz (R := Unit × ((List UInt8) × Unit)) N (CF Zda N [1, 1, 1, 0, 1, 0])] at h
  exact Eq.trans (by kernel_rfl) h.symm
theorem Zgb (N : Nat) : Good Try.prog 42 (Zc9 N) := GF Zda N Try.func42 (ctx_cons (Zcj N) Zci (ctx_cons (Zno N) Znn (ctx_cons (Zo9 N) Zo7 (ctx_cons (Zg1 N) Zg0 ctx_nil)))) (by kernel_rfl) (fun d => Zl0 N d.1)
noncomputable def Zev (N : Nat) : Sig := Sig.of [.v (.str) false] [.v (.prod (.int .i64) (.prod (.int .i64) (.own (.prod (.int .i64) (.int .i64))))) true, .v (.bool) false] (fun d => Zau N d.1)
noncomputable def Zdb : Fn := ⟨Try.f36, fun | 8 => [.canon [0, 2, 5, 11, 54, 55, 56]] | 9 => [.canon [0, 2, 11, 12, 13, 14, 54, 55]] | 10 => [.canon [0, 2, 11, 12, 14, 15, 16, 17, 54, 55]] | 11 => [.canon [0, 2, 11, 12, 15, 16, 54, 55, 74]] | 12 => [.canon [2, 3]] | 13 => [.canon [0, 2, 11, 16, 54, 55]] | 14 => [.canon [0, 2, 5, 11, 54, 55]] | 15 => [.canon [0, 2, 5, 11, 54, 55]] | 100008 => [.adoptC 11 2 (.prod (.int .i64) (.int .i64)), .canon [0, 2, 5, 11, 54, 55]] | _ => [], Zev, fun N => [(77, Zf8 N), (42, Zc9 N)]⟩
def Zh0 (s5 : List UInt8) (rest6 : List UInt8) (t7 : Int) (t8 : Int) (b11 : Int) (b12 : Int) (l13 : List (Int × Int)) : St := ⟨[(0, vV (.str) s5), (2, vP 0 0), (5, vV (.str) rest6), (11, vP 1 0), (54, vI t7), (55, vI t8)], [(0, .box [.val (.int .i64) (0 : Int), .val (.int .i64) (0 : Int), .nils]), (1, .box [.val (.int .i64) b11, .val (.int .i64) b12, .own 2]), (2, .arr (.prod (.int .i64) (.int .i64)) l13)], 3⟩
def Zhe (s5 : List UInt8) (t7 : Int) (b11 : Int) (b12 : Int) : St := ⟨[(2, vP 0 0), (3, vB false)], [(0, .box [.val (.int .i64) (0 : Int), .val (.int .i64) (0 : Int), .nils])], 1⟩
def Zhf (s5 : List UInt8) (t7 : Int) (b11 : Int) (b12 : Int) (rest18 : List UInt8) (t19 : Int) (t20 : Bool) (l21 : List (Int × Int)) : St := ⟨[(0, vV (.str) s5), (2, vP 0 0), (5, vV (.str) rest18), (11, vP 1 0), (54, vI t7), (55, vI t19), (56, vB t20)], [(0, .box [.val (.int .i64) (0 : Int), .val (.int .i64) (0 : Int), .nils]), (1, .box [.val (.int .i64) b11, .val (.int .i64) b12, .own 2]), (2, .arr (.prod (.int .i64) (.int .i64)) l21)], 3⟩
theorem Zh1 (N : Nat) {R : Type} (K : Ex → St → Option R) {s5 : List UInt8} {t7 : Int} {b11 : Int} {b12 : Int} {K0 : Option R} {K1 : (List UInt8) → Int → Bool → (List (Int × Int)) → Option R} (h0 : K0 = K .ret (Zhe s5 t7 b11 b12)) (h1 : K1 = fun rest18 t19 t20 l21 => K (.exit 0) (Zhf s5 t7 b11 b12 rest18 t19 t20 l21)) (n : Nat) (rest6 : List UInt8) (t8 : Int) (l13 : List (Int × Int)) : Zal N s5 t7 b11 b12 K0 K1 n rest6 t8 l13 = LM Zdb N 0 100008 n (Zh0 s5 rest6 t7 t8 b11 b12 l13) K := by
  subst h0 h1
  induction n generalizing rest6 t8 l13 with
  | zero => kernel_rfl
  | succ n ih => rw [Zal]; simp (disch := exact id (by kernel_rfl)) only [ih]; kernel_rfl
theorem Zl1 : Callable Try.prog 36 := callable_of Try.func36 (show chkFn Try.f36 = true by kernel_rfl)
theorem Zl2 (N : Nat) (s1 : List UInt8) : DN Zdb N (s1, ()) = Zau N s1 := by
  have h : Zau N s1 = Zau N s1 := rfl
  conv at h => rhs; rw [Zau]
  simp (disch := exact id (by kernel_rfl)) only [Zh1 (R := Unit × ((Int × Int × List (Int × Int)) × (Bool × Unit))) N (CF Zdb N [1, 1, 1, 1, 1, 1, 0, 1, 0])] at h
  exact Eq.trans (by kernel_rfl) h.symm
theorem Zl3 (N : Nat) : Good Try.prog 36 (Zev N) := GF Zdb N Try.func36 (ctx_cons (Zo6 N) Zo5 (ctx_cons (Zgb N) Zga ctx_nil)) (by kernel_rfl) (fun d => Zl2 N d.1)
noncomputable def Zbn (N : Nat) : Sig := Sig.of [.v (.str) false] [.v (.own (.prod (.int .i64) (.prod (.int .i64) (.slice (.prod (.int .i64) (.int .i64)))))) false, .v (.int .i64) false] (fun d => Zn N d.1)
noncomputable def Zcs : Fn := ⟨Try.f8, fun | 4 => [.canon [0, 4, 5, 6, 14]] | 5 => [.canon [0, 4, 5, 6, 7, 8]] | 6 => [.canon [0, 4, 5, 6, 8, 9, 10]] | 7 => [.canon [0, 4, 5, 8, 9, 38]] | 8 => [.canon [0, 4, 5, 8, 9]] | 9 => [.canon [0, 4, 5, 6, 8]] | 10 => [.canon [0, 4, 5, 6]] | 100004 => [.canon [0, 4, 5, 6]] | _ => [], Zbn, fun N => [(35, Zff N), (36, Zev N)]⟩
def Zg7 (log2 : List UInt8) (at3 : Int) (last4 : Int) (l5 : List (Int × Int × List (Int × Int))) : St := ⟨[(0, vV (.str) log2), (4, vO 0), (5, vI at3), (6, vI last4)], [(0, .arr (.prod (.int .i64) (.prod (.int .i64) (.slice (.prod (.int .i64) (.int .i64))))) l5)], 1⟩
def Zgn (log2 : List UInt8) (at8 : Int) (n9 : Int) (t10 : Bool) (l11 : List (Int × Int × List (Int × Int))) (b12 : Int) (b13 : Int) (l14 : List (Int × Int)) : St := ⟨[(0, vV (.str) log2), (4, vO 0), (5, vI at8), (8, vI n9), (9, vP 1 0), (38, vB t10)], [(0, .arr (.prod (.int .i64) (.prod (.int .i64) (.slice (.prod (.int .i64) (.int .i64))))) l11), (1, .box [.val (.int .i64) b12, .val (.int .i64) b13, .own 2]), (2, .arr (.prod (.int .i64) (.int .i64)) l14)], 3⟩
def Zgo (log2 : List UInt8) (at15 : Int) (last16 : Int) (t17 : Bool) (l18 : List (Int × Int × List (Int × Int))) : St := ⟨[(0, vV (.str) log2), (4, vO 0), (5, vI at15), (6, vI last16), (14, vB t17)], [(0, .arr (.prod (.int .i64) (.prod (.int .i64) (.slice (.prod (.int .i64) (.int .i64))))) l18)], 1⟩
theorem Zg8 (N : Nat) {R : Type} (K : Ex → St → Option R) {log2 : List UInt8} {K0 : Int → Int → Bool → (List (Int × Int × List (Int × Int))) → Int → Int → (List (Int × Int)) → Option R} {K1 : Int → Int → Bool → (List (Int × Int × List (Int × Int))) → Option R} (h0 : K0 = fun at8 n9 t10 l11 b12 b13 l14 => K (.exit 0) (Zgn log2 at8 n9 t10 l11 b12 b13 l14)) (h1 : K1 = fun at15 last16 t17 l18 => K (.exit 0) (Zgo log2 at15 last16 t17 l18)) (n : Nat) (at3 : Int) (last4 : Int) (l5 : List (Int × Int × List (Int × Int))) : Z9 N log2 K0 K1 n at3 last4 l5 = LM Zcs N 0 100004 n (Zg7 log2 at3 last4 l5) K := by
  subst h0 h1
  induction n generalizing at3 last4 l5 with
  | zero => kernel_rfl
  | succ n ih => rw [Z9]; simp (disch := exact id (by kernel_rfl)) only [ih]; kernel_rfl
theorem Zdw : Callable Try.prog 8 := callable_of Try.func8 (show chkFn Try.f8 = true by kernel_rfl)
theorem Zjo (N : Nat) (log1 : List UInt8) : DN Zcs N (log1, ()) = Zn N log1 := by
  have h : Zn N log1 = Zn N log1 := rfl
  conv at h => rhs; rw [Zn]
  simp (disch := exact id (by kernel_rfl)) only [Zg8 (R := Unit × ((List (Int × Int × List (Int × Int))) × (Int × Unit))) N (CF Zcs N [1, 1, 1, 1, 0, 0])] at h
  exact Eq.trans (by kernel_rfl) h.symm
theorem Zdx (N : Nat) : Good Try.prog 8 (Zbn N) := GF Zcs N Try.func8 (ctx_cons (Znl N) Znk (ctx_cons (Zl3 N) Zl1 ctx_nil)) (by kernel_rfl) (fun d => Zjo N d.1)
noncomputable def Ze7 (N : Nat) : Sig := Sig.of [.v (.slice (.prod (.int .i64) (.int .i64))) false, .v (.slice (.prod (.int .i64) (.int .i64))) false] [.v (.bool) false] (fun d => Zba N d.1 d.2.1)
noncomputable def Zdh : Fn := ⟨Try.f39, fun | 4 => [.canon [0, 1, 5, 14]] | 5 => [.canon [0, 1, 5]] | 6 => [.canon [0, 1, 5, 25]] | 7 => [.canon [4]] | 100004 => [.canon [0, 1, 5]] | _ => [], Ze7, noCtx⟩
def Zir (a3 : List (Int × Int)) (b4 : List (Int × Int)) (i5 : Int) : St := ⟨[(0, vV (.slice (.prod (.int .i64) (.int .i64))) a3), (1, vV (.slice (.prod (.int .i64) (.int .i64))) b4), (5, vI i5)], [], 0⟩
def Zh2 (a3 : List (Int × Int)) (b4 : List (Int × Int)) : St := ⟨[(4, vB false)], [], 0⟩
def Zh3 (a3 : List (Int × Int)) (b4 : List (Int × Int)) (i6 : Int) (t7 : Bool) : St := ⟨[(0, vV (.slice (.prod (.int .i64) (.int .i64))) a3), (1, vV (.slice (.prod (.int .i64) (.int .i64))) b4), (5, vI i6), (14, vB t7)], [], 0⟩
theorem Zis (N : Nat) {R : Type} (K : Ex → St → Option R) {a3 : List (Int × Int)} {b4 : List (Int × Int)} {K0 : Option R} {K1 : Int → Bool → Option R} (h0 : K0 = K .ret (Zh2 a3 b4)) (h1 : K1 = fun i6 t7 => K (.exit 0) (Zh3 a3 b4 i6 t7)) (n : Nat) (i5 : Int) : Zan N a3 b4 K0 K1 n i5 = LM Zdh N 0 100004 n (Zir a3 b4 i5) K := by
  subst h0 h1
  induction n generalizing i5 with
  | zero => kernel_rfl
  | succ n ih => rw [Zan]; simp (disch := exact id (by kernel_rfl)) only [ih]; kernel_rfl
theorem Zmh : Callable Try.prog 39 := callable_of Try.func39 (show chkFn Try.f39 = true by kernel_rfl)
theorem Zmi (N : Nat) (a1 : List (Int × Int)) (b2 : List (Int × Int)) : DN Zdh N (a1, b2, ()) = Zba N a1 b2 := by
  have h : Zba N a1 b2 = Zba N a1 b2 := rfl
  conv at h => rhs; rw [Zba]
  simp (disch := exact id (by kernel_rfl)) only [Zis (R := Unit × (Bool × Unit)) N (CF Zdh N [1, 1, 0, 1, 0])] at h
  exact Eq.trans (by kernel_rfl) h.symm
theorem Zmj (N : Nat) : Good Try.prog 39 (Ze7 N) := GF Zdh N Try.func39 ctx_nil (by kernel_rfl) (fun d => Zmi N d.1 d.2.1)
noncomputable def Ze8 (N : Nat) : Sig := Sig.of [.v (.slice (.prod (.int .i64) (.prod (.int .i64) (.slice (.prod (.int .i64) (.int .i64)))))) false, .v (.slice (.prod (.int .i64) (.prod (.int .i64) (.slice (.prod (.int .i64) (.int .i64)))))) false] [.v (.bool) false] (fun d => Zo N d.1 d.2.1)
noncomputable def Zdi : Fn := ⟨Try.f10, fun | 4 => [.canon [0, 1, 5, 14]] | 5 => [.canon [0, 1, 5]] | 6 => [.canon [0, 1, 5, 54]] | 7 => [.canon [4]] | 100004 => [.canon [0, 1, 5]] | _ => [], Ze8, fun N => [(39, Ze7 N)]⟩
def Zit (a3 : List (Int × Int × List (Int × Int))) (b4 : List (Int × Int × List (Int × Int))) (i5 : Int) : St := ⟨[(0, vV (.slice (.prod (.int .i64) (.prod (.int .i64) (.slice (.prod (.int .i64) (.int .i64)))))) a3), (1, vV (.slice (.prod (.int .i64) (.prod (.int .i64) (.slice (.prod (.int .i64) (.int .i64)))))) b4), (5, vI i5)], [], 0⟩
def Zh4 (a3 : List (Int × Int × List (Int × Int))) (b4 : List (Int × Int × List (Int × Int))) : St := ⟨[(4, vB false)], [], 0⟩
def Zh5 (a3 : List (Int × Int × List (Int × Int))) (b4 : List (Int × Int × List (Int × Int))) (i7 : Int) (t8 : Bool) : St := ⟨[(0, vV (.slice (.prod (.int .i64) (.prod (.int .i64) (.slice (.prod (.int .i64) (.int .i64)))))) a3), (1, vV (.slice (.prod (.int .i64) (.prod (.int .i64) (.slice (.prod (.int .i64) (.int .i64)))))) b4), (5, vI i7), (14, vB t8)], [], 0⟩
theorem Ziu (N : Nat) {R : Type} (K : Ex → St → Option R) {a3 : List (Int × Int × List (Int × Int))} {b4 : List (Int × Int × List (Int × Int))} {K0 : Option R} {K1 : Int → Bool → Option R} (h0 : K0 = K .ret (Zh4 a3 b4)) (h1 : K1 = fun i7 t8 => K (.exit 0) (Zh5 a3 b4 i7 t8)) (n : Nat) (i5 : Int) : Zao N a3 b4 K0 K1 n i5 = LM Zdi N 0 100004 n (Zit a3 b4 i5) K := by
  subst h0 h1
  induction n generalizing i5 with
  | zero => kernel_rfl
  | succ n ih => rw [Zao]; simp (disch := exact id (by kernel_rfl)) only [ih]; kernel_rfl
theorem Zmk : Callable Try.prog 10 := callable_of Try.func10 (show chkFn Try.f10 = true by kernel_rfl)
theorem Zml (N : Nat) (a1 : List (Int × Int × List (Int × Int))) (b2 : List (Int × Int × List (Int × Int))) : DN Zdi N (a1, b2, ()) = Zo N a1 b2 := by
  have h : Zo N a1 b2 = Zo N a1 b2 := rfl
  conv at h => rhs; rw [Zo]
  simp (disch := exact id (by kernel_rfl)) only [Ziu (R := Unit × (Bool × Unit)) N (CF Zdi N [1, 1, 0, 1, 0])] at h
  exact Eq.trans (by kernel_rfl) h.symm
theorem Zmm (N : Nat) : Good Try.prog 10 (Ze8 N) := GF Zdi N Try.func10 (ctx_cons (Zmj N) Zmh ctx_nil) (by kernel_rfl) (fun d => Zml N d.1 d.2.1)
noncomputable def Zdc (N : Nat) : Sig := Sig.of [.v (.slice (.prod (.int .i64) (.prod (.int .i64) (.slice (.prod (.int .i64) (.int .i64)))))) false] [.v (.bool) false] (fun d => Zaz N d.1)
noncomputable def Zck : Fn := ⟨Try.f11, fun | 4 => [.canon [0, 3, 11]] | 5 => [.canon [0, 3]] | 6 => [.canon [0, 3, 38]] | 7 => [.canon [2]] | 8 => [.canon [0, 3, 4]] | 9 => [.canon [0, 3, 4, 41]] | 10 => [.canon [0, 3, 4]] | 11 => [.canon [0, 3, 4, 54]] | 12 => [.canon [2]] | 100004 => [.canon [0, 3]] | 100009 => [.canon [0, 3, 4]] | _ => [], Zdc, fun N => [(40, Zbu N), (41, Zch N)]⟩
def Zky (l7 : List (Int × Int × List (Int × Int))) (i8 : Int) (k9 : Int) : St := ⟨[(0, vV (.slice (.prod (.int .i64) (.prod (.int .i64) (.slice (.prod (.int .i64) (.int .i64)))))) l7), (3, vI i8), (4, vI k9)], [], 0⟩
def Zjp (l7 : List (Int × Int × List (Int × Int))) (i8 : Int) : St := ⟨[(2, vB false)], [], 0⟩
def Zjq (l7 : List (Int × Int × List (Int × Int))) (i8 : Int) (k10 : Int) (t11 : Bool) : St := ⟨[(0, vV (.slice (.prod (.int .i64) (.prod (.int .i64) (.slice (.prod (.int .i64) (.int .i64)))))) l7), (3, vI i8), (4, vI k10), (41, vB t11)], [], 0⟩
theorem Zkz (N : Nat) {R : Type} (K : Ex → St → Option R) {l7 : List (Int × Int × List (Int × Int))} {i8 : Int} {K0 : Option R} {K1 : Int → Bool → Option R} (h0 : K0 = K .ret (Zjp l7 i8)) (h1 : K1 = fun k10 t11 => K (.exit 2) (Zjq l7 i8 k10 t11)) (n : Nat) (k9 : Int) : Zbq N l7 i8 K0 K1 n k9 = LM Zck N 1 100009 n (Zky l7 i8 k9) K := by
  subst h0 h1
  induction n generalizing k9 with
  | zero => kernel_rfl
  | succ n ih => rw [Zbq]; simp (disch := exact id (by kernel_rfl)) only [ih]; kernel_rfl
def Zk0 (l2 : List (Int × Int × List (Int × Int))) (i3 : Int) : St := ⟨[(0, vV (.slice (.prod (.int .i64) (.prod (.int .i64) (.slice (.prod (.int .i64) (.int .i64)))))) l2), (3, vI i3)], [], 0⟩
def Zjr (l2 : List (Int × Int × List (Int × Int))) : St := ⟨[(2, vB false)], [], 0⟩
def Zjs (l2 : List (Int × Int × List (Int × Int))) (i14 : Int) (t15 : Bool) : St := ⟨[(0, vV (.slice (.prod (.int .i64) (.prod (.int .i64) (.slice (.prod (.int .i64) (.int .i64)))))) l2), (3, vI i14), (11, vB t15)], [], 0⟩
theorem Zk1 (N : Nat) {R : Type} (K : Ex → St → Option R) {l2 : List (Int × Int × List (Int × Int))} {K0 : Option R} {K1 : Int → Bool → Option R} (h0 : K0 = K .ret (Zjr l2)) (h1 : K1 = fun i14 t15 => K (.exit 0) (Zjs l2 i14 t15)) (n : Nat) (i3 : Int) : Za8 N l2 K0 K1 n i3 = LM Zck N 0 100004 n (Zk0 l2 i3) K := by
  subst h0 h1
  induction n generalizing i3 with
  | zero => kernel_rfl
  | succ n ih => rw [Za8]; simp (disch := exact id (by kernel_rfl)) only [ih, Zkz N (CL Zck N 0 100004 [1, 0, 0, 1, 1, 0] n K)]; kernel_rfl
theorem Zfx : Callable Try.prog 11 := callable_of Try.func11 (show chkFn Try.f11 = true by kernel_rfl)
theorem Zoj (N : Nat) (l1 : List (Int × Int × List (Int × Int))) : DN Zck N (l1, ()) = Zaz N l1 := by
  have h : Zaz N l1 = Zaz N l1 := rfl
  conv at h => rhs; rw [Zaz]
  simp (disch := exact id (by kernel_rfl)) only [Zk1 (R := Unit × (Bool × Unit)) N (CF Zck N [1, 1, 0, 1, 0])] at h
  exact Eq.trans (by kernel_rfl) h.symm
theorem Zfy (N : Nat) : Good Try.prog 11 (Zdc N) := GF Zck N Try.func11 (ctx_cons (Zc0 N) Zcz (ctx_cons (Zeg N) Zef ctx_nil)) (by kernel_rfl) (fun d => Zoj N d.1)
noncomputable def Zh6 (N : Nat) : Sig := Sig.of [.v (.slice (.int .u8)) false, .v (.int .i64) false] [.v (.int .i64) false] (fun d => Zeo N d.1 d.2.1)
noncomputable def Zpt : Fn := ⟨Try.f12, noAnn, Zh6, noCtx⟩
theorem Zpu : Callable Try.prog 12 := callable_of Try.func12 (show chkFn Try.f12 = true by kernel_rfl)
theorem Zpv (N : Nat) : Good Try.prog 12 (Zh6 N) := GF Zpt N Try.func12 ctx_nil (by kernel_rfl) (fun d => by kernel_rfl)
noncomputable def Zd7 (N : Nat) : Sig := Sig.of [.v (.str) false, .v (.prod (.int .i64) (.prod (.int .i64) (.slice (.prod (.int .i64) (.int .i64))))) true] [.v (.str) false, .v (.bool) false] (fun d => Zbr N d.1 d.2.1)
noncomputable def Zk2 : Fn := ⟨Try.f13, noAnn, Zd7, fun N => [(42, Zc9 N), (8, Zbn N), (43, Ze5 N)]⟩
theorem Zk3 : Callable Try.prog 13 := callable_of Try.func13 (show chkFn Try.f13 = true by kernel_rfl)
theorem Zk4 (N : Nat) : Good Try.prog 13 (Zd7 N) := GF Zk2 N Try.func13 (ctx_cons (Zgb N) Zga (ctx_cons (Zdx N) Zdw (ctx_cons (Ziq N) Zip ctx_nil))) (by kernel_rfl) (fun d => by kernel_rfl)
noncomputable def Zd8 (N : Nat) : Sig := Sig.of [.box (.prod (.slice (.int .u8)) (.prod (.int .i64) (.int .i64)))] [.v (.own (.int .i64)) false] (fun d => Z1 N d.1)
noncomputable def Zcy : Fn := ⟨Try.f44, fun | 3 => [.canon [0, 3, 4, 7]] | 4 => [.canon [0, 3, 4]] | 5 => [.canon [0, 3, 4]] | 100003 => [.canon [0, 3, 4]] | _ => [], Zd8, fun N => [(88, Zeb N)]⟩
def Zhg (i2 : Int) (b3 : List Int × Int × Int) (l4 : List Int) : St := ⟨[(0, vP 0 0), (3, vO 1), (4, vI i2)], [(0, .box [.val (.slice (.int .u8)) b3.1, .val (.int .i64) b3.2.1, .val (.int .i64) b3.2.2]), (1, .arr (.int .i64) l4)], 2⟩
def Zg9 (i6 : Int) (t7 : Bool) (b8 : List Int × Int × Int) (l9 : List Int) : St := ⟨[(0, vP 0 0), (3, vO 1), (4, vI i6), (7, vB t7)], [(0, .box [.val (.slice (.int .u8)) b8.1, .val (.int .i64) b8.2.1, .val (.int .i64) b8.2.2]), (1, .arr (.int .i64) l9)], 2⟩
theorem Zhh (N : Nat) {R : Type} (K : Ex → St → Option R) {K0 : Int → Bool → (List Int × Int × Int) → (List Int) → Option R} (h0 : K0 = fun i6 t7 b8 l9 => K (.exit 0) (Zg9 i6 t7 b8 l9)) (n : Nat) (i2 : Int) (b3 : List Int × Int × Int) (l4 : List Int) : Z3 N K0 n i2 b3 l4 = LM Zcy N 0 100003 n (Zhg i2 b3 l4) K := by
  subst h0
  induction n generalizing i2 b3 l4 with
  | zero => kernel_rfl
  | succ n ih => rw [Z3]; simp (disch := exact id (by kernel_rfl)) only [ih]; kernel_rfl
theorem Zk5 : Callable Try.prog 44 := callable_of Try.func44 (show chkFn Try.f44 = true by kernel_rfl)
theorem Zk6 (N : Nat) (c1 : List Int × Int × Int) : DN Zcy N (c1, ()) = Z1 N c1 := by
  have h : Z1 N c1 = Z1 N c1 := rfl
  conv at h => rhs; rw [Z1]
  simp (disch := exact id (by kernel_rfl)) only [Zhh (R := ((List Int × Int × Int) × Unit) × ((List Int) × Unit)) N (CF Zcy N [1, 1, 0, 1, 0])] at h
  exact Eq.trans (by kernel_rfl) h.symm
theorem Zk7 (N : Nat) : Good Try.prog 44 (Zd8 N) := GF Zcy N Try.func44 (ctx_cons (Zhl N) Zhk ctx_nil) (by kernel_rfl) (fun d => Zk6 N d.1)
noncomputable def Zfh (N : Nat) : Sig := Sig.of [.box (.prod (.slice (.int .u8)) (.prod (.int .i64) (.int .i64)))] [.v (.own (.prod (.int .i64) (.prod (.int .i64) (.own (.prod (.int .i64) (.int .i64)))))) false] (fun d => Zb4 N d.1)
noncomputable def Zdy : Fn := ⟨Try.f89, fun | 1 => [.empt 7 (.prod (.int .i64) (.prod (.int .i64) (.own (.prod (.int .i64) (.int .i64)))))] | 4 => [.canon [0, 3, 4, 5, 11]] | 5 => [.canon [0, 3, 4, 5]] | 6 => [.canon [0, 3, 4, 5]] | 7 => [.canon [0, 3, 4, 5, 6]] | 8 => [.canon [0, 3, 4, 5, 6, 27]] | 9 => [.nest 29 (.prod (.int .i64) (.prod (.int .i64) (.own (.prod (.int .i64) (.int .i64))))), .canon [0, 3, 4, 5]] | 10 => [.nest 34 (.prod (.int .i64) (.prod (.int .i64) (.own (.prod (.int .i64) (.int .i64))))), .canon [0, 3, 4, 5]] | 100004 => [.canon [0, 3, 4, 5]] | _ => [], Zfh, fun N => [(47, Zq N), (115, Zec N), (45, Zcg N)]⟩
def Zjt (at3 : Int) (n4 : Int) (b5 : List Int × Int × Int) (l6 : List (Int × Int × List (Int × Int))) : St := ⟨[(0, vP 0 0), (3, vO 1), (4, vI at3), (5, vI n4)], [(0, .box [.val (.slice (.int .u8)) b5.1, .val (.int .i64) b5.2.1, .val (.int .i64) b5.2.2]), (1, .arr (.prod (.int .i64) (.prod (.int .i64) (.own (.prod (.int .i64) (.int .i64))))) l6)], 2⟩
def Ziv (at11 : Int) (n12 : Int) (t13 : Bool) (b14 : List Int × Int × Int) (l15 : List (Int × Int × List (Int × Int))) : St := ⟨[(0, vP 0 0), (3, vO 1), (4, vI at11), (5, vI n12), (11, vB t13)], [(0, .box [.val (.slice (.int .u8)) b14.1, .val (.int .i64) b14.2.1, .val (.int .i64) b14.2.2]), (1, .arr (.prod (.int .i64) (.prod (.int .i64) (.own (.prod (.int .i64) (.int .i64))))) l15)], 2⟩
theorem Zju (N : Nat) {R : Type} (K : Ex → St → Option R) {K0 : Int → Int → Bool → (List Int × Int × Int) → (List (Int × Int × List (Int × Int))) → Option R} (h0 : K0 = fun at11 n12 t13 b14 l15 => K (.exit 0) (Ziv at11 n12 t13 b14 l15)) (n : Nat) (at3 : Int) (n4 : Int) (b5 : List Int × Int × Int) (l6 : List (Int × Int × List (Int × Int))) : Zad N K0 n at3 n4 b5 l6 = LM Zdy N 0 100004 n (Zjt at3 n4 b5 l6) K := by
  subst h0
  induction n generalizing at3 n4 b5 l6 with
  | zero => kernel_rfl
  | succ n ih => rw [Zad]; simp (disch := exact id (by kernel_rfl)) only [ih]; kernel_rfl
theorem Znq : Callable Try.prog 89 := callable_of Try.func89 (show chkFn Try.f89 = true by kernel_rfl)
theorem Znr (N : Nat) (c1 : List Int × Int × Int) : DN Zdy N (c1, ()) = Zb4 N c1 := by
  have h : Zb4 N c1 = Zb4 N c1 := rfl
  conv at h => rhs; rw [Zb4]
  simp (disch := exact id (by kernel_rfl)) only [Zju (R := ((List Int × Int × Int) × Unit) × ((List (Int × Int × List (Int × Int))) × Unit)) N (CF Zdy N [1, 1, 1, 0, 1, 0])] at h
  exact Eq.trans (by kernel_rfl) h.symm
theorem Zns (N : Nat) : Good Try.prog 89 (Zfh N) := GF Zdy N Try.func89 (ctx_cons (Zu N) Zt (ctx_cons (Zhn N) Zhm (ctx_cons (Zea N) Zd9 ctx_nil))) (by kernel_rfl) (fun d => Znr N d.1)
noncomputable def Zfz (N : Nat) : Sig := Sig.of [.box (.prod (.slice (.int .u8)) (.prod (.int .i64) (.int .i64)))] [.v (.own (.prod (.int .i64) (.prod (.int .i64) (.own (.prod (.int .i64) (.int .i64)))))) false] (fun d => Zd2 N d.1)
noncomputable def Zok : Fn := ⟨Try.f46, fun | 7 => [.opn 25, .refold 25] | 9 => [.opn 31, .refold 31] | 11 => [.opn 37, .refold 37] | 13 => [.opn 45, .refold 45] | _ => [], Zfz, fun N => [(89, Zfh N), (47, Zq N)]⟩
theorem Zol : Callable Try.prog 46 := callable_of Try.func46 (show chkFn Try.f46 = true by kernel_rfl)
theorem Zom (N : Nat) : Good Try.prog 46 (Zfz N) := GF Zok N Try.func46 (ctx_cons (Zns N) Znq (ctx_cons (Zu N) Zt ctx_nil)) (by kernel_rfl) (fun d => by kernel_rfl)
noncomputable def Zdz (N : Nat) : Sig := Sig.of [.v (.slice (.int .u8)) false] [.v (.own (.int .i64)) false, .v (.own (.prod (.int .i64) (.prod (.int .i64) (.own (.prod (.int .i64) (.int .i64)))))) false, .v (.int .i64) false] (fun d => Zbl N d.1)
noncomputable def Zjv : Fn := ⟨Try.f14, noAnn, Zdz, fun N => [(33, Zez N), (44, Zd8 N), (45, Zcg N), (46, Zfz N), (47, Zq N)]⟩
theorem Zjw : Callable Try.prog 14 := callable_of Try.func14 (show chkFn Try.f14 = true by kernel_rfl)
theorem Zjx (N : Nat) : Good Try.prog 14 (Zdz N) := GF Zjv N Try.func14 (ctx_cons (Zid N) Zic (ctx_cons (Zk7 N) Zk5 (ctx_cons (Zea N) Zd9 (ctx_cons (Zom N) Zol (ctx_cons (Zu N) Zt ctx_nil))))) (by kernel_rfl) (fun d => by kernel_rfl)
noncomputable def Zdd (N : Nat) : Sig := Sig.of [.v (.slice (.int .i64)) false, .v (.int .i64) false] [.v (.bool) false] (fun d => Zaf N d.1 d.2.1)
noncomputable def Zde : Fn := ⟨Try.f48, fun | 2 => [.canon [0, 1, 7, 8, 9, 10]] | 3 => [.canon [0, 1, 6, 7, 8, 9]] | 4 => [.canon [0, 1, 7, 8, 9, 15]] | 5 => [.canon [4]] | 6 => [.canon [0, 1, 7, 8, 9]] | 100002 => [.canon [0, 1, 7, 8, 9]] | _ => [], Zdd, fun N => [(91, Zdv N)]⟩
def Zh7 (l3 : List Int) (n4 : Int) (t7 : Int) : St := ⟨[(0, vV (.slice (.int .i64)) l3), (1, vI n4), (7, vV (.slice (.int .i64)) l3), (8, vI (ilen l3)), (9, vI t7)], [], 0⟩
def Zhi (l3 : List Int) (n4 : Int) : St := ⟨[(4, vB false)], [], 0⟩
def Zhj (l3 : List Int) (n4 : Int) (t10 : Int) (t11 : Bool) : St := ⟨[(0, vV (.slice (.int .i64)) l3), (1, vI n4), (7, vV (.slice (.int .i64)) l3), (8, vI (ilen l3)), (9, vI t10), (10, vB t11)], [], 0⟩
theorem Zh8 (N : Nat) {R : Type} (K : Ex → St → Option R) {l3 : List Int} {n4 : Int} {K0 : Option R} {K1 : Int → Bool → Option R} (h0 : K0 = K .ret (Zhi l3 n4)) (h1 : K1 = fun t10 t11 => K (.exit 0) (Zhj l3 n4 t10 t11)) (n : Nat) (t7 : Int) : Zae N l3 n4 K0 K1 n t7 = LM Zde N 0 100002 n (Zh7 l3 n4 t7) K := by
  subst h0 h1
  induction n generalizing t7 with
  | zero => kernel_rfl
  | succ n ih => rw [Zae]; simp (disch := exact id (by kernel_rfl)) only [ih]; kernel_rfl
theorem Zgc : Callable Try.prog 48 := callable_of Try.func48 (show chkFn Try.f48 = true by kernel_rfl)
theorem Zl4 (N : Nat) (l1 : List Int) (n2 : Int) : DN Zde N (l1, n2, ()) = Zaf N l1 n2 := by
  have h : Zaf N l1 n2 = Zaf N l1 n2 := rfl
  conv at h => rhs; rw [Zaf]
  simp (disch := exact id (by kernel_rfl)) only [Zh8 (R := Unit × (Bool × Unit)) N (CF Zde N [1, 0, 1, 0])] at h
  exact Eq.trans (by kernel_rfl) h.symm
theorem Zgd (N : Nat) : Good Try.prog 48 (Zdd N) := GF Zde N Try.func48 (ctx_cons (Zg6 N) Zg5 ctx_nil) (by kernel_rfl) (fun d => Zl4 N d.1 d.2.1)
noncomputable def Zdj (N : Nat) : Sig := Sig.of [.v (.slice (.int .i64)) false] [.v (.own (.int .i64)) false] (fun d => Zc1 N d.1)
noncomputable def Zmn : Fn := ⟨Try.f49, noAnn, Zdj, noCtx⟩
theorem Zgj : Callable Try.prog 49 := callable_of Try.func49 (show chkFn Try.f49 = true by kernel_rfl)
theorem Zgk (N : Nat) : Good Try.prog 49 (Zdj N) := GF Zmn N Try.func49 ctx_nil (by kernel_rfl) (fun d => by kernel_rfl)
noncomputable def Zfi (N : Nat) : Sig := Sig.of [.v (.slice (.int .i64)) false, .v (.slice (.prod (.int .i64) (.int .i64))) false] [.v (.own (.int .i64)) false] (fun d => Za3 N d.1 d.2.1)
noncomputable def Zd0 : Fn := ⟨Try.f50, fun | 5 => [.canon [5, 18, 19, 20, 21]] | 6 => [.canon [5, 7, 18, 19, 20]] | 7 => [.canon [5, 18, 19, 20]] | 8 => [.canon [5, 18, 19, 20]] | 100005 => [.canon [5, 18, 19, 20]] | _ => [], Zfi, fun N => [(48, Zdd N), (92, Zek N), (49, Zdj N)]⟩
def Zjy (t6 : List (Int × Int)) (t8 : Int) (l9 : List Int) : St := ⟨[(5, vO 0), (18, vV (.slice (.prod (.int .i64) (.int .i64))) t6), (19, vI (ilen t6)), (20, vI t8)], [(0, .arr (.int .i64) l9)], 1⟩
def Ziw (t6 : List (Int × Int)) (t10 : Int) (t11 : Bool) (l12 : List Int) : St := ⟨[(5, vO 0), (18, vV (.slice (.prod (.int .i64) (.int .i64))) t6), (19, vI (ilen t6)), (20, vI t10), (21, vB t11)], [(0, .arr (.int .i64) l12)], 1⟩
theorem Zjz (N : Nat) {R : Type} (K : Ex → St → Option R) {t6 : List (Int × Int)} {K0 : Int → Bool → (List Int) → Option R} (h0 : K0 = fun t10 t11 l12 => K (.exit 0) (Ziw t6 t10 t11 l12)) (n : Nat) (t8 : Int) (l9 : List Int) : Zav N t6 K0 n t8 l9 = LM Zd0 N 0 100005 n (Zjy t6 t8 l9) K := by
  subst h0
  induction n generalizing t8 l9 with
  | zero => kernel_rfl
  | succ n ih => rw [Zav]; simp (disch := exact id (by kernel_rfl)) only [ih]; kernel_rfl
theorem Znt : Callable Try.prog 50 := callable_of Try.func50 (show chkFn Try.f50 = true by kernel_rfl)
theorem Znu (N : Nat) (cells1 : List Int) (l2 : List (Int × Int)) : DN Zd0 N (cells1, l2, ()) = Za3 N cells1 l2 := by
  have h : Za3 N cells1 l2 = Za3 N cells1 l2 := rfl
  conv at h => rhs; rw [Za3]
  simp (disch := exact id (by kernel_rfl)) only [Zjz (R := Unit × ((List Int) × Unit)) N (CF Zd0 N [1, 1, 1, 0, 1, 0])] at h
  exact Eq.trans (by kernel_rfl) h.symm
theorem Znv (N : Nat) : Good Try.prog 50 (Zfi N) := GF Zd0 N Try.func50 (ctx_cons (Zgd N) Zgc (ctx_cons (Zhr N) Zhq (ctx_cons (Zgk N) Zgj ctx_nil))) (by kernel_rfl) (fun d => Znu N d.1 d.2.1)
noncomputable def Zdp (N : Nat) : Sig := Sig.of [.v (.slice (.int .i64)) false, .v (.str) false] [.v (.own (.int .i64)) false] (fun d => Zl N d.1 d.2.1)
noncomputable def Zcl : Fn := ⟨Try.f15, fun | 6 => [.canon [5, 20, 21, 22, 23]] | 7 => [.canon [5, 9, 20, 21, 22]] | 8 => [.canon [5, 20, 21, 22]] | 9 => [.canon [5, 20, 21, 22]] | 100006 => [.canon [5, 20, 21, 22]] | _ => [], Zdp, fun N => [(48, Zdd N), (49, Zdj N), (8, Zbn N), (50, Zfi N)]⟩
def Zgp (t6 : Int) (t7 : Int) (l8 : List Int) (l9 : List (Int × Int × List (Int × Int))) : St := ⟨[(5, vO 0), (20, vO 1), (21, vI t6), (22, vI t7)], [(0, .arr (.int .i64) l8), (1, .arr (.prod (.int .i64) (.prod (.int .i64) (.slice (.prod (.int .i64) (.int .i64))))) l9)], 2⟩
def Zgg (t6 : Int) (l9 : List (Int × Int × List (Int × Int))) (t11 : Int) (t12 : Bool) (l13 : List Int) : St := ⟨[(5, vO 0), (20, vO 1), (21, vI t6), (22, vI t11), (23, vB t12)], [(0, .arr (.int .i64) l13), (1, .arr (.prod (.int .i64) (.prod (.int .i64) (.slice (.prod (.int .i64) (.int .i64))))) l9)], 2⟩
theorem Zgq (N : Nat) {R : Type} (K : Ex → St → Option R) {t6 : Int} {l9 : List (Int × Int × List (Int × Int))} {K0 : Int → Bool → (List Int) → Option R} (h0 : K0 = fun t11 t12 l13 => K (.exit 0) (Zgg t6 l9 t11 t12 l13)) (n : Nat) (t7 : Int) (l8 : List Int) : Z6 N t6 l9 K0 n t7 l8 = LM Zcl N 0 100006 n (Zgp t6 t7 l8 l9) K := by
  subst h0
  induction n generalizing t7 l8 with
  | zero => kernel_rfl
  | succ n ih => rw [Z6]; simp (disch := exact id (by kernel_rfl)) only [ih]; kernel_rfl
theorem Zix : Callable Try.prog 15 := callable_of Try.func15 (show chkFn Try.f15 = true by kernel_rfl)
theorem Ziy (N : Nat) (cells1 : List Int) (log2 : List UInt8) : DN Zcl N (cells1, log2, ()) = Zl N cells1 log2 := by
  have h : Zl N cells1 log2 = Zl N cells1 log2 := rfl
  conv at h => rhs; rw [Zl]
  simp (disch := exact id (by kernel_rfl)) only [Zgq (R := Unit × ((List Int) × Unit)) N (CF Zcl N [1, 1, 1, 1, 0, 1, 0])] at h
  exact Eq.trans (by kernel_rfl) h.symm
theorem Ziz (N : Nat) : Good Try.prog 15 (Zdp N) := GF Zcl N Try.func15 (ctx_cons (Zgd N) Zgc (ctx_cons (Zgk N) Zgj (ctx_cons (Zdx N) Zdw (ctx_cons (Znv N) Znt ctx_nil)))) (by kernel_rfl) (fun d => Ziy N d.1 d.2.1)
noncomputable def Zem (N : Nat) : Sig := Sig.of [.v (.slice (.int .i64)) false] [.v (.bool) false] (fun d => Zbe N d.1)
noncomputable def Zen : Fn := ⟨Try.f51, fun | 4 => [.canon [0, 3, 10]] | 5 => [.canon [0, 3]] | 6 => [.canon [0, 3, 18]] | 7 => [.canon [2]] | 100004 => [.canon [0, 3]] | _ => [], Zem, fun N => [(81, Ze1 N)]⟩
def Zk8 (l2 : List Int) (i3 : Int) : St := ⟨[(0, vV (.slice (.int .i64)) l2), (3, vI i3)], [], 0⟩
def Zj0 (l2 : List Int) : St := ⟨[(2, vB false)], [], 0⟩
def Zj1 (l2 : List Int) (i5 : Int) (t6 : Bool) : St := ⟨[(0, vV (.slice (.int .i64)) l2), (3, vI i5), (10, vB t6)], [], 0⟩
theorem Zk9 (N : Nat) {R : Type} (K : Ex → St → Option R) {l2 : List Int} {K0 : Option R} {K1 : Int → Bool → Option R} (h0 : K0 = K .ret (Zj0 l2)) (h1 : K1 = fun i5 t6 => K (.exit 0) (Zj1 l2 i5 t6)) (n : Nat) (i3 : Int) : Za5 N l2 K0 K1 n i3 = LM Zen N 0 100004 n (Zk8 l2 i3) K := by
  subst h0 h1
  induction n generalizing i3 with
  | zero => kernel_rfl
  | succ n ih => rw [Za5]; simp (disch := exact id (by kernel_rfl)) only [ih]; kernel_rfl
theorem Zhs : Callable Try.prog 51 := callable_of Try.func51 (show chkFn Try.f51 = true by kernel_rfl)
theorem Zon (N : Nat) (l1 : List Int) : DN Zen N (l1, ()) = Zbe N l1 := by
  have h : Zbe N l1 = Zbe N l1 := rfl
  conv at h => rhs; rw [Zbe]
  simp (disch := exact id (by kernel_rfl)) only [Zk9 (R := Unit × (Bool × Unit)) N (CF Zen N [1, 1, 0, 1, 0])] at h
  exact Eq.trans (by kernel_rfl) h.symm
theorem Zht (N : Nat) : Good Try.prog 51 (Zem N) := GF Zen N Try.func51 (ctx_cons (Zif N) Zie ctx_nil) (by kernel_rfl) (fun d => Zon N d.1)
noncomputable def Zf0 (N : Nat) : Sig := Sig.of [.v (.slice (.prod (.int .i64) (.prod (.int .i64) (.slice (.prod (.int .i64) (.int .i64)))))) false] [.v (.own (.int .i64)) false] (fun d => Zbt N d.1)
noncomputable def Zcm : Fn := ⟨Try.f52, fun | 5 => [.canon [0, 3, 4, 16]] | 6 => [.canon [0, 3, 4, 5]] | 7 => [.canon [0, 3, 4, 5, 6]] | 8 => [.canon [0, 3, 4, 5, 6, 20]] | 9 => [.canon [0, 3, 4, 5, 6]] | 10 => [.canon [0, 3, 4, 5, 6, 38]] | 11 => [.canon [0, 3, 4, 5, 6]] | 12 => [.canon [0, 3, 5]] | 13 => [.canon [0, 3, 4]] | 100005 => [.canon [0, 3, 4]] | 100008 => [.canon [0, 3, 4, 5, 6]] | _ => [], Zf0, fun N => [(11, Zdc N)]⟩
def Zla (l6 : List (Int × Int × List (Int × Int))) (last7 : Int) (best8 : Int) (i9 : Int) (l10 : List Int) : St := ⟨[(0, vV (.slice (.prod (.int .i64) (.prod (.int .i64) (.slice (.prod (.int .i64) (.int .i64)))))) l6), (3, vO 0), (4, vI last7), (5, vI best8), (6, vI i9)], [(0, .arr (.int .i64) l10)], 1⟩
def Zj2 (l6 : List (Int × Int × List (Int × Int))) (last7 : Int) (l10 : List Int) (best11 : Int) (i12 : Int) (t13 : Bool) : St := ⟨[(0, vV (.slice (.prod (.int .i64) (.prod (.int .i64) (.slice (.prod (.int .i64) (.int .i64)))))) l6), (3, vO 0), (4, vI last7), (5, vI best11), (6, vI i12), (20, vB t13)], [(0, .arr (.int .i64) l10)], 1⟩
theorem Zlb (N : Nat) {R : Type} (K : Ex → St → Option R) {l6 : List (Int × Int × List (Int × Int))} {last7 : Int} {l10 : List Int} {K0 : Int → Int → Bool → Option R} (h0 : K0 = fun best11 i12 t13 => K (.exit 2) (Zj2 l6 last7 l10 best11 i12 t13)) (n : Nat) (best8 : Int) (i9 : Int) : Z5 N l6 last7 l10 K0 n best8 i9 = LM Zcm N 1 100008 n (Zla l6 last7 best8 i9 l10) K := by
  subst h0
  induction n generalizing best8 i9 with
  | zero => kernel_rfl
  | succ n ih => rw [Z5]; simp (disch := exact id (by kernel_rfl)) only [ih]; kernel_rfl
def Zlc (l3 : List (Int × Int × List (Int × Int))) (last4 : Int) (l5 : List Int) : St := ⟨[(0, vV (.slice (.prod (.int .i64) (.prod (.int .i64) (.slice (.prod (.int .i64) (.int .i64)))))) l3), (3, vO 0), (4, vI last4)], [(0, .arr (.int .i64) l5)], 1⟩
def Zj3 (l3 : List (Int × Int × List (Int × Int))) (last17 : Int) (t18 : Bool) (l19 : List Int) : St := ⟨[(0, vV (.slice (.prod (.int .i64) (.prod (.int .i64) (.slice (.prod (.int .i64) (.int .i64)))))) l3), (3, vO 0), (4, vI last17), (16, vB t18)], [(0, .arr (.int .i64) l19)], 1⟩
theorem Zld (N : Nat) {R : Type} (K : Ex → St → Option R) {l3 : List (Int × Int × List (Int × Int))} {K0 : Int → Bool → (List Int) → Option R} (h0 : K0 = fun last17 t18 l19 => K (.exit 0) (Zj3 l3 last17 t18 l19)) (n : Nat) (last4 : Int) (l5 : List Int) : Za9 N l3 K0 n last4 l5 = LM Zcm N 0 100005 n (Zlc l3 last4 l5) K := by
  subst h0
  induction n generalizing last4 l5 with
  | zero => kernel_rfl
  | succ n ih => rw [Za9]; simp (disch := exact id (by kernel_rfl)) only [ih, Zlb N (CL Zcm N 0 100005 [1, 0, 1, 0, 1, 0] n K)]; kernel_rfl
theorem Zoo : Callable Try.prog 52 := callable_of Try.func52 (show chkFn Try.f52 = true by kernel_rfl)
theorem Zop (N : Nat) (l1 : List (Int × Int × List (Int × Int))) : DN Zcm N (l1, ()) = Zbt N l1 := by
  have h : Zbt N l1 = Zbt N l1 := rfl
  conv at h => rhs; rw [Zbt]
  simp (disch := exact id (by kernel_rfl)) only [Zld (R := Unit × ((List Int) × Unit)) N (CF Zcm N [1, 1, 1, 1, 0, 0])] at h
  exact Eq.trans (by kernel_rfl) h.symm
theorem Zoq (N : Nat) : Good Try.prog 52 (Zf0 N) := GF Zcm N Try.func52 (ctx_cons (Zfy N) Zfx ctx_nil) (by kernel_rfl) (fun d => Zop N d.1)
noncomputable def Zfj (N : Nat) : Sig := Sig.of [.v (.slice (.int .i64)) false, .v (.slice (.prod (.int .i64) (.int .i64))) false] [.v (.own (.int .i64)) false] (fun d => Za4 N d.1 d.2.1)
noncomputable def Zd1 : Fn := ⟨Try.f53, fun | 5 => [.canon [1, 5, 6, 22]] | 6 => [.canon [1, 5, 6]] | 7 => [.canon [1, 5, 6]] | 100005 => [.canon [1, 5, 6]] | _ => [], Zfj, fun N => [(51, Zem N), (41, Zch N)]⟩
def Zj4 (l5 : List (Int × Int)) (i6 : Int) (l7 : List Int) : St := ⟨[(1, vV (.slice (.prod (.int .i64) (.int .i64))) l5), (5, vO 0), (6, vI i6)], [(0, .arr (.int .i64) l7)], 1⟩
def Zi0 (l5 : List (Int × Int)) (i8 : Int) (t9 : Bool) (l10 : List Int) : St := ⟨[(1, vV (.slice (.prod (.int .i64) (.int .i64))) l5), (5, vO 0), (6, vI i8), (22, vB t9)], [(0, .arr (.int .i64) l10)], 1⟩
theorem Zj5 (N : Nat) {R : Type} (K : Ex → St → Option R) {l5 : List (Int × Int)} {K0 : Int → Bool → (List Int) → Option R} (h0 : K0 = fun i8 t9 l10 => K (.exit 0) (Zi0 l5 i8 t9 l10)) (n : Nat) (i6 : Int) (l7 : List Int) : Zaw N l5 K0 n i6 l7 = LM Zd1 N 0 100005 n (Zj4 l5 i6 l7) K := by
  subst h0
  induction n generalizing i6 l7 with
  | zero => kernel_rfl
  | succ n ih => rw [Zaw]; simp (disch := exact id (by kernel_rfl)) only [ih]; kernel_rfl
theorem Znw : Callable Try.prog 53 := callable_of Try.func53 (show chkFn Try.f53 = true by kernel_rfl)
theorem Znx (N : Nat) (cells1 : List Int) (l2 : List (Int × Int)) : DN Zd1 N (cells1, l2, ()) = Za4 N cells1 l2 := by
  have h : Za4 N cells1 l2 = Za4 N cells1 l2 := rfl
  conv at h => rhs; rw [Za4]
  simp (disch := exact id (by kernel_rfl)) only [Zj5 (R := Unit × ((List Int) × Unit)) N (CF Zd1 N [1, 1, 1, 0, 1, 0])] at h
  exact Eq.trans (by kernel_rfl) h.symm
theorem Zny (N : Nat) : Good Try.prog 53 (Zfj N) := GF Zd1 N Try.func53 (ctx_cons (Zht N) Zhs (ctx_cons (Zeg N) Zef ctx_nil)) (by kernel_rfl) (fun d => Znx N d.1 d.2.1)
noncomputable def Zfk (N : Nat) : Sig := Sig.of [.v (.slice (.int .i64)) false, .v (.slice (.prod (.int .i64) (.prod (.int .i64) (.slice (.prod (.int .i64) (.int .i64)))))) false, .v (.int .i64) false] [.v (.own (.int .i64)) false] (fun d => Zx N d.1 d.2.1 d.2.2.1)
noncomputable def Zb6 : Fn := ⟨Try.f17, fun | 6 => [.canon [1, 2, 7, 8, 9, 36]] | 7 => [.canon [1, 2, 7, 8, 9]] | 8 => [.canon [1, 2, 7, 8, 9, 10]] | 9 => [.canon [1, 2, 7, 8, 9, 10, 42]] | 10 => [.canon [1, 2, 7, 8, 9, 10]] | 11 => [.canon [1, 2, 7, 8, 9, 10, 54]] | 12 => [.canon [1, 2, 7, 8, 9, 10]] | 100006 => [.canon [1, 2, 7, 8, 9]] | 100009 => [.canon [1, 2, 7, 8, 9, 10]] | _ => [], Zfk, fun N => [(51, Zem N), (11, Zdc N), (52, Zf0 N), (53, Zfj N)]⟩
def Zj6 (l12 : List (Int × Int × List (Int × Int))) (n13 : Int) (i14 : Int) (k15 : Int) (l16 : List Int) (l17 : List Int) : St := ⟨[(1, vV (.slice (.prod (.int .i64) (.prod (.int .i64) (.slice (.prod (.int .i64) (.int .i64)))))) l12), (2, vI n13), (7, vO 0), (8, vO 1), (9, vI i14), (10, vI k15)], [(0, .arr (.int .i64) l16), (1, .arr (.int .i64) l17)], 2⟩
def Zi1 (l12 : List (Int × Int × List (Int × Int))) (n13 : Int) (i14 : Int) (l17 : List Int) (k19 : Int) (t20 : Bool) (l21 : List Int) : St := ⟨[(1, vV (.slice (.prod (.int .i64) (.prod (.int .i64) (.slice (.prod (.int .i64) (.int .i64)))))) l12), (2, vI n13), (7, vO 0), (8, vO 1), (9, vI i14), (10, vI k19), (42, vB t20)], [(0, .arr (.int .i64) l21), (1, .arr (.int .i64) l17)], 2⟩
theorem Zj7 (N : Nat) {R : Type} (K : Ex → St → Option R) {l12 : List (Int × Int × List (Int × Int))} {n13 : Int} {i14 : Int} {l17 : List Int} {K0 : Int → Bool → (List Int) → Option R} (h0 : K0 = fun k19 t20 l21 => K (.exit 2) (Zi1 l12 n13 i14 l17 k19 t20 l21)) (n : Nat) (k15 : Int) (l16 : List Int) : Z8 N l12 n13 i14 l17 K0 n k15 l16 = LM Zb6 N 1 100009 n (Zj6 l12 n13 i14 k15 l16 l17) K := by
  subst h0
  induction n generalizing k15 l16 with
  | zero => kernel_rfl
  | succ n ih => rw [Z8]; simp (disch := exact id (by kernel_rfl)) only [ih]; kernel_rfl
def Zj8 (l7 : List (Int × Int × List (Int × Int))) (n8 : Int) (i9 : Int) (l10 : List Int) (l11 : List Int) : St := ⟨[(1, vV (.slice (.prod (.int .i64) (.prod (.int .i64) (.slice (.prod (.int .i64) (.int .i64)))))) l7), (2, vI n8), (7, vO 0), (8, vO 1), (9, vI i9)], [(0, .arr (.int .i64) l10), (1, .arr (.int .i64) l11)], 2⟩
def Zi2 (l7 : List (Int × Int × List (Int × Int))) (n8 : Int) (l11 : List Int) (i26 : Int) (t27 : Bool) (l28 : List Int) : St := ⟨[(1, vV (.slice (.prod (.int .i64) (.prod (.int .i64) (.slice (.prod (.int .i64) (.int .i64)))))) l7), (2, vI n8), (7, vO 0), (8, vO 1), (9, vI i26), (36, vB t27)], [(0, .arr (.int .i64) l28), (1, .arr (.int .i64) l11)], 2⟩
theorem Zj9 (N : Nat) {R : Type} (K : Ex → St → Option R) {l7 : List (Int × Int × List (Int × Int))} {n8 : Int} {l11 : List Int} {K0 : Int → Bool → (List Int) → Option R} (h0 : K0 = fun i26 t27 l28 => K (.exit 0) (Zi2 l7 n8 l11 i26 t27 l28)) (n : Nat) (i9 : Int) (l10 : List Int) : Zax N l7 n8 l11 K0 n i9 l10 = LM Zb6 N 0 100006 n (Zj8 l7 n8 i9 l10 l11) K := by
  subst h0
  induction n generalizing i9 l10 with
  | zero => kernel_rfl
  | succ n ih => rw [Zax]; simp (disch := exact id (by kernel_rfl)) only [ih, Zj7 N (CL Zb6 N 0 100006 [1, 0, 0, 1, 0] n K)]; kernel_rfl
theorem Znz : Callable Try.prog 17 := callable_of Try.func17 (show chkFn Try.f17 = true by kernel_rfl)
theorem Zn0 (N : Nat) (cells1 : List Int) (l2 : List (Int × Int × List (Int × Int))) (n3 : Int) : DN Zb6 N (cells1, l2, n3, ()) = Zx N cells1 l2 n3 := by
  have h : Zx N cells1 l2 n3 = Zx N cells1 l2 n3 := rfl
  conv at h => rhs; rw [Zx]
  simp (disch := exact id (by kernel_rfl)) only [Zj9 (R := Unit × ((List Int) × Unit)) N (CF Zb6 N [1, 1, 1, 1, 0, 1, 0])] at h
  exact Eq.trans (by kernel_rfl) h.symm
theorem Zn1 (N : Nat) : Good Try.prog 17 (Zfk N) := GF Zb6 N Try.func17 (ctx_cons (Zht N) Zhs (ctx_cons (Zfy N) Zfx (ctx_cons (Zoq N) Zoo (ctx_cons (Zny N) Znw ctx_nil)))) (by kernel_rfl) (fun d => Zn0 N d.1 d.2.1 d.2.2.1)
noncomputable def Ze9 (N : Nat) : Sig := Sig.of [.v (.slice (.int .i64)) false, .v (.slice (.int .i64)) false] [.v (.bool) false] (fun d => Zs N d.1 d.2.1)
noncomputable def Zdk : Fn := ⟨Try.f16, fun | 4 => [.canon [0, 1, 5, 14]] | 5 => [.canon [0, 1, 5]] | 6 => [.canon [0, 1, 5, 25]] | 7 => [.canon [4]] | 100004 => [.canon [0, 1, 5]] | _ => [], Ze9, noCtx⟩
def Zi3 (a3 : List Int) (b4 : List Int) (i5 : Int) : St := ⟨[(0, vV (.slice (.int .i64)) a3), (1, vV (.slice (.int .i64)) b4), (5, vI i5)], [], 0⟩
def Zh9 (a3 : List Int) (b4 : List Int) : St := ⟨[(4, vB false)], [], 0⟩
def Zia (a3 : List Int) (b4 : List Int) (i6 : Int) (t7 : Bool) : St := ⟨[(0, vV (.slice (.int .i64)) a3), (1, vV (.slice (.int .i64)) b4), (5, vI i6), (14, vB t7)], [], 0⟩
theorem Zi4 (N : Nat) {R : Type} (K : Ex → St → Option R) {a3 : List Int} {b4 : List Int} {K0 : Option R} {K1 : Int → Bool → Option R} (h0 : K0 = K .ret (Zh9 a3 b4)) (h1 : K1 = fun i6 t7 => K (.exit 0) (Zia a3 b4 i6 t7)) (n : Nat) (i5 : Int) : Zap N a3 b4 K0 K1 n i5 = LM Zdk N 0 100004 n (Zi3 a3 b4 i5) K := by
  subst h0 h1
  induction n generalizing i5 with
  | zero => kernel_rfl
  | succ n ih => rw [Zap]; simp (disch := exact id (by kernel_rfl)) only [ih]; kernel_rfl
theorem Zmo : Callable Try.prog 16 := callable_of Try.func16 (show chkFn Try.f16 = true by kernel_rfl)
theorem Zmp (N : Nat) (a1 : List Int) (b2 : List Int) : DN Zdk N (a1, b2, ()) = Zs N a1 b2 := by
  have h : Zs N a1 b2 = Zs N a1 b2 := rfl
  conv at h => rhs; rw [Zs]
  simp (disch := exact id (by kernel_rfl)) only [Zi4 (R := Unit × (Bool × Unit)) N (CF Zdk N [1, 1, 0, 1, 0])] at h
  exact Eq.trans (by kernel_rfl) h.symm
theorem Zmq (N : Nat) : Good Try.prog 16 (Ze9 N) := GF Zdk N Try.func16 ctx_nil (by kernel_rfl) (fun d => Zmp N d.1 d.2.1)
noncomputable def Zge (N : Nat) : Sig := Sig.of [.v (.slice (.int .u8)) false] [.v (.bool) false] (fun d => Zcw N d.1)
noncomputable def Zl5 : Fn := ⟨Try.f3, fun | 12 => [.view 80] | 22 => [.view 147] | _ => [], Zge, fun N => [(6, Zgs N), (7, Zcx N), (8, Zbn N), (9, Zcq N), (10, Ze8 N), (11, Zdc N), (12, Zh6 N), (13, Zd7 N), (14, Zdz N), (15, Zdp N), (17, Zfk N), (16, Ze9 N)]⟩
theorem Zpw : Callable Try.prog 3 := callable_of Try.func3 (show chkFn Try.f3 = true by kernel_rfl)
theorem Zl6 (N : Nat) : Good Try.prog 3 (Zge N) := GF Zl5 N Try.func3 (ctx_cons (Zph N) Zpg (ctx_cons (Zgz N) Zgy (ctx_cons (Zdx N) Zdw (ctx_cons (Zft N) Zfs (ctx_cons (Zmm N) Zmk (ctx_cons (Zfy N) Zfx (ctx_cons (Zpv N) Zpu (ctx_cons (Zk4 N) Zk3 (ctx_cons (Zjx N) Zjw (ctx_cons (Ziz N) Zix (ctx_cons (Zn1 N) Znz (ctx_cons (Zmq N) Zmo ctx_nil)))))))))))) (by kernel_rfl) (fun d => by kernel_rfl)
end Go.Sx
