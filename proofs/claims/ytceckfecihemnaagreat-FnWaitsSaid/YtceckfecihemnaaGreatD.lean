/- Each Go function does what its Lean function says. -/
import Derived.Test.YtceckfecihemnaaGreatT2
import Derived.Test.YtceckfecihemnaaGreatProg
import Derived.Test.YtceckfecihemnaaGreatLay
namespace Go.Sx
open Go.Proofs
set_option linter.unusedVariables false
set_option linter.unusedSimpArgs false
def tab : Tab := [(3, ⟨.int .i64, false, .basic⟩), (4, ⟨.bool, false, .basic⟩), (5, ⟨.int .u8, false, .basic⟩), (23, ⟨.slice (.int .i64), false, .slice 3⟩), (26, ⟨.prod (.int .i64) (.prod (.slice (.int .i64)) (.prod (.slice (.int .i64)) (.slice (.int .i64)))), true, .struct [(0, 3), (1, 23), (2, 23), (3, 23)]⟩), (28, ⟨.slice (.slice (.prod (.int .i64) (.prod (.int .i64) (.prod (.int .i64) (.int .i64))))), false, .slice 63⟩), (41, ⟨.slice (.prod (.int .i64) (.int .i64)), false, .slice 52⟩), (45, ⟨.slice (.int .u8), false, .slice 5⟩), (52, ⟨.prod (.int .i64) (.int .i64), true, .struct [(0, 3), (1, 3)]⟩), (58, ⟨.slice (.bool), false, .slice 4⟩), (61, ⟨.slice (.prod (.int .i64) (.prod (.int .i64) (.prod (.int .i64) (.int .i64)))), false, .slice 90⟩), (63, ⟨.slice (.prod (.int .i64) (.prod (.int .i64) (.prod (.int .i64) (.int .i64)))), true, .struct [(0, 61)]⟩), (84, ⟨.prod (.slice (.int .i64)) (.prod (.slice (.int .i64)) (.int .i64)), true, .struct [(0, 23), (1, 23), (2, 3)]⟩), (86, ⟨.prod (.int .i64) (.prod (.slice (.int .i64)) (.prod (.slice (.int .i64)) (.prod (.slice (.int .i64)) (.int .i64)))), true, .struct [(0, 3), (1, 23), (2, 84)]⟩), (88, ⟨.slice (.prod (.int .i64) (.prod (.slice (.int .i64)) (.prod (.slice (.int .i64)) (.slice (.bool))))), false, .slice 93⟩), (90, ⟨.prod (.int .i64) (.prod (.int .i64) (.prod (.int .i64) (.int .i64))), true, .struct [(0, 3), (1, 3), (2, 3), (3, 3)]⟩), (93, ⟨.prod (.int .i64) (.prod (.slice (.int .i64)) (.prod (.slice (.int .i64)) (.slice (.bool)))), true, .struct [(0, 3), (1, 23), (2, 23), (3, 58)]⟩), (103, ⟨.slice (.prod (.int .i64) (.prod (.int .i64) (.slice (.int .i64)))), false, .slice 135⟩), (105, ⟨.prod (.slice (.int .i64)) (.prod (.slice (.int .i64)) (.prod (.slice (.prod (.int .i64) (.int .i64))) (.prod (.int .i64) (.prod (.slice (.prod (.int .i64) (.prod (.int .i64) (.slice (.int .i64))))) (.slice (.int .i64)))))), true, .struct [(0, 23), (1, 23), (2, 41), (3, 3), (4, 103), (5, 23)]⟩), (112, ⟨.prod (.slice (.int .u8)) (.prod (.int .i64) (.int .i64)), true, .struct [(0, 45), (1, 3), (2, 3)]⟩), (119, ⟨.slice (.prod (.int .i64) (.prod (.slice (.int .i64)) (.prod (.slice (.int .i64)) (.prod (.slice (.int .i64)) (.int .i64))))), false, .slice 121⟩), (121, ⟨.prod (.int .i64) (.prod (.slice (.int .i64)) (.prod (.slice (.int .i64)) (.prod (.slice (.int .i64)) (.int .i64)))), true, .struct [(0, 3), (1, 23), (2, 84)]⟩), (126, ⟨.slice (.prod (.int .i64) (.prod (.slice (.int .i64)) (.prod (.slice (.int .i64)) (.prod (.slice (.int .i64)) (.int .i64))))), false, .slice 128⟩), (128, ⟨.prod (.int .i64) (.prod (.slice (.int .i64)) (.prod (.slice (.int .i64)) (.prod (.slice (.int .i64)) (.int .i64)))), true, .struct [(0, 3), (1, 23), (2, 84)]⟩), (135, ⟨.prod (.int .i64) (.prod (.int .i64) (.slice (.int .i64))), true, .struct [(0, 3), (1, 3), (2, 23)]⟩)]
theorem mixedOk : Tryz.prog.follows .mixedOrders = true := by kernel_rfl
theorem tabOk : TabOk Tryz.prog tab := tab_ok (show chkTab Tryz.prog tab tab = true by kernel_rfl)
noncomputable def LM (x : Fn) (N : Nat) {R : Type} (i k n : Nat) (st : St) (K : Ex → St → Option R) : Option R := lpM tab (x.c N) x.a N x.F i k n st K
noncomputable def CF (x : Fn) (N : Nat) (p : List Nat) : Ex → St → Option (Qs (x.s N)) := cxF tab (x.c N) x.a N (x.s N) x.F p
noncomputable def CL (x : Fn) (N : Nat) {R : Type} (i k : Nat) (p : List Nat) (n : Nat) (K : Ex → St → Option R) : Ex → St → Option R := cxL tab (x.c N) x.a N x.F i k p n K
noncomputable def DN (x : Fn) (N : Nat) (d : PDen (x.s N).ps) : Option (Qs (x.s N)) := den (R := Qs (x.s N)) tab (x.c N) x.a N (x.s N) x.F d some
theorem GF (x : Fn) {k : FuncId} (N : Nat) (hf : Tryz.prog.funcs[k]? = some x.F) (hc : CtxOk Tryz.prog (x.c N)) (hok : chkBody x.F (x.s N).ps = true) (h : ∀ d, DN x N d = (x.s N).run d) : Good Tryz.prog k (x.s N) :=
  good_body mixedOk tabOk hc hf hok (fun d _ e => ⟨N, (h d).trans e⟩)
noncomputable def Zjq (N : Nat) : Sig := Sig.of [.v (.slice (.int .u8)) false] [.v (.bool) false] (fun d => Zh8 N d.1)
noncomputable def Zt0 : Fn := ⟨Tryz.f23, noAnn, Zjq, noCtx⟩
theorem Zt1 : Callable Tryz.prog 23 := callable_of Tryz.func23 (show chkFn Tryz.f23 = true by kernel_rfl)
theorem Zt2 (N : Nat) : Good Tryz.prog 23 (Zjq N) := GF Zt0 N Tryz.func23 ctx_nil (by kernel_rfl) (fun d => by kernel_rfl)
noncomputable def Zit (N : Nat) : Sig := Sig.of [.v (.slice (.int .u8)) false] [.box (.prod (.slice (.int .u8)) (.prod (.int .i64) (.int .i64)))] (fun d => Zcf N d.1)
noncomputable def Zg0 : Fn := ⟨Tryz.f47, fun | 3 => [.canon [0, 3, 4, 15]] | 4 => [.canon [0, 3, 4]] | 5 => [.canon [0, 3, 4]] | 100003 => [.canon [0, 3, 4]] | _ => [], Zit, noCtx⟩
def Zpe (code2 : List Int) (h3 : Int) (i4 : Int) : St := ⟨[(0, vV (.slice (.int .u8)) code2), (3, vI h3), (4, vI i4)], [], 0⟩
def Znh (code2 : List Int) (h5 : Int) (i6 : Int) (t7 : Bool) : St := ⟨[(0, vV (.slice (.int .u8)) code2), (3, vI h5), (4, vI i6), (15, vB t7)], [], 0⟩
theorem Zpf (N : Nat) {R : Type} (K : Ex → St → Option R) {code2 : List Int} {K0 : Int → Int → Bool → Option R} (h0 : K0 = fun h5 i6 t7 => K (.exit 0) (Znh code2 h5 i6 t7)) (n : Nat) (h3 : Int) (i4 : Int) : Zbo N code2 K0 n h3 i4 = LM Zg0 N 0 100003 n (Zpe code2 h3 i4) K := by
  subst h0
  induction n generalizing h3 i4 with
  | zero => kernel_rfl
  | succ n ih => rw [Zbo]; simp (disch := exact id (by kernel_rfl)) only [ih]; kernel_rfl
theorem Zs2 : Callable Tryz.prog 47 := callable_of Tryz.func47 (show chkFn Tryz.f47 = true by kernel_rfl)
theorem Zs3 (N : Nat) (code1 : List Int) : DN Zg0 N (code1, ()) = Zcf N code1 := by
  have h : Zcf N code1 = Zcf N code1 := rfl
  conv at h => rhs; rw [Zcf]
  simp (disch := exact id (by kernel_rfl)) only [Zpf (R := Unit × ((List Int × Int × Int) × Unit)) N (CF Zg0 N [1, 1, 0, 1, 0])] at h
  exact Eq.trans (by kernel_rfl) h.symm
theorem Zs4 (N : Nat) : Good Tryz.prog 47 (Zit N) := GF Zg0 N Tryz.func47 ctx_nil (by kernel_rfl) (fun d => Zs3 N d.1)
noncomputable def Zic (N : Nat) : Sig := Sig.of [.box (.prod (.slice (.int .u8)) (.prod (.int .i64) (.int .i64)))] [.v (.int .i64) false] (fun d => Zdc N d.1)
noncomputable def Zru : Fn := ⟨Tryz.f112, noAnn, Zic, noCtx⟩
theorem Zrv : Callable Tryz.prog 112 := callable_of Tryz.func112 (show chkFn Tryz.f112 = true by kernel_rfl)
theorem Zrw (N : Nat) : Good Tryz.prog 112 (Zic N) := GF Zru N Tryz.func112 ctx_nil (by kernel_rfl) (fun d => by kernel_rfl)
noncomputable def Z3 (N : Nat) : Sig := Sig.of [.box (.prod (.slice (.int .u8)) (.prod (.int .i64) (.int .i64))), .v (.int .i64) false] [.v (.int .i64) false] (fun d => Zf N d.1 d.2.1)
noncomputable def Zqs : Fn := ⟨Tryz.f76, noAnn, Z3, fun N => [(112, Zic N)]⟩
theorem Z8 : Callable Tryz.prog 76 := callable_of Tryz.func76 (show chkFn Tryz.f76 = true by kernel_rfl)
theorem Z9 (N : Nat) : Good Tryz.prog 76 (Z3 N) := GF Zqs N Tryz.func76 (ctx_cons (Zrw N) Zrv ctx_nil) (by kernel_rfl) (fun d => by kernel_rfl)
noncomputable def Zer (N : Nat) : Sig := Sig.of [.box (.prod (.slice (.int .u8)) (.prod (.int .i64) (.int .i64)))] [.v (.int .i64) false] (fun d => Zc N d.1)
noncomputable def Zpg : Fn := ⟨Tryz.f130, noAnn, Zer, fun N => [(76, Z3 N)]⟩
theorem Zi6 : Callable Tryz.prog 130 := callable_of Tryz.func130 (show chkFn Tryz.f130 = true by kernel_rfl)
theorem Zi7 (N : Nat) : Good Tryz.prog 130 (Zer N) := GF Zpg N Tryz.func130 (ctx_cons (Z9 N) Z8 ctx_nil) (by kernel_rfl) (fun d => by kernel_rfl)
noncomputable def Za6 (N : Nat) : Sig := Sig.of [.box (.prod (.slice (.int .u8)) (.prod (.int .i64) (.int .i64))), .v (.int .i64) false] [.v (.bool) false] (fun d => Zv N d.1 d.2.1)
noncomputable def Zrx : Fn := ⟨Tryz.f50, noAnn, Za6, fun N => [(76, Z3 N)]⟩
theorem Zb9 : Callable Tryz.prog 50 := callable_of Tryz.func50 (show chkFn Tryz.f50 = true by kernel_rfl)
theorem Zca (N : Nat) : Good Tryz.prog 50 (Za6 N) := GF Zrx N Tryz.func50 (ctx_cons (Z9 N) Z8 ctx_nil) (by kernel_rfl) (fun d => by kernel_rfl)
noncomputable def Zes (N : Nat) : Sig := Sig.of [.box (.prod (.slice (.int .u8)) (.prod (.int .i64) (.int .i64))), .v (.slice (.int .i64)) false] [.v (.int .i64) false] (fun d => Zav N d.1 d.2.1)
noncomputable def Zph : Fn := ⟨Tryz.f113, noAnn, Zes, fun N => [(76, Z3 N)]⟩
theorem Zi8 : Callable Tryz.prog 113 := callable_of Tryz.func113 (show chkFn Tryz.f113 = true by kernel_rfl)
theorem Zi9 (N : Nat) : Good Tryz.prog 113 (Zes N) := GF Zph N Tryz.func113 (ctx_cons (Z9 N) Z8 ctx_nil) (by kernel_rfl) (fun d => by kernel_rfl)
noncomputable def Zdx (N : Nat) : Sig := Sig.of [.box (.prod (.slice (.int .u8)) (.prod (.int .i64) (.int .i64)))] [.v (.int .i64) false] (fun d => Zd4 N d.1)
noncomputable def Zry : Fn := ⟨Tryz.f77, noAnn, Zdx, fun N => [(50, Za6 N), (113, Zes N), (76, Z3 N)]⟩
theorem Zfz : Callable Tryz.prog 77 := callable_of Tryz.func77 (show chkFn Tryz.f77 = true by kernel_rfl)
theorem Zf0 (N : Nat) : Good Tryz.prog 77 (Zdx N) := GF Zry N Tryz.func77 (ctx_cons (Zca N) Zb9 (ctx_cons (Zi9 N) Zi8 (ctx_cons (Z9 N) Z8 ctx_nil))) (by kernel_rfl) (fun d => by kernel_rfl)
noncomputable def Zdj (N : Nat) : Sig := Sig.of [.box (.prod (.slice (.int .u8)) (.prod (.int .i64) (.int .i64)))] [.v (.int .i64) false] (fun d => Zaj N d.1)
noncomputable def Zni : Fn := ⟨Tryz.f79, noAnn, Zdj, fun N => [(50, Za6 N), (76, Z3 N)]⟩
theorem Zft : Callable Tryz.prog 79 := callable_of Tryz.func79 (show chkFn Tryz.f79 = true by kernel_rfl)
theorem Zfu (N : Nat) : Good Tryz.prog 79 (Zdj N) := GF Zni N Tryz.func79 (ctx_cons (Zca N) Zb9 (ctx_cons (Z9 N) Z8 ctx_nil)) (by kernel_rfl) (fun d => by kernel_rfl)
noncomputable def Zgs (N : Nat) : Sig := Sig.of [.box (.prod (.slice (.int .u8)) (.prod (.int .i64) (.int .i64)))] [.v (.int .i64) false] (fun d => Zj N d.1)
noncomputable def Zpi : Fn := ⟨Tryz.f138, noAnn, Zgs, fun N => [(50, Za6 N), (76, Z3 N), (113, Zes N)]⟩
theorem Zpj : Callable Tryz.prog 138 := callable_of Tryz.func138 (show chkFn Tryz.f138 = true by kernel_rfl)
theorem Zpk (N : Nat) : Good Tryz.prog 138 (Zgs N) := GF Zpi N Tryz.func138 (ctx_cons (Zca N) Zb9 (ctx_cons (Z9 N) Z8 (ctx_cons (Zi9 N) Zi8 ctx_nil))) (by kernel_rfl) (fun d => by kernel_rfl)
noncomputable def Zhs (N : Nat) : Sig := Sig.of [.box (.prod (.slice (.int .u8)) (.prod (.int .i64) (.int .i64))), .v (.int .i64) false] [.v (.prod (.int .i64) (.prod (.int .i64) (.prod (.int .i64) (.int .i64)))) true] (fun d => Zi N d.1 d.2.1)
noncomputable def Zqt : Fn := ⟨Tryz.f136, noAnn, Zhs, fun N => [(130, Zer N), (77, Zdx N), (79, Zdj N), (76, Z3 N), (138, Zgs N)]⟩
theorem Zqu : Callable Tryz.prog 136 := callable_of Tryz.func136 (show chkFn Tryz.f136 = true by kernel_rfl)
theorem Zqv (N : Nat) : Good Tryz.prog 136 (Zhs N) := GF Zqt N Tryz.func136 (ctx_cons (Zi7 N) Zi6 (ctx_cons (Zf0 N) Zfz (ctx_cons (Zfu N) Zft (ctx_cons (Z9 N) Z8 (ctx_cons (Zpk N) Zpj ctx_nil))))) (by kernel_rfl) (fun d => by kernel_rfl)
noncomputable def Zf1 (N m : Nat) : Sig := Sig.of [.box (.prod (.slice (.int .u8)) (.prod (.int .i64) (.int .i64))), .v (.int .i64) false, .v (.int .i64) false, .v (.bool) false] [.v (.own (.prod (.int .i64) (.prod (.int .i64) (.prod (.int .i64) (.int .i64))))) false] (fun d => Zbg N m d.1 d.2.1 d.2.2.1 d.2.2.2.1)
noncomputable def Zk5 (N : Nat) : Sig := Zf1 N N
noncomputable def Zg1 (m : Nat) : Fn := ⟨Tryz.f129, fun | 3 => [.canon [0, 1, 2, 3, 9, 10, 27]] | 4 => [.canon [0, 1, 2, 3, 9, 10]] | 5 => [.canon [0, 1, 2, 3, 9, 10, 11]] | 6 => [.canon [0, 1, 2, 3, 9, 10]] | 7 => [.canon [0, 1, 2, 3, 9, 10, 11, 40]] | 8 => [.canon [0, 1, 2, 3, 9, 10]] | 9 => [.canon [0, 1, 2, 3, 9, 10, 11, 48]] | 10 => [.canon [0, 1, 2, 3, 9, 10]] | 11 => [.canon [0, 1, 2, 3, 9, 10, 11, 56]] | 12 => [.canon [0, 1, 2, 3, 9, 10]] | 13 => [.canon [0, 1, 2, 3, 9, 10, 11, 67]] | 14 => [.canon [0, 1, 2, 3, 9, 10, 12]] | 15 => [.canon [0, 1, 2, 3, 9, 10, 12]] | 16 => [.canon [0, 1, 2, 3, 9, 10]] | 17 => [.canon [0, 1, 2, 3, 9, 10, 100]] | 18 => [.canon [0, 1, 2, 3, 9, 10]] | 19 => [.canon [0, 1, 2, 3, 9, 10]] | 20 => [.canon [0, 1, 2, 3, 9, 10, 11, 109]] | 21 => [.canon [0, 1, 2, 3, 9, 10, 13]] | 22 => [.canon [0, 1, 2, 3, 9, 10, 13, 14]] | 23 => [.canon [0, 1, 2, 3, 9, 10, 13, 14]] | 24 => [.canon [0, 1, 2, 3, 9, 10, 13]] | 25 => [.canon [0, 1, 2, 3, 9, 10]] | 26 => [.canon [0, 1, 2, 3, 9, 10, 134]] | 27 => [.canon [0, 1, 2, 3, 9, 10]] | 28 => [.canon [0, 1, 2, 3, 9, 10, 145]] | 29 => [.canon [0, 1, 2, 3, 9, 10]] | 100003 => [.canon [0, 1, 2, 3, 9, 10]] | _ => [], fun N => Zf1 N (m + 1), fun N => [(76, Z3 N), (136, Zhs N), (129, Zf1 N m), (50, Za6 N)]⟩
def Zpl (most6 : Int) (deep7 : Int) (kid8 : Bool) (n9 : Int) (b10 : List Int × Int × Int) (l11 : List (Int × Int × Int × Int)) : St := ⟨[(0, vP 0 0), (1, vI most6), (2, vI deep7), (3, vB kid8), (9, vO 1), (10, vI n9)], [(0, .box [.val (.slice (.int .u8)) b10.1, .val (.int .i64) b10.2.1, .val (.int .i64) b10.2.2]), (1, .arr (.prod (.int .i64) (.prod (.int .i64) (.prod (.int .i64) (.int .i64)))) l11)], 2⟩
def Znj (most6 : Int) (deep7 : Int) (kid8 : Bool) (n80 : Int) (t81 : Bool) (b82 : List Int × Int × Int) (l83 : List (Int × Int × Int × Int)) : St := ⟨[(0, vP 0 0), (1, vI most6), (2, vI deep7), (3, vB kid8), (9, vO 1), (10, vI n80), (27, vB t81)], [(0, .box [.val (.slice (.int .u8)) b82.1, .val (.int .i64) b82.2.1, .val (.int .i64) b82.2.2]), (1, .arr (.prod (.int .i64) (.prod (.int .i64) (.prod (.int .i64) (.int .i64)))) l83)], 2⟩
theorem Zpm (N m : Nat) {R : Type} (K : Ex → St → Option R) {most6 : Int} {deep7 : Int} {kid8 : Bool} {K0 : Int → Bool → (List Int × Int × Int) → (List (Int × Int × Int × Int)) → Option R} (h0 : K0 = fun n80 t81 b82 l83 => K (.exit 0) (Znj most6 deep7 kid8 n80 t81 b82 l83)) (n : Nat) (n9 : Int) (b10 : List Int × Int × Int) (l11 : List (Int × Int × Int × Int)) : Zg N (Zbg N m) most6 deep7 kid8 K0 n n9 b10 l11 = LM (Zg1 m) N 0 100003 n (Zpl most6 deep7 kid8 n9 b10 l11) K := by
  subst h0
  induction n generalizing n9 b10 l11 with
  | zero => kernel_rfl
  | succ n ih => rw [Zg]; simp (disch := exact id (by kernel_rfl)) only [ih]; kernel_rfl
theorem Zk6 : Callable Tryz.prog 129 := callable_of Tryz.func129 (show chkFn Tryz.f129 = true by kernel_rfl)
theorem Zs5 (N m : Nat) (c1 : List Int × Int × Int) (most2 : Int) (deep3 : Int) (kid4 : Bool) : DN (Zg1 m) N (c1, most2, deep3, kid4, ()) = Zbg N (m + 1) c1 most2 deep3 kid4 := by
  have h : Zbg N (m + 1) c1 most2 deep3 kid4 = Zbg N (m + 1) c1 most2 deep3 kid4 := rfl
  conv at h => rhs; rw [Zbg]
  simp (disch := exact id (by kernel_rfl)) only [Zpm (R := ((List Int × Int × Int) × Unit) × ((List (Int × Int × Int × Int)) × Unit)) N m (CF (Zg1 m) N [1, 1, 0, 1, 0])] at h
  exact Eq.trans (by kernel_rfl) h.symm
theorem Zkd (N : Nat) : ∀ m, Good Tryz.prog 129 (Zf1 N m)
  | 0 => fun d o h => nomatch (show none = some o from h)
  | m + 1 => GF (Zg1 m) N Tryz.func129 (ctx_cons (Z9 N) Z8 (ctx_cons (Zqv N) Zqu (ctx_cons (Zkd N m) Zk6 (ctx_cons (Zca N) Zb9 ctx_nil)))) (by kernel_rfl) (fun d => Zs5 N m d.1 d.2.1 d.2.2.1 d.2.2.2.1)
theorem Zs6 (N : Nat) : Good Tryz.prog 129 (Zk5 N) := Zkd N N
noncomputable def Zht (N : Nat) : Sig := Sig.of [.box (.prod (.slice (.int .u8)) (.prod (.int .i64) (.int .i64)))] [.v (.own (.prod (.int .i64) (.prod (.int .i64) (.prod (.int .i64) (.int .i64))))) false] (fun d => Zgy N d.1)
noncomputable def Zqw : Fn := ⟨Tryz.f111, noAnn, Zht, fun N => [(129, Zk5 N), (50, Za6 N), (79, Zdj N), (130, Zer N), (76, Z3 N)]⟩
theorem Zqx : Callable Tryz.prog 111 := callable_of Tryz.func111 (show chkFn Tryz.f111 = true by kernel_rfl)
theorem Zqy (N : Nat) : Good Tryz.prog 111 (Zht N) := GF Zqw N Tryz.func111 (ctx_cons (Zs6 N) Zk6 (ctx_cons (Zca N) Zb9 (ctx_cons (Zfu N) Zft (ctx_cons (Zi7 N) Zi6 (ctx_cons (Z9 N) Z8 ctx_nil))))) (by kernel_rfl) (fun d => by kernel_rfl)
noncomputable def Zhu (N : Nat) : Sig := Sig.of [.box (.prod (.slice (.int .u8)) (.prod (.int .i64) (.int .i64)))] [.v (.own (.slice (.prod (.int .i64) (.prod (.int .i64) (.prod (.int .i64) (.int .i64)))))) false] (fun d => Zdl N d.1)
noncomputable def Zfc : Fn := ⟨Tryz.f75, fun | 3 => [.canon [0, 3, 4, 9]] | 4 => [.canon [0, 3, 4]] | 5 => [.canon [0, 3, 4]] | 100003 => [.canon [0, 3, 4]] | _ => [], Zhu, fun N => [(76, Z3 N), (111, Zht N)]⟩
def Zlm (n3 : Int) (b4 : List Int × Int × Int) (l5 : List (List (Int × Int × Int × Int))) : St := ⟨[(0, vP 0 0), (3, vO 1), (4, vI n3)], [(0, .box [.val (.slice (.int .u8)) b4.1, .val (.int .i64) b4.2.1, .val (.int .i64) b4.2.2]), (1, .arr (.slice (.prod (.int .i64) (.prod (.int .i64) (.prod (.int .i64) (.int .i64))))) l5)], 2⟩
def Zk7 (n7 : Int) (t8 : Bool) (b9 : List Int × Int × Int) (l10 : List (List (Int × Int × Int × Int))) : St := ⟨[(0, vP 0 0), (3, vO 1), (4, vI n7), (9, vB t8)], [(0, .box [.val (.slice (.int .u8)) b9.1, .val (.int .i64) b9.2.1, .val (.int .i64) b9.2.2]), (1, .arr (.slice (.prod (.int .i64) (.prod (.int .i64) (.prod (.int .i64) (.int .i64))))) l10)], 2⟩
theorem Zln (N : Nat) {R : Type} (K : Ex → St → Option R) {K0 : Int → Bool → (List Int × Int × Int) → (List (List (Int × Int × Int × Int))) → Option R} (h0 : K0 = fun n7 t8 b9 l10 => K (.exit 0) (Zk7 n7 t8 b9 l10)) (n : Nat) (n3 : Int) (b4 : List Int × Int × Int) (l5 : List (List (Int × Int × Int × Int))) : Zbu N K0 n n3 b4 l5 = LM Zfc N 0 100003 n (Zlm n3 b4 l5) K := by
  subst h0
  induction n generalizing n3 b4 l5 with
  | zero => kernel_rfl
  | succ n ih => rw [Zbu]; simp (disch := exact id (by kernel_rfl)) only [ih]; kernel_rfl
theorem Zqz : Callable Tryz.prog 75 := callable_of Tryz.func75 (show chkFn Tryz.f75 = true by kernel_rfl)
theorem Zq0 (N : Nat) (c1 : List Int × Int × Int) : DN Zfc N (c1, ()) = Zdl N c1 := by
  have h : Zdl N c1 = Zdl N c1 := rfl
  conv at h => rhs; rw [Zdl]
  simp (disch := exact id (by kernel_rfl)) only [Zln (R := ((List Int × Int × Int) × Unit) × ((List (List (Int × Int × Int × Int))) × Unit)) N (CF Zfc N [1, 1, 0, 1, 0])] at h
  exact Eq.trans (by kernel_rfl) h.symm
theorem Zq1 (N : Nat) : Good Tryz.prog 75 (Zhu N) := GF Zfc N Tryz.func75 (ctx_cons (Z9 N) Z8 (ctx_cons (Zqy N) Zqx ctx_nil)) (by kernel_rfl) (fun d => Zq0 N d.1)
noncomputable def Zfv (N : Nat) : Sig := Sig.of [.box (.prod (.slice (.int .u8)) (.prod (.int .i64) (.int .i64)))] [.v (.own (.int .i64)) false] (fun d => Zbh N d.1)
noncomputable def Zel : Fn := ⟨Tryz.f78, fun | 3 => [.canon [0, 3, 4, 7]] | 4 => [.canon [0, 3, 4]] | 5 => [.canon [0, 3, 4]] | 100003 => [.canon [0, 3, 4]] | _ => [], Zfv, fun N => [(77, Zdx N)]⟩
def Zj2 (i2 : Int) (b3 : List Int × Int × Int) (l4 : List Int) : St := ⟨[(0, vP 0 0), (3, vO 1), (4, vI i2)], [(0, .box [.val (.slice (.int .u8)) b3.1, .val (.int .i64) b3.2.1, .val (.int .i64) b3.2.2]), (1, .arr (.int .i64) l4)], 2⟩
def Zjr (i6 : Int) (t7 : Bool) (b8 : List Int × Int × Int) (l9 : List Int) : St := ⟨[(0, vP 0 0), (3, vO 1), (4, vI i6), (7, vB t7)], [(0, .box [.val (.slice (.int .u8)) b8.1, .val (.int .i64) b8.2.1, .val (.int .i64) b8.2.2]), (1, .arr (.int .i64) l9)], 2⟩
theorem Zj3 (N : Nat) {R : Type} (K : Ex → St → Option R) {K0 : Int → Bool → (List Int × Int × Int) → (List Int) → Option R} (h0 : K0 = fun i6 t7 b8 l9 => K (.exit 0) (Zjr i6 t7 b8 l9)) (n : Nat) (i2 : Int) (b3 : List Int × Int × Int) (l4 : List Int) : Zbl N K0 n i2 b3 l4 = LM Zel N 0 100003 n (Zj2 i2 b3 l4) K := by
  subst h0
  induction n generalizing i2 b3 l4 with
  | zero => kernel_rfl
  | succ n ih => rw [Zbl]; simp (disch := exact id (by kernel_rfl)) only [ih]; kernel_rfl
theorem Znk : Callable Tryz.prog 78 := callable_of Tryz.func78 (show chkFn Tryz.f78 = true by kernel_rfl)
theorem Znl (N : Nat) (c1 : List Int × Int × Int) : DN Zel N (c1, ()) = Zbh N c1 := by
  have h : Zbh N c1 = Zbh N c1 := rfl
  conv at h => rhs; rw [Zbh]
  simp (disch := exact id (by kernel_rfl)) only [Zj3 (R := ((List Int × Int × Int) × Unit) × ((List Int) × Unit)) N (CF Zel N [1, 1, 0, 1, 0])] at h
  exact Eq.trans (by kernel_rfl) h.symm
theorem Znm (N : Nat) : Good Tryz.prog 78 (Zfv N) := GF Zel N Tryz.func78 (ctx_cons (Zf0 N) Zfz ctx_nil) (by kernel_rfl) (fun d => Znl N d.1)
noncomputable def Zid (N : Nat) : Sig := Sig.of [.box (.prod (.slice (.int .u8)) (.prod (.int .i64) (.int .i64)))] [.v (.own (.slice (.prod (.int .i64) (.prod (.int .i64) (.prod (.int .i64) (.int .i64)))))) false, .v (.own (.int .i64)) false, .v (.own (.int .i64)) false] (fun d => Zbw N d.1)
noncomputable def Zdy : Fn := ⟨Tryz.f48, fun | 5 => [.canon [0, 5, 6, 7, 8, 23]] | 6 => [.canon [0, 5, 6, 7, 8]] | 7 => [.canon [0, 5, 6, 7, 8, 27]] | 8 => [.canon [0, 5, 6, 7, 8]] | 15 => [.canon [0, 5, 6, 7, 48]] | 16 => [.canon [0, 5, 6, 7]] | 100005 => [.canon [0, 5, 6, 7, 8]] | 100015 => [.canon [0, 5, 6, 7]] | _ => [], Zid, fun N => [(75, Zhu N), (76, Z3 N), (77, Zdx N), (78, Zfv N), (50, Za6 N)]⟩
def Znn (i7 : Int) (b8 : List Int × Int × Int) (l9 : List (List (Int × Int × Int × Int))) (l10 : List Int) (l11 : List Int) : St := ⟨[(0, vP 0 0), (5, vO 1), (6, vO 2), (7, vO 3), (8, vI i7)], [(0, .box [.val (.slice (.int .u8)) b8.1, .val (.int .i64) b8.2.1, .val (.int .i64) b8.2.2]), (1, .arr (.slice (.prod (.int .i64) (.prod (.int .i64) (.prod (.int .i64) (.int .i64))))) l9), (2, .arr (.int .i64) l10), (3, .arr (.int .i64) l11)], 4⟩
def Zlo (l9 : List (List (Int × Int × Int × Int))) (l10 : List Int) (i13 : Int) (t14 : Bool) (b15 : List Int × Int × Int) (l16 : List Int) : St := ⟨[(0, vP 0 0), (5, vO 1), (6, vO 2), (7, vO 3), (8, vI i13), (23, vB t14)], [(0, .box [.val (.slice (.int .u8)) b15.1, .val (.int .i64) b15.2.1, .val (.int .i64) b15.2.2]), (1, .arr (.slice (.prod (.int .i64) (.prod (.int .i64) (.prod (.int .i64) (.int .i64))))) l9), (2, .arr (.int .i64) l10), (3, .arr (.int .i64) l16)], 4⟩
theorem Zno (N : Nat) {R : Type} (K : Ex → St → Option R) {l9 : List (List (Int × Int × Int × Int))} {l10 : List Int} {K0 : Int → Bool → (List Int × Int × Int) → (List Int) → Option R} (h0 : K0 = fun i13 t14 b15 l16 => K (.exit 0) (Zlo l9 l10 i13 t14 b15 l16)) (n : Nat) (i7 : Int) (b8 : List Int × Int × Int) (l11 : List Int) : Zb2 N l9 l10 K0 n i7 b8 l11 = LM Zdy N 0 100005 n (Znn i7 b8 l9 l10 l11) K := by
  subst h0
  induction n generalizing i7 b8 l11 with
  | zero => kernel_rfl
  | succ n ih => rw [Zb2]; simp (disch := exact id (by kernel_rfl)) only [ih]; kernel_rfl
def Znp (b23 : List Int × Int × Int) (l24 : List (List (Int × Int × Int × Int))) (l25 : List Int) (l26 : List Int) : St := ⟨[(0, vP 0 0), (5, vO 1), (6, vO 2), (7, vO 3)], [(0, .box [.val (.slice (.int .u8)) b23.1, .val (.int .i64) b23.2.1, .val (.int .i64) b23.2.2]), (1, .arr (.slice (.prod (.int .i64) (.prod (.int .i64) (.prod (.int .i64) (.int .i64))))) l24), (2, .arr (.int .i64) l25), (3, .arr (.int .i64) l26)], 4⟩
def Zlp (l25 : List Int) (l26 : List Int) (t28 : Bool) (b29 : List Int × Int × Int) (l30 : List (List (Int × Int × Int × Int))) : St := ⟨[(0, vP 0 0), (5, vO 1), (6, vO 2), (7, vO 3), (48, vB t28)], [(0, .box [.val (.slice (.int .u8)) b29.1, .val (.int .i64) b29.2.1, .val (.int .i64) b29.2.2]), (1, .arr (.slice (.prod (.int .i64) (.prod (.int .i64) (.prod (.int .i64) (.int .i64))))) l30), (2, .arr (.int .i64) l25), (3, .arr (.int .i64) l26)], 4⟩
theorem Znq (N : Nat) {R : Type} (K : Ex → St → Option R) {l25 : List Int} {l26 : List Int} {K0 : Bool → (List Int × Int × Int) → (List (List (Int × Int × Int × Int))) → Option R} (h0 : K0 = fun t28 b29 l30 => K (.exit 3) (Zlp l25 l26 t28 b29 l30)) (n : Nat) (b23 : List Int × Int × Int) (l24 : List (List (Int × Int × Int × Int))) : Zb3 N l25 l26 K0 n b23 l24 = LM Zdy N 1 100015 n (Znp b23 l24 l25 l26) K := by
  subst h0
  induction n generalizing b23 l24 with
  | zero => kernel_rfl
  | succ n ih => rw [Zb3]; simp (disch := exact id (by kernel_rfl)) only [ih]; kernel_rfl
theorem Zrz : Callable Tryz.prog 48 := callable_of Tryz.func48 (show chkFn Tryz.f48 = true by kernel_rfl)
theorem Zr0 (N : Nat) (c1 : List Int × Int × Int) : DN Zdy N (c1, ()) = Zbw N c1 := by
  have h : Zbw N c1 = Zbw N c1 := rfl
  conv at h => rhs; rw [Zbw]
  simp (disch := exact id (by kernel_rfl)) only [Zno (R := ((List Int × Int × Int) × Unit) × ((List (List (Int × Int × Int × Int))) × ((List Int) × ((List Int) × Unit)))) N (CF Zdy N [1, 1, 1, 1, 0, 1, 0]), Znq (R := ((List Int × Int × Int) × Unit) × ((List (List (Int × Int × Int × Int))) × ((List Int) × ((List Int) × Unit)))) N (CF Zdy N [1, 1, 1, 1, 1, 0, 1, 0, 1, 1, 1, 1, 1, 0, 0])] at h
  exact Eq.trans (by kernel_rfl) h.symm
theorem Zr1 (N : Nat) : Good Tryz.prog 48 (Zid N) := GF Zdy N Tryz.func48 (ctx_cons (Zq1 N) Zqz (ctx_cons (Z9 N) Z8 (ctx_cons (Zf0 N) Zfz (ctx_cons (Znm N) Znk (ctx_cons (Zca N) Zb9 ctx_nil))))) (by kernel_rfl) (fun d => Zr0 N d.1)
noncomputable def Zf2 (N : Nat) : Sig := Sig.of [.box (.prod (.slice (.int .u8)) (.prod (.int .i64) (.int .i64))), .v (.int .i64) false] [.v (.own (.prod (.int .i64) (.int .i64))) false] (fun d => Zci N d.1 d.2.1)
noncomputable def Zf3 : Fn := ⟨Tryz.f49, fun | 3 => [.canon [0, 5, 6, 13]] | 4 => [.canon [0, 5, 6]] | 5 => [.canon [0, 5, 6]] | 100003 => [.canon [0, 5, 6]] | _ => [], Zf2, fun N => [(76, Z3 N), (79, Zdj N), (77, Zdx N)]⟩
def Znr (n4 : Int) (b5 : List Int × Int × Int) (l6 : List (Int × Int)) : St := ⟨[(0, vP 0 0), (5, vO 1), (6, vI n4)], [(0, .box [.val (.slice (.int .u8)) b5.1, .val (.int .i64) b5.2.1, .val (.int .i64) b5.2.2]), (1, .arr (.prod (.int .i64) (.int .i64)) l6)], 2⟩
def Zlq (n9 : Int) (t10 : Bool) (b11 : List Int × Int × Int) (l12 : List (Int × Int)) : St := ⟨[(0, vP 0 0), (5, vO 1), (6, vI n9), (13, vB t10)], [(0, .box [.val (.slice (.int .u8)) b11.1, .val (.int .i64) b11.2.1, .val (.int .i64) b11.2.2]), (1, .arr (.prod (.int .i64) (.int .i64)) l12)], 2⟩
theorem Zns (N : Nat) {R : Type} (K : Ex → St → Option R) {K0 : Int → Bool → (List Int × Int × Int) → (List (Int × Int)) → Option R} (h0 : K0 = fun n9 t10 b11 l12 => K (.exit 0) (Zlq n9 t10 b11 l12)) (n : Nat) (n4 : Int) (b5 : List Int × Int × Int) (l6 : List (Int × Int)) : Zc5 N K0 n n4 b5 l6 = LM Zf3 N 0 100003 n (Znr n4 b5 l6) K := by
  subst h0
  induction n generalizing n4 b5 l6 with
  | zero => kernel_rfl
  | succ n ih => rw [Zc5]; simp (disch := exact id (by kernel_rfl)) only [ih]; kernel_rfl
theorem Zke : Callable Tryz.prog 49 := callable_of Tryz.func49 (show chkFn Tryz.f49 = true by kernel_rfl)
theorem Zr2 (N : Nat) (c1 : List Int × Int × Int) (most2 : Int) : DN Zf3 N (c1, most2, ()) = Zci N c1 most2 := by
  have h : Zci N c1 most2 = Zci N c1 most2 := rfl
  conv at h => rhs; rw [Zci]
  simp (disch := exact id (by kernel_rfl)) only [Zns (R := ((List Int × Int × Int) × Unit) × ((List (Int × Int)) × Unit)) N (CF Zf3 N [1, 1, 0, 1, 0])] at h
  exact Eq.trans (by kernel_rfl) h.symm
theorem Zkf (N : Nat) : Good Tryz.prog 49 (Zf2 N) := GF Zf3 N Tryz.func49 (ctx_cons (Z9 N) Z8 (ctx_cons (Zfu N) Zft (ctx_cons (Zf0 N) Zfz ctx_nil))) (by kernel_rfl) (fun d => Zr2 N d.1 d.2.1)
noncomputable def Ziu (N : Nat) : Sig := Sig.of [.box (.prod (.slice (.int .u8)) (.prod (.int .i64) (.int .i64)))] [.v (.own (.prod (.int .i64) (.int .i64))) false] (fun d => Zdv N d.1)
noncomputable def Zg2 : Fn := ⟨Tryz.f51, fun | 8 => [.canon [0, 3, 24]] | 9 => [.canon [0, 3]] | 100008 => [.canon [0, 3]] | _ => [], Ziu, fun N => [(49, Zf2 N), (76, Z3 N), (50, Za6 N)]⟩
def Zpn (b4 : List Int × Int × Int) (l5 : List (Int × Int)) : St := ⟨[(0, vP 0 0), (3, vO 1)], [(0, .box [.val (.slice (.int .u8)) b4.1, .val (.int .i64) b4.2.1, .val (.int .i64) b4.2.2]), (1, .arr (.prod (.int .i64) (.int .i64)) l5)], 2⟩
def Znt (b4 : List Int × Int × Int) (t6 : Bool) (l7 : List (Int × Int)) : St := ⟨[(0, vP 0 0), (3, vO 1), (24, vB t6)], [(0, .box [.val (.slice (.int .u8)) b4.1, .val (.int .i64) b4.2.1, .val (.int .i64) b4.2.2]), (1, .arr (.prod (.int .i64) (.int .i64)) l7)], 2⟩
theorem Zpo (N : Nat) {R : Type} (K : Ex → St → Option R) {b4 : List Int × Int × Int} {K0 : Bool → (List (Int × Int)) → Option R} (h0 : K0 = fun t6 l7 => K (.exit 1) (Znt b4 t6 l7)) (n : Nat) (l5 : List (Int × Int)) : Zdo N b4 K0 n l5 = LM Zg2 N 0 100008 n (Zpn b4 l5) K := by
  subst h0
  induction n generalizing l5 with
  | zero => kernel_rfl
  | succ n ih => rw [Zdo]; simp (disch := exact id (by kernel_rfl)) only [ih]; kernel_rfl
theorem Zs7 : Callable Tryz.prog 51 := callable_of Tryz.func51 (show chkFn Tryz.f51 = true by kernel_rfl)
theorem Zs8 (N : Nat) (c1 : List Int × Int × Int) : DN Zg2 N (c1, ()) = Zdv N c1 := by
  have h : Zdv N c1 = Zdv N c1 := rfl
  conv at h => rhs; rw [Zdv]
  simp (disch := exact id (by kernel_rfl)) only [Zpo (R := ((List Int × Int × Int) × Unit) × ((List (Int × Int)) × Unit)) N (CF Zg2 N [1, 1, 0, 1, 0, 1, 1, 1, 1, 1, 0, 0, 0])] at h
  exact Eq.trans (by kernel_rfl) h.symm
theorem Zs9 (N : Nat) : Good Tryz.prog 51 (Ziu N) := GF Zg2 N Tryz.func51 (ctx_cons (Zkf N) Zke (ctx_cons (Z9 N) Z8 (ctx_cons (Zca N) Zb9 ctx_nil))) (by kernel_rfl) (fun d => Zs8 N d.1)
noncomputable def Zfw (N : Nat) : Sig := Sig.of [.v (.slice (.int .u8)) false] [.v (.own (.slice (.prod (.int .i64) (.prod (.int .i64) (.prod (.int .i64) (.int .i64)))))) false, .v (.own (.int .i64)) false, .v (.own (.int .i64)) false, .v (.own (.prod (.int .i64) (.int .i64))) false] (fun d => Ze2 N d.1)
noncomputable def Znu : Fn := ⟨Tryz.f24, noAnn, Zfw, fun N => [(47, Zit N), (48, Zid N), (49, Zf2 N), (50, Za6 N), (51, Ziu N)]⟩
theorem Znv : Callable Tryz.prog 24 := callable_of Tryz.func24 (show chkFn Tryz.f24 = true by kernel_rfl)
theorem Znw (N : Nat) : Good Tryz.prog 24 (Zfw N) := GF Znu N Tryz.func24 (ctx_cons (Zs4 N) Zs2 (ctx_cons (Zr1 N) Zrz (ctx_cons (Zkf N) Zke (ctx_cons (Zca N) Zb9 (ctx_cons (Zs9 N) Zs7 ctx_nil))))) (by kernel_rfl) (fun d => by kernel_rfl)
noncomputable def Zcb (N : Nat) : Sig := Sig.of [.v (.int .i64) false, .v (.int .i64) false, .v (.int .i64) false] [.v (.bool) false] (fun d => Za1 N d.1 d.2.1 d.2.2.1)
noncomputable def Zr3 : Fn := ⟨Tryz.f110, noAnn, Zcb, noCtx⟩
theorem Zdz : Callable Tryz.prog 110 := callable_of Tryz.func110 (show chkFn Tryz.f110 = true by kernel_rfl)
theorem Zd0 (N : Nat) : Good Tryz.prog 110 (Zcb N) := GF Zr3 N Tryz.func110 ctx_nil (by kernel_rfl) (fun d => by kernel_rfl)
noncomputable def Zej (N : Nat) : Sig := Sig.of [.v (.int .i64) false] [.v (.bool) false] (fun d => Zdk N d.1)
noncomputable def Zq2 : Fn := ⟨Tryz.f74, noAnn, Zej, fun N => [(110, Zcb N)]⟩
theorem Zhv : Callable Tryz.prog 74 := callable_of Tryz.func74 (show chkFn Tryz.f74 = true by kernel_rfl)
theorem Zhw (N : Nat) : Good Tryz.prog 74 (Zej N) := GF Zq2 N Tryz.func74 (ctx_cons (Zd0 N) Zdz ctx_nil) (by kernel_rfl) (fun d => by kernel_rfl)
noncomputable def Za8 (N : Nat) : Sig := Sig.of [.v (.slice (.int .i64)) false, .v (.int .i64) false] [.v (.bool) false] (fun d => Zx N d.1 d.2.1)
noncomputable def Zet : Fn := ⟨Tryz.f61, fun | 2 => [.canon [0, 1, 7, 8, 9, 10]] | 3 => [.canon [0, 1, 6, 7, 8, 9]] | 4 => [.canon [0, 1, 7, 8, 9, 15]] | 5 => [.canon [4]] | 6 => [.canon [0, 1, 7, 8, 9]] | 100002 => [.canon [0, 1, 7, 8, 9]] | _ => [], Za8, fun N => [(74, Zej N)]⟩
def Zky (l3 : List Int) (n4 : Int) (t7 : Int) : St := ⟨[(0, vV (.slice (.int .i64)) l3), (1, vI n4), (7, vV (.slice (.int .i64)) l3), (8, vI (ilen l3)), (9, vI t7)], [], 0⟩
def Zj4 (l3 : List Int) (n4 : Int) : St := ⟨[(4, vB false)], [], 0⟩
def Zj5 (l3 : List Int) (n4 : Int) (t10 : Int) (t11 : Bool) : St := ⟨[(0, vV (.slice (.int .i64)) l3), (1, vI n4), (7, vV (.slice (.int .i64)) l3), (8, vI (ilen l3)), (9, vI t10), (10, vB t11)], [], 0⟩
theorem Zkz (N : Nat) {R : Type} (K : Ex → St → Option R) {l3 : List Int} {n4 : Int} {K0 : Option R} {K1 : Int → Bool → Option R} (h0 : K0 = K .ret (Zj4 l3 n4)) (h1 : K1 = fun t10 t11 => K (.exit 0) (Zj5 l3 n4 t10 t11)) (n : Nat) (t7 : Int) : Zad N l3 n4 K0 K1 n t7 = LM Zet N 0 100002 n (Zky l3 n4 t7) K := by
  subst h0 h1
  induction n generalizing t7 with
  | zero => kernel_rfl
  | succ n ih => rw [Zad]; simp (disch := exact id (by kernel_rfl)) only [ih]; kernel_rfl
theorem Zcs : Callable Tryz.prog 61 := callable_of Tryz.func61 (show chkFn Tryz.f61 = true by kernel_rfl)
theorem Zpp (N : Nat) (l1 : List Int) (n2 : Int) : DN Zet N (l1, n2, ()) = Zx N l1 n2 := by
  have h : Zx N l1 n2 = Zx N l1 n2 := rfl
  conv at h => rhs; rw [Zx]
  simp (disch := exact id (by kernel_rfl)) only [Zkz (R := Unit × (Bool × Unit)) N (CF Zet N [1, 0, 1, 0])] at h
  exact Eq.trans (by kernel_rfl) h.symm
theorem Zct (N : Nat) : Good Tryz.prog 61 (Za8 N) := GF Zet N Tryz.func61 (ctx_cons (Zhw N) Zhv ctx_nil) (by kernel_rfl) (fun d => Zpp N d.1 d.2.1)
noncomputable def Ziv (N : Nat) : Sig := Sig.of [.v (.int .i64) false] [.v (.bool) false] (fun d => Zb N d.1)
noncomputable def Zta : Fn := ⟨Tryz.f131, noAnn, Ziv, fun N => [(110, Zcb N)]⟩
theorem Ztb : Callable Tryz.prog 131 := callable_of Tryz.func131 (show chkFn Tryz.f131 = true by kernel_rfl)
theorem Ztc (N : Nat) : Good Tryz.prog 131 (Ziv N) := GF Zta N Tryz.func131 (ctx_cons (Zd0 N) Zdz ctx_nil) (by kernel_rfl) (fun d => by kernel_rfl)
noncomputable def Zf4 (N : Nat) : Sig := Sig.of [.v (.int .i64) false] [.v (.bool) false] (fun d => Za3 N d.1)
noncomputable def Zr4 : Fn := ⟨Tryz.f73, noAnn, Zf4, fun N => [(110, Zcb N)]⟩
theorem Zkg : Callable Tryz.prog 73 := callable_of Tryz.func73 (show chkFn Tryz.f73 = true by kernel_rfl)
theorem Zkh (N : Nat) : Good Tryz.prog 73 (Zf4 N) := GF Zr4 N Tryz.func73 (ctx_cons (Zd0 N) Zdz ctx_nil) (by kernel_rfl) (fun d => by kernel_rfl)
noncomputable def Ziw (N : Nat) : Sig := Sig.of [.v (.int .i64) false] [.v (.bool) false] (fun d => Zd N d.1)
noncomputable def Ztd : Fn := ⟨Tryz.f132, noAnn, Ziw, fun N => [(110, Zcb N)]⟩
theorem Zte : Callable Tryz.prog 132 := callable_of Tryz.func132 (show chkFn Tryz.f132 = true by kernel_rfl)
theorem Ztf (N : Nat) : Good Tryz.prog 132 (Ziw N) := GF Ztd N Tryz.func132 (ctx_cons (Zd0 N) Zdz ctx_nil) (by kernel_rfl) (fun d => by kernel_rfl)
noncomputable def Zfo (N : Nat) : Sig := Sig.of [.v (.prod (.int .i64) (.prod (.int .i64) (.prod (.int .i64) (.int .i64)))) true] [.v (.bool) false] (fun d => Zq N d.1)
noncomputable def Ztv : Fn := ⟨Tryz.f116, noAnn, Zfo, fun N => [(131, Ziv N), (74, Zej N), (73, Zf4 N), (110, Zcb N), (132, Ziw N)]⟩
theorem Zjf : Callable Tryz.prog 116 := callable_of Tryz.func116 (show chkFn Tryz.f116 = true by kernel_rfl)
theorem Zjg (N : Nat) : Good Tryz.prog 116 (Zfo N) := GF Ztv N Tryz.func116 (ctx_cons (Ztc N) Ztb (ctx_cons (Zhw N) Zhv (ctx_cons (Zkh N) Zkg (ctx_cons (Zd0 N) Zdz (ctx_cons (Ztf N) Zte ctx_nil))))) (by kernel_rfl) (fun d => by kernel_rfl)
noncomputable def Zhx (N : Nat) : Sig := Sig.of [.v (.prod (.int .i64) (.prod (.int .i64) (.prod (.int .i64) (.int .i64)))) true] [.v (.int .i64) false] (fun d => Ze5 N d.1)
noncomputable def Zq3 : Fn := ⟨Tryz.f87, noAnn, Zhx, fun N => [(116, Zfo N)]⟩
theorem Zq4 : Callable Tryz.prog 87 := callable_of Tryz.func87 (show chkFn Tryz.f87 = true by kernel_rfl)
theorem Zq5 (N : Nat) : Good Tryz.prog 87 (Zhx N) := GF Zq3 N Tryz.func87 (ctx_cons (Zjg N) Zjf ctx_nil) (by kernel_rfl) (fun d => by kernel_rfl)
noncomputable def Ze8 (N : Nat) : Sig := Sig.of [.v (.prod (.int .i64) (.prod (.int .i64) (.prod (.int .i64) (.int .i64)))) true] [.v (.int .i64) false] (fun d => Ze6 N d.1)
noncomputable def Ztg : Fn := ⟨Tryz.f119, noAnn, Ze8, noCtx⟩
theorem Zix : Callable Tryz.prog 119 := callable_of Tryz.func119 (show chkFn Tryz.f119 = true by kernel_rfl)
theorem Ziy (N : Nat) : Good Tryz.prog 119 (Ze8 N) := GF Ztg N Tryz.func119 ctx_nil (by kernel_rfl) (fun d => by kernel_rfl)
noncomputable def Zfx (N : Nat) : Sig := Sig.of [.v (.slice (.prod (.int .i64) (.prod (.int .i64) (.prod (.int .i64) (.int .i64))))) false] [.v (.bool) false] (fun d => Zax N d.1)
noncomputable def Zem : Fn := ⟨Tryz.f117, fun | 3 => [.canon [3, 6, 7, 8, 9]] | 4 => [.canon [3, 5, 6, 7, 8]] | 5 => [.canon [3, 6, 7, 8]] | 6 => [.canon [3, 6, 7, 8, 17]] | 7 => [.canon [2]] | 8 => [.canon [3, 6, 7, 8]] | 100003 => [.canon [3, 6, 7, 8]] | _ => [], Zfx, fun N => [(119, Ze8 N)]⟩
def Zj6 (n2 : Int) (t3 : List (Int × Int × Int × Int)) (t5 : Int) : St := ⟨[(3, vI n2), (6, vV (.slice (.prod (.int .i64) (.prod (.int .i64) (.prod (.int .i64) (.int .i64))))) t3), (7, vI (ilen t3)), (8, vI t5)], [], 0⟩
def Zjs (t3 : List (Int × Int × Int × Int)) : St := ⟨[(2, vB false)], [], 0⟩
def Zjt (t3 : List (Int × Int × Int × Int)) (n8 : Int) (t9 : Int) (t10 : Bool) : St := ⟨[(3, vI n8), (6, vV (.slice (.prod (.int .i64) (.prod (.int .i64) (.prod (.int .i64) (.int .i64))))) t3), (7, vI (ilen t3)), (8, vI t9), (9, vB t10)], [], 0⟩
theorem Zj7 (N : Nat) {R : Type} (K : Ex → St → Option R) {t3 : List (Int × Int × Int × Int)} {K0 : Option R} {K1 : Int → Int → Bool → Option R} (h0 : K0 = K .ret (Zjs t3)) (h1 : K1 = fun n8 t9 t10 => K (.exit 0) (Zjt t3 n8 t9 t10)) (n : Nat) (n2 : Int) (t5 : Int) : Za5 N t3 K0 K1 n n2 t5 = LM Zem N 0 100003 n (Zj6 n2 t3 t5) K := by
  subst h0 h1
  induction n generalizing n2 t5 with
  | zero => kernel_rfl
  | succ n ih => rw [Za5]; simp (disch := exact id (by kernel_rfl)) only [ih]; kernel_rfl
theorem Znx : Callable Tryz.prog 117 := callable_of Tryz.func117 (show chkFn Tryz.f117 = true by kernel_rfl)
theorem Zny (N : Nat) (code1 : List (Int × Int × Int × Int)) : DN Zem N (code1, ()) = Zax N code1 := by
  have h : Zax N code1 = Zax N code1 := rfl
  conv at h => rhs; rw [Zax]
  simp (disch := exact id (by kernel_rfl)) only [Zj7 (R := Unit × (Bool × Unit)) N (CF Zem N [1, 1, 0, 1, 0])] at h
  exact Eq.trans (by kernel_rfl) h.symm
theorem Znz (N : Nat) : Good Tryz.prog 117 (Zfx N) := GF Zem N Tryz.func117 (ctx_cons (Ziy N) Zix ctx_nil) (by kernel_rfl) (fun d => Zny N d.1)
noncomputable def Zhy (N : Nat) : Sig := Sig.of [.v (.slice (.prod (.int .i64) (.prod (.int .i64) (.prod (.int .i64) (.int .i64))))) false, .v (.int .i64) false] [.v (.int .i64) false] (fun d => Zcp N d.1 d.2.1)
noncomputable def Zfd : Fn := ⟨Tryz.f118, fun | 3 => [.canon [1, 5, 8, 9, 10, 11]] | 4 => [.canon [1, 5, 6, 7, 8, 9, 10]] | 5 => [.canon [1, 5, 7, 8, 9, 10, 17]] | 6 => [.canon [1, 5, 8, 9, 10]] | 7 => [.canon [1, 5, 8, 9, 10]] | 100003 => [.canon [1, 5, 8, 9, 10]] | _ => [], Zhy, fun N => [(119, Ze8 N)]⟩
def Zlr (i3 : Int) (n4 : Int) (t5 : List (Int × Int × Int × Int)) (t7 : Int) : St := ⟨[(1, vI i3), (5, vI n4), (8, vV (.slice (.prod (.int .i64) (.prod (.int .i64) (.prod (.int .i64) (.int .i64))))) t5), (9, vI (ilen t5)), (10, vI t7)], [], 0⟩
def Zk8 (i3 : Int) (t5 : List (Int × Int × Int × Int)) (n10 : Int) (t11 : Int) (t12 : Bool) : St := ⟨[(1, vI i3), (5, vI n10), (8, vV (.slice (.prod (.int .i64) (.prod (.int .i64) (.prod (.int .i64) (.int .i64))))) t5), (9, vI (ilen t5)), (10, vI t11), (11, vB t12)], [], 0⟩
theorem Zls (N : Nat) {R : Type} (K : Ex → St → Option R) {i3 : Int} {t5 : List (Int × Int × Int × Int)} {K0 : Int → Int → Bool → Option R} (h0 : K0 = fun n10 t11 t12 => K (.exit 0) (Zk8 i3 t5 n10 t11 t12)) (n : Nat) (n4 : Int) (t7 : Int) : Za7 N i3 t5 K0 n n4 t7 = LM Zfd N 0 100003 n (Zlr i3 n4 t5 t7) K := by
  subst h0
  induction n generalizing n4 t7 with
  | zero => kernel_rfl
  | succ n ih => rw [Za7]; simp (disch := exact id (by kernel_rfl)) only [ih]; kernel_rfl
theorem Zq6 : Callable Tryz.prog 118 := callable_of Tryz.func118 (show chkFn Tryz.f118 = true by kernel_rfl)
theorem Zq7 (N : Nat) (code1 : List (Int × Int × Int × Int)) (i2 : Int) : DN Zfd N (code1, i2, ()) = Zcp N code1 i2 := by
  have h : Zcp N code1 i2 = Zcp N code1 i2 := rfl
  conv at h => rhs; rw [Zcp]
  simp (disch := exact id (by kernel_rfl)) only [Zls (R := Unit × (Int × Unit)) N (CF Zfd N [1, 1, 0, 1, 0])] at h
  exact Eq.trans (by kernel_rfl) h.symm
theorem Zq8 (N : Nat) : Good Tryz.prog 118 (Zhy N) := GF Zfd N Tryz.func118 (ctx_cons (Ziy N) Zix ctx_nil) (by kernel_rfl) (fun d => Zq7 N d.1 d.2.1)
noncomputable def Zie (N : Nat) : Sig := Sig.of [.v (.slice (.prod (.int .i64) (.prod (.int .i64) (.prod (.int .i64) (.int .i64))))) false] [.v (.bool) false] (fun d => Zch N d.1)
noncomputable def Zf5 : Fn := ⟨Tryz.f88, fun | 5 => [.canon [0, 3, 14, 15, 16, 17]] | 6 => [.canon [0, 3, 4, 5, 14, 15, 16]] | 7 => [.canon [0, 3, 4, 5, 14, 15, 16, 23]] | 8 => [.canon [2]] | 9 => [.canon [0, 3, 4, 5, 14, 15, 16, 25]] | 10 => [.canon [0, 3, 4, 5, 14, 15, 16, 25, 26]] | 11 => [.canon [0, 3, 14, 15, 16, 48]] | 12 => [.canon [2]] | 13 => [.canon [0, 3, 4, 14, 15, 16, 49]] | 14 => [.canon [0, 3, 4, 14, 15, 16]] | 15 => [.canon [0, 3, 14, 15, 16, 60]] | 16 => [.canon [2]] | 17 => [.canon [0, 3, 14, 15, 16]] | 100005 => [.canon [0, 3, 14, 15, 16]] | _ => [], Zie, fun N => [(117, Zfx N), (116, Zfo N), (118, Zhy N)]⟩
def Zn0 (code3 : List (Int × Int × Int × Int)) (forks4 : Int) (t7 : Int) : St := ⟨[(0, vV (.slice (.prod (.int .i64) (.prod (.int .i64) (.prod (.int .i64) (.int .i64))))) code3), (3, vI forks4), (14, vV (.slice (.prod (.int .i64) (.prod (.int .i64) (.prod (.int .i64) (.int .i64))))) code3), (15, vI (ilen code3)), (16, vI t7)], [], 0⟩
def Zlt (code3 : List (Int × Int × Int × Int)) : St := ⟨[(2, vB false)], [], 0⟩
def Zlu (code3 : List (Int × Int × Int × Int)) (forks14 : Int) (t15 : Int) (t16 : Bool) : St := ⟨[(0, vV (.slice (.prod (.int .i64) (.prod (.int .i64) (.prod (.int .i64) (.int .i64))))) code3), (3, vI forks14), (14, vV (.slice (.prod (.int .i64) (.prod (.int .i64) (.prod (.int .i64) (.int .i64))))) code3), (15, vI (ilen code3)), (16, vI t15), (17, vB t16)], [], 0⟩
theorem Zn1 (N : Nat) {R : Type} (K : Ex → St → Option R) {code3 : List (Int × Int × Int × Int)} {K0 : Option R} {K1 : Int → Int → Bool → Option R} (h0 : K0 = K .ret (Zlt code3)) (h1 : K1 = fun forks14 t15 t16 => K (.exit 0) (Zlu code3 forks14 t15 t16)) (n : Nat) (forks4 : Int) (t7 : Int) : Zay N code3 K0 K1 n forks4 t7 = LM Zf5 N 0 100005 n (Zn0 code3 forks4 t7) K := by
  subst h0 h1
  induction n generalizing forks4 t7 with
  | zero => kernel_rfl
  | succ n ih => rw [Zay]; simp (disch := exact id (by kernel_rfl)) only [ih]; kernel_rfl
theorem Zr5 : Callable Tryz.prog 88 := callable_of Tryz.func88 (show chkFn Tryz.f88 = true by kernel_rfl)
theorem Zr6 (N : Nat) (code1 : List (Int × Int × Int × Int)) : DN Zf5 N (code1, ()) = Zch N code1 := by
  have h : Zch N code1 = Zch N code1 := rfl
  conv at h => rhs; rw [Zch]
  simp (disch := exact id (by kernel_rfl)) only [Zn1 (R := Unit × (Bool × Unit)) N (CF Zf5 N [1, 1, 1, 0, 1, 0])] at h
  exact Eq.trans (by kernel_rfl) h.symm
theorem Zr7 (N : Nat) : Good Tryz.prog 88 (Zie N) := GF Zf5 N Tryz.func88 (ctx_cons (Znz N) Znx (ctx_cons (Zjg N) Zjf (ctx_cons (Zq8 N) Zq6 ctx_nil))) (by kernel_rfl) (fun d => Zr6 N d.1)
noncomputable def Ze9 (N : Nat) : Sig := Sig.of [.v (.slice (.prod (.int .i64) (.prod (.int .i64) (.prod (.int .i64) (.int .i64))))) false] [.v (.bool) false] (fun d => Zcg N d.1)
noncomputable def Zg3 : Fn := ⟨Tryz.f64, fun | 2 => [.canon [0, 5, 6, 7, 8]] | 3 => [.canon [0, 4, 5, 6, 7]] | 4 => [.canon [0, 5, 6, 7, 18]] | 5 => [.canon [2]] | 6 => [.canon [0, 5, 6, 7]] | 100002 => [.canon [0, 5, 6, 7]] | _ => [], Ze9, fun N => [(87, Zhx N), (88, Zie N)]⟩
def Zpq (code2 : List (Int × Int × Int × Int)) (t5 : Int) : St := ⟨[(0, vV (.slice (.prod (.int .i64) (.prod (.int .i64) (.prod (.int .i64) (.int .i64))))) code2), (5, vV (.slice (.prod (.int .i64) (.prod (.int .i64) (.prod (.int .i64) (.int .i64))))) code2), (6, vI (ilen code2)), (7, vI t5)], [], 0⟩
def Zn2 (code2 : List (Int × Int × Int × Int)) : St := ⟨[(2, vB false)], [], 0⟩
def Zn3 (code2 : List (Int × Int × Int × Int)) (t8 : Int) (t9 : Bool) : St := ⟨[(0, vV (.slice (.prod (.int .i64) (.prod (.int .i64) (.prod (.int .i64) (.int .i64))))) code2), (5, vV (.slice (.prod (.int .i64) (.prod (.int .i64) (.prod (.int .i64) (.int .i64))))) code2), (6, vI (ilen code2)), (7, vI t8), (8, vB t9)], [], 0⟩
theorem Zpr (N : Nat) {R : Type} (K : Ex → St → Option R) {code2 : List (Int × Int × Int × Int)} {K0 : Option R} {K1 : Int → Bool → Option R} (h0 : K0 = K .ret (Zn2 code2)) (h1 : K1 = fun t8 t9 => K (.exit 0) (Zn3 code2 t8 t9)) (n : Nat) (t5 : Int) : Zck N code2 K0 K1 n t5 = LM Zg3 N 0 100002 n (Zpq code2 t5) K := by
  subst h0 h1
  induction n generalizing t5 with
  | zero => kernel_rfl
  | succ n ih => rw [Zck]; simp (disch := exact id (by kernel_rfl)) only [ih]; kernel_rfl
theorem Ziz : Callable Tryz.prog 64 := callable_of Tryz.func64 (show chkFn Tryz.f64 = true by kernel_rfl)
theorem Zth (N : Nat) (code1 : List (Int × Int × Int × Int)) : DN Zg3 N (code1, ()) = Zcg N code1 := by
  have h : Zcg N code1 = Zcg N code1 := rfl
  conv at h => rhs; rw [Zcg]
  simp (disch := exact id (by kernel_rfl)) only [Zpr (R := Unit × (Bool × Unit)) N (CF Zg3 N [1, 0, 1, 0])] at h
  exact Eq.trans (by kernel_rfl) h.symm
theorem Zi0 (N : Nat) : Good Tryz.prog 64 (Ze9 N) := GF Zg3 N Tryz.func64 (ctx_cons (Zq5 N) Zq4 (ctx_cons (Zr7 N) Zr5 ctx_nil)) (by kernel_rfl) (fun d => Zth N d.1)
noncomputable def Zhc (N : Nat) : Sig := Sig.of [.v (.slice (.prod (.int .i64) (.prod (.int .i64) (.prod (.int .i64) (.int .i64))))) true] [.v (.bool) false] (fun d => Zia N d.1)
noncomputable def Zqd : Fn := ⟨Tryz.f63, noAnn, Zhc, fun N => [(64, Ze9 N)]⟩
theorem Zqe : Callable Tryz.prog 63 := callable_of Tryz.func63 (show chkFn Tryz.f63 = true by kernel_rfl)
theorem Zqf (N : Nat) : Good Tryz.prog 63 (Zhc N) := GF Zqd N Tryz.func63 (ctx_cons (Zi0 N) Ziz ctx_nil) (by kernel_rfl) (fun d => by kernel_rfl)
noncomputable def Zaa (N : Nat) : Sig := Sig.of [.v (.slice (.slice (.prod (.int .i64) (.prod (.int .i64) (.prod (.int .i64) (.int .i64)))))) false, .clos 63 0] [.v (.int .i64) false] (fun d => Zo N d.1)
noncomputable def Z2 : Fn := ⟨Tryz.f86, fun | 2 => [.canon [0, 1, 7, 8, 9]] | 3 => [.canon [0, 1, 5, 7, 8]] | 4 => [.canon [0, 1, 5, 7, 8, 16]] | 5 => [.canon [1, 4]] | 6 => [.canon [0, 1, 7, 8]] | 100002 => [.canon [0, 1, 7, 8]] | _ => [], Zaa, fun N => [(63, Zhc N)]⟩
def Zc2 (s2 : List (List (Int × Int × Int × Int))) (t4 : Int) : St := ⟨[(0, vV (.slice (.slice (.prod (.int .i64) (.prod (.int .i64) (.prod (.int .i64) (.int .i64)))))) s2), (1, .s (.one (.clos 63 []))), (7, vI (ilen s2)), (8, vI t4)], [], 0⟩
def Zcz (s2 : List (List (Int × Int × Int × Int))) (t7 : Int) : St := ⟨[(1, .s (.one (.clos 63 []))), (4, vI t7)], [], 0⟩
def Zc0 (s2 : List (List (Int × Int × Int × Int))) (t8 : Int) (t9 : Bool) : St := ⟨[(0, vV (.slice (.slice (.prod (.int .i64) (.prod (.int .i64) (.prod (.int .i64) (.int .i64)))))) s2), (1, .s (.one (.clos 63 []))), (7, vI (ilen s2)), (8, vI t8), (9, vB t9)], [], 0⟩
theorem Zc3 (N : Nat) {R : Type} (K : Ex → St → Option R) {s2 : List (List (Int × Int × Int × Int))} {K0 : Int → Option R} {K1 : Int → Bool → Option R} (h0 : K0 = fun t7 => K .ret (Zcz s2 t7)) (h1 : K1 = fun t8 t9 => K (.exit 0) (Zc0 s2 t8 t9)) (n : Nat) (t4 : Int) : Zm N s2 K0 K1 n t4 = LM Z2 N 0 100002 n (Zc2 s2 t4) K := by
  subst h0 h1
  induction n generalizing t4 with
  | zero => kernel_rfl
  | succ n ih => rw [Zm]; simp (disch := exact id (by kernel_rfl)) only [ih]; kernel_rfl
theorem Zdp : Callable Tryz.prog 86 := callable_of Tryz.func86 (show chkFn Tryz.f86 = true by kernel_rfl)
theorem Zdq (N : Nat) (s1 : List (List (Int × Int × Int × Int))) : DN Z2 N (s1, ()) = Zo N s1 := by
  have h : Zo N s1 = Zo N s1 := rfl
  conv at h => rhs; rw [Zo]
  simp (disch := exact id (by kernel_rfl)) only [Zc3 (R := Unit × (Int × Unit)) N (CF Z2 N [1, 0, 1, 0])] at h
  exact Eq.trans (by kernel_rfl) h.symm
theorem Zdr (N : Nat) : Good Tryz.prog 86 (Zaa N) := GF Z2 N Tryz.func86 (ctx_cons (Zqf N) Zqe ctx_nil) (by kernel_rfl) (fun d => Zdq N d.1)
noncomputable def Z6 (N : Nat) : Sig := Sig.of [.v (.slice (.slice (.prod (.int .i64) (.prod (.int .i64) (.prod (.int .i64) (.int .i64)))))) false, .clos 63 0] [.v (.bool) false] (fun d => Z0 N d.1)
noncomputable def Zc6 : Fn := ⟨Tryz.f62, noAnn, Z6, fun N => [(86, Zaa N)]⟩
theorem Zc7 : Callable Tryz.prog 62 := callable_of Tryz.func62 (show chkFn Tryz.f62 = true by kernel_rfl)
theorem Zc8 (N : Nat) : Good Tryz.prog 62 (Z6 N) := GF Zc6 N Tryz.func62 (ctx_cons (Zdr N) Zdp ctx_nil) (by kernel_rfl) (fun d => by kernel_rfl)
noncomputable def Zf6 (N : Nat) : Sig := Sig.of [.v (.slice (.slice (.prod (.int .i64) (.prod (.int .i64) (.prod (.int .i64) (.int .i64)))))) false, .v (.slice (.int .i64)) false, .v (.slice (.int .i64)) false] [.v (.bool) false] (fun d => Zfn N d.1 d.2.1 d.2.2.1)
noncomputable def Zr8 : Fn := ⟨Tryz.f33, noAnn, Zf6, fun N => [(61, Za8 N), (62, Z6 N)]⟩
theorem Zki : Callable Tryz.prog 33 := callable_of Tryz.func33 (show chkFn Tryz.f33 = true by kernel_rfl)
theorem Zkj (N : Nat) : Good Tryz.prog 33 (Zf6 N) := GF Zr8 N Tryz.func33 (ctx_cons (Zct N) Zcs (ctx_cons (Zc8 N) Zc7 ctx_nil)) (by kernel_rfl) (fun d => by kernel_rfl)
noncomputable def Zeu (N : Nat) : Sig := Sig.of [.v (.slice (.prod (.int .i64) (.int .i64))) false] [.v (.bool) false] (fun d => Zbc N d.1)
noncomputable def Zf7 : Fn := ⟨Tryz.f44, fun | 2 => [.canon [0, 5, 6, 7, 8]] | 3 => [.canon [0, 4, 5, 6, 7]] | 4 => [.canon [0, 5, 6, 7, 20]] | 5 => [.canon [2]] | 6 => [.canon [0, 5, 6, 7]] | 100002 => [.canon [0, 5, 6, 7]] | _ => [], Zeu, fun N => [(73, Zf4 N), (74, Zej N)]⟩
def Zn4 (l2 : List (Int × Int)) (t5 : Int) : St := ⟨[(0, vV (.slice (.prod (.int .i64) (.int .i64))) l2), (5, vV (.slice (.prod (.int .i64) (.int .i64))) l2), (6, vI (ilen l2)), (7, vI t5)], [], 0⟩
def Zlv (l2 : List (Int × Int)) : St := ⟨[(2, vB false)], [], 0⟩
def Zlw (l2 : List (Int × Int)) (t10 : Int) (t11 : Bool) : St := ⟨[(0, vV (.slice (.prod (.int .i64) (.int .i64))) l2), (5, vV (.slice (.prod (.int .i64) (.int .i64))) l2), (6, vI (ilen l2)), (7, vI t10), (8, vB t11)], [], 0⟩
theorem Zn5 (N : Nat) {R : Type} (K : Ex → St → Option R) {l2 : List (Int × Int)} {K0 : Option R} {K1 : Int → Bool → Option R} (h0 : K0 = K .ret (Zlv l2)) (h1 : K1 = fun t10 t11 => K (.exit 0) (Zlw l2 t10 t11)) (n : Nat) (t5 : Int) : Zbz N l2 K0 K1 n t5 = LM Zf7 N 0 100002 n (Zn4 l2 t5) K := by
  subst h0 h1
  induction n generalizing t5 with
  | zero => kernel_rfl
  | succ n ih => rw [Zbz]; simp (disch := exact id (by kernel_rfl)) only [ih]; kernel_rfl
theorem Zif : Callable Tryz.prog 44 := callable_of Tryz.func44 (show chkFn Tryz.f44 = true by kernel_rfl)
theorem Zr9 (N : Nat) (l1 : List (Int × Int)) : DN Zf7 N (l1, ()) = Zbc N l1 := by
  have h : Zbc N l1 = Zbc N l1 := rfl
  conv at h => rhs; rw [Zbc]
  simp (disch := exact id (by kernel_rfl)) only [Zn5 (R := Unit × (Bool × Unit)) N (CF Zf7 N [1, 0, 1, 0])] at h
  exact Eq.trans (by kernel_rfl) h.symm
theorem Zig (N : Nat) : Good Tryz.prog 44 (Zeu N) := GF Zf7 N Tryz.func44 (ctx_cons (Zkh N) Zkg (ctx_cons (Zhw N) Zhv ctx_nil)) (by kernel_rfl) (fun d => Zr9 N d.1)
noncomputable def Zak (N : Nat) : Sig := Sig.of [.v (.slice (.int .i64)) false] [.v (.own (.int .i64)) false] (fun d => Zl N d.1)
noncomputable def Zqg : Fn := ⟨Tryz.f37, noAnn, Zak, noCtx⟩
theorem Zaz : Callable Tryz.prog 37 := callable_of Tryz.func37 (show chkFn Tryz.f37 = true by kernel_rfl)
theorem Za0 (N : Nat) : Good Tryz.prog 37 (Zak N) := GF Zqg N Tryz.func37 ctx_nil (by kernel_rfl) (fun d => by kernel_rfl)
noncomputable def Zhz (N : Nat) : Sig := Sig.of [.v (.slice (.int .i64)) false, .v (.slice (.prod (.int .i64) (.int .i64))) false] [.v (.own (.int .i64)) false] (fun d => Zcq N d.1 d.2.1)
noncomputable def Zfe : Fn := ⟨Tryz.f45, fun | 5 => [.canon [5, 18, 19, 20, 21]] | 6 => [.canon [5, 7, 18, 19, 20]] | 7 => [.canon [5, 18, 19, 20]] | 8 => [.canon [5, 18, 19, 20]] | 100005 => [.canon [5, 18, 19, 20]] | _ => [], Zhz, fun N => [(61, Za8 N), (44, Zeu N), (37, Zak N)]⟩
def Zlx (t6 : List (Int × Int)) (t8 : Int) (l9 : List Int) : St := ⟨[(5, vO 0), (18, vV (.slice (.prod (.int .i64) (.int .i64))) t6), (19, vI (ilen t6)), (20, vI t8)], [(0, .arr (.int .i64) l9)], 1⟩
def Zk9 (t6 : List (Int × Int)) (t10 : Int) (t11 : Bool) (l12 : List Int) : St := ⟨[(5, vO 0), (18, vV (.slice (.prod (.int .i64) (.int .i64))) t6), (19, vI (ilen t6)), (20, vI t10), (21, vB t11)], [(0, .arr (.int .i64) l12)], 1⟩
theorem Zly (N : Nat) {R : Type} (K : Ex → St → Option R) {t6 : List (Int × Int)} {K0 : Int → Bool → (List Int) → Option R} (h0 : K0 = fun t10 t11 l12 => K (.exit 0) (Zk9 t6 t10 t11 l12)) (n : Nat) (t8 : Int) (l9 : List Int) : Zbr N t6 K0 n t8 l9 = LM Zfe N 0 100005 n (Zlx t6 t8 l9) K := by
  subst h0
  induction n generalizing t8 l9 with
  | zero => kernel_rfl
  | succ n ih => rw [Zbr]; simp (disch := exact id (by kernel_rfl)) only [ih]; kernel_rfl
theorem Zq9 : Callable Tryz.prog 45 := callable_of Tryz.func45 (show chkFn Tryz.f45 = true by kernel_rfl)
theorem Zra (N : Nat) (cells1 : List Int) (l2 : List (Int × Int)) : DN Zfe N (cells1, l2, ()) = Zcq N cells1 l2 := by
  have h : Zcq N cells1 l2 = Zcq N cells1 l2 := rfl
  conv at h => rhs; rw [Zcq]
  simp (disch := exact id (by kernel_rfl)) only [Zly (R := Unit × ((List Int) × Unit)) N (CF Zfe N [1, 1, 1, 0, 1, 0])] at h
  exact Eq.trans (by kernel_rfl) h.symm
theorem Zrb (N : Nat) : Good Tryz.prog 45 (Zhz N) := GF Zfe N Tryz.func45 (ctx_cons (Zct N) Zcs (ctx_cons (Zig N) Zif (ctx_cons (Za0 N) Zaz ctx_nil))) (by kernel_rfl) (fun d => Zra N d.1 d.2.1)
noncomputable def Zfy (N : Nat) : Sig := Sig.of [.v (.prod (.slice (.int .i64)) (.prod (.slice (.int .i64)) (.int .i64))) true] [.v (.prod (.own (.int .i64)) (.prod (.own (.int .i64)) (.int .i64))) true] (fun d => Zab N d.1)
noncomputable def Zn6 : Fn := ⟨Tryz.f89, noAnn, Zfy, fun N => [(37, Zak N)]⟩
theorem Zn7 : Callable Tryz.prog 89 := callable_of Tryz.func89 (show chkFn Tryz.f89 = true by kernel_rfl)
theorem Zn8 (N : Nat) : Good Tryz.prog 89 (Zfy N) := GF Zn6 N Tryz.func89 (ctx_cons (Za0 N) Zaz ctx_nil) (by kernel_rfl) (fun d => by kernel_rfl)
noncomputable def Zhn (N : Nat) : Sig := Sig.of [.v (.prod (.int .i64) (.prod (.int .i64) (.prod (.int .i64) (.int .i64)))) true, .v (.slice (.int .i64)) false] [.v (.own (.int .i64)) false, .v (.bool) false] (fun d => Zed N d.1 d.2.1)
noncomputable def Ztw : Fn := ⟨Tryz.f90, noAnn, Zhn, fun N => [(37, Zak N), (116, Zfo N), (61, Za8 N)]⟩
theorem Znd : Callable Tryz.prog 90 := callable_of Tryz.func90 (show chkFn Tryz.f90 = true by kernel_rfl)
theorem Zne (N : Nat) : Good Tryz.prog 90 (Zhn N) := GF Ztw N Tryz.func90 (ctx_cons (Za0 N) Zaz (ctx_cons (Zjg N) Zjf (ctx_cons (Zct N) Zcs ctx_nil))) (by kernel_rfl) (fun d => by kernel_rfl)
noncomputable def Zg4 (N : Nat) : Sig := Sig.of [.v (.slice (.prod (.int .i64) (.prod (.int .i64) (.prod (.int .i64) (.int .i64))))) false, .v (.int .i64) false] [.v (.int .i64) false] (fun d => Zbd N d.1 d.2.1)
noncomputable def Zg5 : Fn := ⟨Tryz.f91, fun | 5 => [.canon [0, 5, 6, 25]] | 6 => [.canon [0, 5, 6]] | 7 => [.canon [0, 5, 6]] | 8 => [.canon [0, 5, 6, 36]] | 9 => [.canon [4]] | 100005 => [.canon [0, 5, 6]] | _ => [], Zg4, fun N => [(110, Zcb N), (119, Ze8 N)]⟩
def Zps (code4 : List (Int × Int × Int × Int)) (n5 : Int) (k6 : Int) : St := ⟨[(0, vV (.slice (.prod (.int .i64) (.prod (.int .i64) (.prod (.int .i64) (.int .i64))))) code4), (5, vI n5), (6, vI k6)], [], 0⟩
def Zn9 (code4 : List (Int × Int × Int × Int)) (t8 : Int) : St := ⟨[(4, vI t8)], [], 0⟩
def Zoa (code4 : List (Int × Int × Int × Int)) (n9 : Int) (k10 : Int) (t11 : Bool) : St := ⟨[(0, vV (.slice (.prod (.int .i64) (.prod (.int .i64) (.prod (.int .i64) (.int .i64))))) code4), (5, vI n9), (6, vI k10), (25, vB t11)], [], 0⟩
theorem Zpt (N : Nat) {R : Type} (K : Ex → St → Option R) {code4 : List (Int × Int × Int × Int)} {K0 : Int → Option R} {K1 : Int → Int → Bool → Option R} (h0 : K0 = fun t8 => K .ret (Zn9 code4 t8)) (h1 : K1 = fun n9 k10 t11 => K (.exit 0) (Zoa code4 n9 k10 t11)) (n : Nat) (n5 : Int) (k6 : Int) : Zcl N code4 K0 K1 n n5 k6 = LM Zg5 N 0 100005 n (Zps code4 n5 k6) K := by
  subst h0 h1
  induction n generalizing n5 k6 with
  | zero => kernel_rfl
  | succ n ih => rw [Zcl]; simp (disch := exact id (by kernel_rfl)) only [ih]; kernel_rfl
theorem Zla : Callable Tryz.prog 91 := callable_of Tryz.func91 (show chkFn Tryz.f91 = true by kernel_rfl)
theorem Zti (N : Nat) (code1 : List (Int × Int × Int × Int)) (i2 : Int) : DN Zg5 N (code1, i2, ()) = Zbd N code1 i2 := by
  have h : Zbd N code1 i2 = Zbd N code1 i2 := rfl
  conv at h => rhs; rw [Zbd]
  simp (disch := exact id (by kernel_rfl)) only [Zpt (R := Unit × (Int × Unit)) N (CF Zg5 N [1, 1, 1, 0, 1, 0])] at h
  exact Eq.trans (by kernel_rfl) h.symm
theorem Zlb (N : Nat) : Good Tryz.prog 91 (Zg4 N) := GF Zg5 N Tryz.func91 (ctx_cons (Zd0 N) Zdz (ctx_cons (Ziy N) Zix ctx_nil)) (by kernel_rfl) (fun d => Zti N d.1 d.2.1)
noncomputable def Zdw (N : Nat) : Sig := Sig.of [.v (.slice (.int .i64)) false, .v (.int .i64) false] [.v (.int .i64) false] (fun d => Zaw N d.1 d.2.1)
noncomputable def Zcc : Fn := ⟨Tryz.f133, fun | 2 => [.canon [0, 1, 7, 8, 9]] | 3 => [.canon [0, 1, 5, 7, 8]] | 4 => [.canon [0, 1, 5, 7, 8, 16]] | 5 => [.canon [4]] | 6 => [.canon [0, 1, 7, 8]] | 100002 => [.canon [0, 1, 7, 8]] | _ => [], Zdw, noCtx⟩
def Zh6 (s3 : List Int) (v4 : Int) (t6 : Int) : St := ⟨[(0, vV (.slice (.int .i64)) s3), (1, vI v4), (7, vI (ilen s3)), (8, vI t6)], [], 0⟩
def Zh0 (s3 : List Int) (v4 : Int) (t7 : Int) : St := ⟨[(4, vI t7)], [], 0⟩
def Zh1 (s3 : List Int) (v4 : Int) (t8 : Int) (t9 : Bool) : St := ⟨[(0, vV (.slice (.int .i64)) s3), (1, vI v4), (7, vI (ilen s3)), (8, vI t8), (9, vB t9)], [], 0⟩
theorem Zh7 (N : Nat) {R : Type} (K : Ex → St → Option R) {s3 : List Int} {v4 : Int} {K0 : Int → Option R} {K1 : Int → Bool → Option R} (h0 : K0 = fun t7 => K .ret (Zh0 s3 v4 t7)) (h1 : K1 = fun t8 t9 => K (.exit 0) (Zh1 s3 v4 t8 t9)) (n : Nat) (t6 : Int) : Zbm N s3 v4 K0 K1 n t6 = LM Zcc N 0 100002 n (Zh6 s3 v4 t6) K := by
  subst h0 h1
  induction n generalizing t6 with
  | zero => kernel_rfl
  | succ n ih => rw [Zbm]; simp (disch := exact id (by kernel_rfl)) only [ih]; kernel_rfl
theorem Zja : Callable Tryz.prog 133 := callable_of Tryz.func133 (show chkFn Tryz.f133 = true by kernel_rfl)
theorem Zjb (N : Nat) (s1 : List Int) (v2 : Int) : DN Zcc N (s1, v2, ()) = Zaw N s1 v2 := by
  have h : Zaw N s1 v2 = Zaw N s1 v2 := rfl
  conv at h => rhs; rw [Zaw]
  simp (disch := exact id (by kernel_rfl)) only [Zh7 (R := Unit × (Int × Unit)) N (CF Zcc N [1, 0, 1, 0])] at h
  exact Eq.trans (by kernel_rfl) h.symm
theorem Zjc (N : Nat) : Good Tryz.prog 133 (Zdw N) := GF Zcc N Tryz.func133 ctx_nil (by kernel_rfl) (fun d => Zjb N d.1 d.2.1)
noncomputable def Zc4 (N : Nat) : Sig := Sig.of [.v (.slice (.int .i64)) false, .v (.int .i64) false] [.v (.bool) false] (fun d => Ze4 N d.1 d.2.1)
noncomputable def Zih : Fn := ⟨Tryz.f120, noAnn, Zc4, fun N => [(133, Zdw N)]⟩
theorem Zii : Callable Tryz.prog 120 := callable_of Tryz.func120 (show chkFn Tryz.f120 = true by kernel_rfl)
theorem Zij (N : Nat) : Good Tryz.prog 120 (Zc4 N) := GF Zih N Tryz.func120 (ctx_cons (Zjc N) Zja ctx_nil) (by kernel_rfl) (fun d => by kernel_rfl)
noncomputable def Zgt (N : Nat) : Sig := Sig.of [.v (.slice (.int .i64)) false, .v (.int .i64) false] [.v (.own (.int .i64)) false] (fun d => Zba N d.1 d.2.1)
noncomputable def Zev : Fn := ⟨Tryz.f92, fun | 3 => [.canon [0, 5, 9, 10, 11]] | 4 => [.canon [0, 5, 6, 9, 10]] | 5 => [.canon [0, 5, 6, 9, 10, 16]] | 6 => [.canon [0, 5, 9, 10]] | 7 => [.canon [0, 5, 9, 10]] | 100003 => [.canon [0, 5, 9, 10]] | _ => [], Zgt, fun N => [(37, Zak N), (120, Zc4 N)]⟩
def Zk0 (order4 : List Int) (t5 : Int) (t6 : Int) (l7 : List Int) : St := ⟨[(0, vV (.slice (.int .i64)) order4), (5, vO 0), (9, vI t5), (10, vI t6)], [(0, .arr (.int .i64) l7)], 1⟩
def Zj8 (order4 : List Int) (t5 : Int) (t9 : Int) (t10 : Bool) (l11 : List Int) : St := ⟨[(0, vV (.slice (.int .i64)) order4), (5, vO 0), (9, vI t5), (10, vI t9), (11, vB t10)], [(0, .arr (.int .i64) l11)], 1⟩
theorem Zk1 (N : Nat) {R : Type} (K : Ex → St → Option R) {order4 : List Int} {t5 : Int} {K0 : Int → Bool → (List Int) → Option R} (h0 : K0 = fun t9 t10 l11 => K (.exit 0) (Zj8 order4 t5 t9 t10 l11)) (n : Nat) (t6 : Int) (l7 : List Int) : Zc1 N order4 t5 K0 n t6 l7 = LM Zev N 0 100003 n (Zk0 order4 t5 t6 l7) K := by
  subst h0
  induction n generalizing t6 l7 with
  | zero => kernel_rfl
  | succ n ih => rw [Zc1]; simp (disch := exact id (by kernel_rfl)) only [ih]; kernel_rfl
theorem Zpu : Callable Tryz.prog 92 := callable_of Tryz.func92 (show chkFn Tryz.f92 = true by kernel_rfl)
theorem Zpv (N : Nat) (order1 : List Int) (kids2 : Int) : DN Zev N (order1, kids2, ()) = Zba N order1 kids2 := by
  have h : Zba N order1 kids2 = Zba N order1 kids2 := rfl
  conv at h => rhs; rw [Zba]
  simp (disch := exact id (by kernel_rfl)) only [Zk1 (R := Unit × ((List Int) × Unit)) N (CF Zev N [1, 1, 0, 1, 0])] at h
  exact Eq.trans (by kernel_rfl) h.symm
theorem Zpw (N : Nat) : Good Tryz.prog 92 (Zgt N) := GF Zev N Tryz.func92 (ctx_cons (Za0 N) Zaz (ctx_cons (Zij N) Zii ctx_nil)) (by kernel_rfl) (fun d => Zpv N d.1 d.2.1)
noncomputable def Zi1 (N : Nat) : Sig := Sig.of [.v (.prod (.int .i64) (.prod (.int .i64) (.prod (.int .i64) (.int .i64)))) true, .mut (.int .i64), .box (.prod (.own (.int .i64)) (.prod (.own (.int .i64)) (.int .i64)))] [] (fun d => Zei N d.1 d.2.1 d.2.2.1)
noncomputable def Ztj : Fn := ⟨Tryz.f93, noAnn, Zi1, noCtx⟩
theorem Ztk : Callable Tryz.prog 93 := callable_of Tryz.func93 (show chkFn Tryz.f93 = true by kernel_rfl)
theorem Ztl (N : Nat) : Good Tryz.prog 93 (Zi1 N) := GF Ztj N Tryz.func93 ctx_nil (by kernel_rfl) (fun d => by kernel_rfl)
noncomputable def Zff (N m : Nat) : Sig := Sig.of [.v (.slice (.prod (.int .i64) (.prod (.int .i64) (.prod (.int .i64) (.int .i64))))) false, .v (.slice (.slice (.prod (.int .i64) (.prod (.int .i64) (.prod (.int .i64) (.int .i64)))))) false, .v (.slice (.int .i64)) false, .v (.slice (.int .i64)) false, .v (.prod (.slice (.int .i64)) (.prod (.slice (.int .i64)) (.int .i64))) true] [.v (.prod (.int .i64) (.prod (.own (.int .i64)) (.prod (.own (.int .i64)) (.prod (.own (.int .i64)) (.int .i64))))) true] (fun d => Zan N m d.1 d.2.1 d.2.2.1 d.2.2.2.1 d.2.2.2.2.1)
noncomputable def Zkk (N : Nat) : Sig := Zff N N
noncomputable def Zd1 (m : Nat) : Fn := ⟨Tryz.f65, fun | 3 => [.empt 25 (.prod (.int .i64) (.prod (.own (.int .i64)) (.prod (.own (.int .i64)) (.prod (.own (.int .i64)) (.int .i64)))))] | 5 => [.canon [0, 1, 2, 3, 9, 10, 11, 12, 13, 29]] | 6 => [.canon [0, 1, 2, 3, 9, 10, 11, 12, 13]] | 7 => [.canon [0, 1, 2, 3, 9, 10, 11, 12, 13, 14]] | 8 => [.canon [0, 1, 2, 3, 9, 10, 11, 12, 13, 14, 37]] | 9 => [.canon [0, 1, 2, 3, 9, 10, 11, 12, 13]] | 10 => [.canon [0, 1, 2, 3, 9, 10, 11, 12, 13, 14, 37, 41]] | 11 => [.canon [0, 1, 2, 3, 9, 10, 11, 12, 13, 14, 37, 41]] | 12 => [.canon [0, 1, 2, 3, 9, 10, 11, 12, 13, 14, 37, 41]] | 13 => [.canon [0, 1, 2, 3, 9, 10, 11, 12, 13, 14, 37, 41]] | 14 => [.canon [0, 1, 2, 3, 9, 10, 11, 12, 13]] | 15 => [.canon [0, 1, 2, 3, 9, 10, 11, 12, 13, 14, 37, 52]] | 16 => [.canon [0, 1, 2, 3, 9, 10, 11, 12, 13, 14, 59]] | 17 => [.canon [0, 1, 2, 3, 9, 10, 11, 12, 13]] | 18 => [.canon [0, 1, 2, 3, 9, 10, 11, 12, 13, 14, 37, 64]] | 19 => [.nest 73 (.prod (.int .i64) (.prod (.own (.int .i64)) (.prod (.own (.int .i64)) (.prod (.own (.int .i64)) (.int .i64))))), .canon [0, 1, 2, 3, 9, 10, 11, 12, 13]] | 20 => [.canon [0, 1, 2, 3, 9, 10, 11, 12, 13, 14, 37, 75]] | 21 => [.opn 81, .canon [0, 1, 2, 3, 9, 10, 11, 12, 13, 15]] | 22 => [.canon [0, 1, 2, 3, 9, 10, 11, 12, 13, 15]] | 23 => [.canon [0, 1, 2, 3, 9, 10, 11, 12, 13]] | 24 => [.canon [0, 1, 2, 3, 9, 10, 11, 12, 13, 14, 37, 96]] | 25 => [.canon [0, 1, 2, 3, 9, 10, 11, 12, 100]] | 26 => [.canon [10]] | 27 => [.opn 109, .canon [0, 1, 2, 9, 10, 11, 12, 16]] | 28 => [.canon [0, 1, 2, 9, 10, 11, 12, 16]] | 29 => [.canon [0, 1, 2, 3, 9, 10, 11, 12, 16]] | 30 => [.canon [0, 1, 2, 3, 9, 10, 11, 12, 16]] | 31 => [.canon [0, 1, 2, 3, 9, 10, 11, 12, 13]] | 32 => [.canon [0, 1, 2, 3, 9, 10, 11, 12, 13, 14, 132]] | 33 => [.canon [0, 1, 2, 3, 9, 10, 11, 12, 13, 17]] | 34 => [.canon [0, 1, 2, 3, 9, 10, 11, 12, 13, 17, 139, 140, 141]] | 35 => [.canon [0, 1, 2, 3, 9, 10, 11, 12, 13, 17, 139, 140, 141, 142]] | 36 => [.canon [0, 1, 2, 3, 9, 10, 11, 12, 13, 17, 19, 139, 140, 141]] | 37 => [.canon [0, 1, 2, 3, 9, 10, 11, 12, 13, 17, 19, 20, 139, 140, 141]] | 38 => [.canon [0, 1, 2, 3, 9, 10, 11, 12, 13, 17, 19, 20, 139, 140, 141]] | 39 => [.canon [0, 1, 2, 3, 9, 10, 11, 12, 13, 17, 19, 20, 139, 140, 141]] | 40 => [.canon [0, 1, 2, 3, 9, 10, 11, 12, 13, 17, 19, 20, 139, 140, 141, 165]] | 41 => [.canon [0, 1, 2, 3, 9, 10, 11, 12, 13, 17, 139, 140, 141]] | 42 => [.canon [0, 1, 2, 3, 9, 10, 11, 12, 13, 17, 139, 140, 141]] | 100005 => [.canon [0, 1, 2, 3, 9, 10, 11, 12, 13]] | 100035 => [.canon [0, 1, 2, 3, 9, 10, 11, 12, 13, 17, 139, 140, 141]] | _ => [], fun N => Zff N (m + 1), fun N => [(37, Zak N), (89, Zfy N), (90, Zhn N), (91, Zg4 N), (92, Zgt N), (65, Zff N m), (93, Zi1 N)]⟩
def Zob (code27 : List (Int × Int × Int × Int)) (kids28 : List (List (Int × Int × Int × Int))) (order29 : List Int) (i30 : Int) (t31 : Int) (t32 : Int) (l33 : List Int) (b34 : List Int × List Int × Int) (b35 : Int) (b36 : Int) (b37 : Int) (l38 : List (Int × List Int × List Int × List Int × Int)) (l39 : List Int) (l40 : List Int) (l41 : List Int) (l42 : List Int) : St := ⟨[(0, vV (.slice (.prod (.int .i64) (.prod (.int .i64) (.prod (.int .i64) (.int .i64))))) code27), (1, vV (.slice (.slice (.prod (.int .i64) (.prod (.int .i64) (.prod (.int .i64) (.int .i64)))))) kids28), (2, vV (.slice (.int .i64)) order29), (3, vO 0), (9, vP 1 0), (10, vP 2 0), (11, vP 3 0), (12, vO 4), (13, vI i30), (17, vO 5), (139, vO 6), (140, vI t31), (141, vI t32)], [(0, .arr (.int .i64) l33), (1, .box [.val (.slice (.int .i64)) b34.1, .val (.slice (.int .i64)) b34.2.1, .val (.int .i64) b34.2.2]), (2, .box [.val (.int .i64) b35, .nils, .nils, .nils, .val (.int .i64) b36]), (3, .box [.own 7, .own 8, .val (.int .i64) b37]), (4, .arr (.prod (.int .i64) (.prod (.own (.int .i64)) (.prod (.own (.int .i64)) (.prod (.own (.int .i64)) (.int .i64))))) l38), (5, .arr (.int .i64) l39), (6, .arr (.int .i64) l40), (7, .arr (.int .i64) l41), (8, .arr (.int .i64) l42)], 9⟩
def Zlz (code27 : List (Int × Int × Int × Int)) (kids28 : List (List (Int × Int × Int × Int))) (order29 : List Int) (i30 : Int) (t31 : Int) (b34 : List Int × List Int × Int) (b35 : Int) (b36 : Int) (b37 : Int) (l38 : List (Int × List Int × List Int × List Int × Int)) (l39 : List Int) (l40 : List Int) (l42 : List Int) (t49 : Int) (t50 : Bool) (l51 : List Int) (l52 : List Int) : St := ⟨[(0, vV (.slice (.prod (.int .i64) (.prod (.int .i64) (.prod (.int .i64) (.int .i64))))) code27), (1, vV (.slice (.slice (.prod (.int .i64) (.prod (.int .i64) (.prod (.int .i64) (.int .i64)))))) kids28), (2, vV (.slice (.int .i64)) order29), (3, vO 0), (9, vP 1 0), (10, vP 2 0), (11, vP 3 0), (12, vO 4), (13, vI i30), (17, vO 5), (139, vO 6), (140, vI t31), (141, vI t49), (142, vB t50)], [(0, .arr (.int .i64) l51), (1, .box [.val (.slice (.int .i64)) b34.1, .val (.slice (.int .i64)) b34.2.1, .val (.int .i64) b34.2.2]), (2, .box [.val (.int .i64) b35, .nils, .nils, .nils, .val (.int .i64) b36]), (3, .box [.own 7, .own 8, .val (.int .i64) b37]), (4, .arr (.prod (.int .i64) (.prod (.own (.int .i64)) (.prod (.own (.int .i64)) (.prod (.own (.int .i64)) (.int .i64))))) l38), (5, .arr (.int .i64) l39), (6, .arr (.int .i64) l40), (7, .arr (.int .i64) l52), (8, .arr (.int .i64) l42)], 9⟩
theorem Zoc (N m : Nat) {R : Type} (K : Ex → St → Option R) {code27 : List (Int × Int × Int × Int)} {kids28 : List (List (Int × Int × Int × Int))} {order29 : List Int} {i30 : Int} {t31 : Int} {b34 : List Int × List Int × Int} {b35 : Int} {b36 : Int} {b37 : Int} {l38 : List (Int × List Int × List Int × List Int × Int)} {l39 : List Int} {l40 : List Int} {l42 : List Int} {K0 : Int → Bool → (List Int) → (List Int) → Option R} (h0 : K0 = fun t49 t50 l51 l52 => K (.exit 3) (Zlz code27 kids28 order29 i30 t31 b34 b35 b36 b37 l38 l39 l40 l42 t49 t50 l51 l52)) (n : Nat) (t32 : Int) (l33 : List Int) (l41 : List Int) : Zac N (Zan N m) code27 kids28 order29 i30 t31 b34 b35 b36 b37 l38 l39 l40 l42 K0 n t32 l33 l41 = LM (Zd1 m) N 1 100035 n (Zob code27 kids28 order29 i30 t31 t32 l33 b34 b35 b36 b37 l38 l39 l40 l41 l42) K := by
  subst h0
  induction n generalizing t32 l33 l41 with
  | zero => kernel_rfl
  | succ n ih => rw [Zac]; simp (disch := exact id (by kernel_rfl)) only [ih]; kernel_rfl
def Zod (code8 : List (Int × Int × Int × Int)) (kids9 : List (List (Int × Int × Int × Int))) (order10 : List Int) (i11 : Int) (l12 : List Int) (b13 : List Int × List Int × Int) (b16 : Int) (l17 : List (Int × List Int × List Int × List Int × Int)) (l18 : List Int) (l19 : List Int) : St := ⟨[(0, vV (.slice (.prod (.int .i64) (.prod (.int .i64) (.prod (.int .i64) (.int .i64))))) code8), (1, vV (.slice (.slice (.prod (.int .i64) (.prod (.int .i64) (.prod (.int .i64) (.int .i64)))))) kids9), (2, vV (.slice (.int .i64)) order10), (3, vO 0), (9, vP 1 0), (10, vP 2 0), (11, vP 3 0), (12, vO 4), (13, vI i11)], [(0, .arr (.int .i64) l12), (1, .box [.val (.slice (.int .i64)) b13.1, .val (.slice (.int .i64)) b13.2.1, .val (.int .i64) b13.2.2]), (2, .box [.val (.int .i64) (0 : Int), .nils, .nils, .nils, .val (.int .i64) (0 : Int)]), (3, .box [.own 5, .own 6, .val (.int .i64) b16]), (4, .arr (.prod (.int .i64) (.prod (.own (.int .i64)) (.prod (.own (.int .i64)) (.prod (.own (.int .i64)) (.int .i64))))) l17), (5, .arr (.int .i64) l18), (6, .arr (.int .i64) l19)], 7⟩
def Zl0 (code8 : List (Int × Int × Int × Int)) (kids9 : List (List (Int × Int × Int × Int))) (order10 : List Int) (b13 : List Int × List Int × Int) (b148 : Int) (l149 : List Int) (l150 : List Int) (l151 : List Int) : St := ⟨[(10, vP 0 0)], [(0, .box [.val (.int .i64) (2 : Int), .own 1, .own 2, .own 3, .val (.int .i64) b148]), (1, .arr (.int .i64) l149), (2, .arr (.int .i64) l150), (3, .arr (.int .i64) l151)], 4⟩
def Zl1 (code8 : List (Int × Int × Int × Int)) (kids9 : List (List (Int × Int × Int × Int))) (order10 : List Int) (b13 : List Int × List Int × Int) (i152 : Int) (t153 : Bool) (l154 : List Int) (b155 : Int) (l156 : List (Int × List Int × List Int × List Int × Int)) (l157 : List Int) (l158 : List Int) : St := ⟨[(0, vV (.slice (.prod (.int .i64) (.prod (.int .i64) (.prod (.int .i64) (.int .i64))))) code8), (1, vV (.slice (.slice (.prod (.int .i64) (.prod (.int .i64) (.prod (.int .i64) (.int .i64)))))) kids9), (2, vV (.slice (.int .i64)) order10), (3, vO 0), (9, vP 1 0), (10, vP 2 0), (11, vP 3 0), (12, vO 4), (13, vI i152), (29, vB t153)], [(0, .arr (.int .i64) l154), (1, .box [.val (.slice (.int .i64)) b13.1, .val (.slice (.int .i64)) b13.2.1, .val (.int .i64) b13.2.2]), (2, .box [.val (.int .i64) (0 : Int), .nils, .nils, .nils, .val (.int .i64) (0 : Int)]), (3, .box [.own 5, .own 6, .val (.int .i64) b155]), (4, .arr (.prod (.int .i64) (.prod (.own (.int .i64)) (.prod (.own (.int .i64)) (.prod (.own (.int .i64)) (.int .i64))))) l156), (5, .arr (.int .i64) l157), (6, .arr (.int .i64) l158)], 7⟩
theorem Zoe (N m : Nat) {R : Type} (K : Ex → St → Option R) {code8 : List (Int × Int × Int × Int)} {kids9 : List (List (Int × Int × Int × Int))} {order10 : List Int} {b13 : List Int × List Int × Int} {K0 : Int → (List Int) → (List Int) → (List Int) → Option R} {K1 : Int → Bool → (List Int) → Int → (List (Int × List Int × List Int × List Int × Int)) → (List Int) → (List Int) → Option R} (h0 : K0 = fun b148 l149 l150 l151 => K .ret (Zl0 code8 kids9 order10 b13 b148 l149 l150 l151)) (h1 : K1 = fun i152 t153 l154 b155 l156 l157 l158 => K (.exit 0) (Zl1 code8 kids9 order10 b13 i152 t153 l154 b155 l156 l157 l158)) (n : Nat) (i11 : Int) (l12 : List Int) (b16 : Int) (l17 : List (Int × List Int × List Int × List Int × Int)) (l18 : List Int) (l19 : List Int) : Zh N (Zan N m) code8 kids9 order10 b13 K0 K1 n i11 l12 b16 l17 l18 l19 = LM (Zd1 m) N 0 100005 n (Zod code8 kids9 order10 i11 l12 b13 b16 l17 l18 l19) K := by
  subst h0 h1
  induction n generalizing i11 l12 b16 l17 l18 l19 with
  | zero => kernel_rfl
  | succ n ih => rw [Zh]; simp (disch := exact id (by kernel_rfl)) only [ih, Zoc N m (CL (Zd1 m) N 0 100005 [1, 0, 0, 1, 1, 0, 1, 1, 1, 1, 1, 1, 1, 1, 1, 1, 1, 0, 1, 1, 0] n K)]; kernel_rfl
theorem Zkl : Callable Tryz.prog 65 := callable_of Tryz.func65 (show chkFn Tryz.f65 = true by kernel_rfl)
theorem Zsa (N m : Nat) (code1 : List (Int × Int × Int × Int)) (kids2 : List (List (Int × Int × Int × Int))) (order3 : List Int) (regs4 : List Int) (first5 : List Int × List Int × Int) : DN (Zd1 m) N (code1, kids2, order3, regs4, first5, ()) = Zan N (m + 1) code1 kids2 order3 regs4 first5 := by
  have h : Zan N (m + 1) code1 kids2 order3 regs4 first5 = Zan N (m + 1) code1 kids2 order3 regs4 first5 := rfl
  conv at h => rhs; rw [Zan]
  simp (disch := exact id (by kernel_rfl)) only [Zoe (R := Unit × ((Int × List Int × List Int × List Int × Int) × Unit)) N m (CF (Zd1 m) N [1, 1, 1, 1, 0, 1, 0])] at h
  exact Eq.trans (by kernel_rfl) h.symm
theorem Zju (N : Nat) : ∀ m, Good Tryz.prog 65 (Zff N m)
  | 0 => fun d o h => nomatch (show none = some o from h)
  | m + 1 => GF (Zd1 m) N Tryz.func65 (ctx_cons (Za0 N) Zaz (ctx_cons (Zn8 N) Zn7 (ctx_cons (Zne N) Znd (ctx_cons (Zlb N) Zla (ctx_cons (Zpw N) Zpu (ctx_cons (Zju N m) Zkl (ctx_cons (Ztl N) Ztk ctx_nil))))))) (by kernel_rfl) (fun d => Zsa N m d.1 d.2.1 d.2.2.1 d.2.2.2.1 d.2.2.2.2.1)
theorem Zsb (N : Nat) : Good Tryz.prog 65 (Zkk N) := Zju N N
noncomputable def Zgu (N : Nat) : Sig := Sig.of [.v (.slice (.prod (.int .i64) (.prod (.int .i64) (.prod (.int .i64) (.int .i64))))) false, .v (.slice (.int .i64)) false, .v (.slice (.int .i64)) false] [.v (.int .i64) false, .v (.own (.int .i64)) false, .v (.own (.int .i64)) false] (fun d => Zfb N d.1 d.2.1 d.2.2.1)
noncomputable def Zpx : Fn := ⟨Tryz.f34, noAnn, Zgu, fun N => [(64, Ze9 N), (61, Za8 N), (65, Zkk N)]⟩
theorem Zpy : Callable Tryz.prog 34 := callable_of Tryz.func34 (show chkFn Tryz.f34 = true by kernel_rfl)
theorem Zpz (N : Nat) : Good Tryz.prog 34 (Zgu N) := GF Zpx N Tryz.func34 (ctx_cons (Zi0 N) Ziz (ctx_cons (Zct N) Zcs (ctx_cons (Zsb N) Zkl ctx_nil))) (by kernel_rfl) (fun d => by kernel_rfl)
noncomputable def Zi2 (N : Nat) : Sig := Sig.of [.v (.slice (.prod (.int .i64) (.prod (.int .i64) (.prod (.int .i64) (.int .i64))))) false, .v (.slice (.int .i64)) false, .v (.slice (.int .i64)) false] [.box (.prod (.own (.int .i64)) (.prod (.own (.int .i64)) (.prod (.own (.prod (.int .i64) (.int .i64))) (.prod (.int .i64) (.prod (.own (.prod (.int .i64) (.prod (.int .i64) (.own (.int .i64))))) (.own (.int .i64))))))), .v (.bool) false] (fun d => Zgq N d.1 d.2.1 d.2.2.1)
noncomputable def Ztm : Fn := ⟨Tryz.f66, noAnn, Zi2, fun N => [(64, Ze9 N), (61, Za8 N), (37, Zak N)]⟩
theorem Ztn : Callable Tryz.prog 66 := callable_of Tryz.func66 (show chkFn Tryz.f66 = true by kernel_rfl)
theorem Zto (N : Nat) : Good Tryz.prog 66 (Zi2 N) := GF Ztm N Tryz.func66 (ctx_cons (Zi0 N) Ziz (ctx_cons (Zct N) Zcs (ctx_cons (Za0 N) Zaz ctx_nil))) (by kernel_rfl) (fun d => by kernel_rfl)
noncomputable def Zfg (N : Nat) : Sig := Sig.of [.v (.prod (.int .i64) (.int .i64)) true, .box (.prod (.int .i64) (.prod (.int .i64) (.prod (.int .i64) (.int .i64))))] [.v (.bool) false] (fun d => Zgr N d.1 d.2.1)
noncomputable def Zl2 : Fn := ⟨Tryz.f95, noAnn, Zfg, noCtx⟩
theorem Zl3 : Callable Tryz.prog 95 := callable_of Tryz.func95 (show chkFn Tryz.f95 = true by kernel_rfl)
theorem Zl4 (N : Nat) : Good Tryz.prog 95 (Zfg N) := GF Zl2 N Tryz.func95 ctx_nil (by kernel_rfl) (fun d => by kernel_rfl)
noncomputable def Z7 (N : Nat) : Sig := Sig.of [.v (.slice (.prod (.int .i64) (.int .i64))) false, .clos 95 1, .box (.prod (.int .i64) (.prod (.int .i64) (.prod (.int .i64) (.int .i64))))] [.v (.int .i64) false] (fun d => Zn N d.1 d.2.1)
noncomputable def Zz : Fn := ⟨Tryz.f121, fun | 2 => [.canon [0, 1, 7, 8, 9]] | 3 => [.canon [0, 1, 5, 7, 8]] | 4 => [.canon [0, 1, 5, 7, 8, 16]] | 5 => [.canon [1, 4]] | 6 => [.canon [0, 1, 7, 8]] | 100002 => [.canon [0, 1, 7, 8]] | _ => [], Z7, fun N => [(95, Zfg N)]⟩
def Zcu (s3 : List (Int × Int)) (t5 : Int) (b6 : Int × Int × Int × Int) : St := ⟨[(0, vV (.slice (.prod (.int .i64) (.int .i64))) s3), (1, .s (.one (.clos 95 [0]))), (7, vI (ilen s3)), (8, vI t5)], [(0, .box [.val (.int .i64) b6.1, .val (.int .i64) b6.2.1, .val (.int .i64) b6.2.2.1, .val (.int .i64) b6.2.2.2])], 1⟩
def Zcm (s3 : List (Int × Int)) (t9 : Int) (b10 : Int × Int × Int × Int) : St := ⟨[(1, .s (.one (.clos 95 [0]))), (4, vI t9)], [(0, .box [.val (.int .i64) b10.1, .val (.int .i64) b10.2.1, .val (.int .i64) b10.2.2.1, .val (.int .i64) b10.2.2.2])], 1⟩
def Zcn (s3 : List (Int × Int)) (t11 : Int) (t12 : Bool) (b13 : Int × Int × Int × Int) : St := ⟨[(0, vV (.slice (.prod (.int .i64) (.int .i64))) s3), (1, .s (.one (.clos 95 [0]))), (7, vI (ilen s3)), (8, vI t11), (9, vB t12)], [(0, .box [.val (.int .i64) b13.1, .val (.int .i64) b13.2.1, .val (.int .i64) b13.2.2.1, .val (.int .i64) b13.2.2.2])], 1⟩
theorem Zcv (N : Nat) {R : Type} (K : Ex → St → Option R) {s3 : List (Int × Int)} {K0 : Int → (Int × Int × Int × Int) → Option R} {K1 : Int → Bool → (Int × Int × Int × Int) → Option R} (h0 : K0 = fun t9 b10 => K .ret (Zcm s3 t9 b10)) (h1 : K1 = fun t11 t12 b13 => K (.exit 0) (Zcn s3 t11 t12 b13)) (n : Nat) (t5 : Int) (b6 : Int × Int × Int × Int) : Zk N s3 K0 K1 n t5 b6 = LM Zz N 0 100002 n (Zcu s3 t5 b6) K := by
  subst h0 h1
  induction n generalizing t5 b6 with
  | zero => kernel_rfl
  | succ n ih => rw [Zk]; simp (disch := exact id (by kernel_rfl)) only [ih]; kernel_rfl
theorem Zc9 : Callable Tryz.prog 121 := callable_of Tryz.func121 (show chkFn Tryz.f121 = true by kernel_rfl)
theorem Zda (N : Nat) (s1 : List (Int × Int)) (cap2 : Int × Int × Int × Int) : DN Zz N (s1, cap2, ()) = Zn N s1 cap2 := by
  have h : Zn N s1 cap2 = Zn N s1 cap2 := rfl
  conv at h => rhs; rw [Zn]
  simp (disch := exact id (by kernel_rfl)) only [Zcv (R := ((Int × Int × Int × Int) × Unit) × (Int × Unit)) N (CF Zz N [1, 0, 1, 0])] at h
  exact Eq.trans (by kernel_rfl) h.symm
theorem Zdb (N : Nat) : Good Tryz.prog 121 (Z7 N) := GF Zz N Tryz.func121 (ctx_cons (Zl4 N) Zl3 ctx_nil) (by kernel_rfl) (fun d => Zda N d.1 d.2.1)
noncomputable def Z5 (N : Nat) : Sig := Sig.of [.v (.slice (.prod (.int .i64) (.int .i64))) false, .clos 95 1, .box (.prod (.int .i64) (.prod (.int .i64) (.prod (.int .i64) (.int .i64))))] [.v (.bool) false] (fun d => Zy N d.1 d.2.1)
noncomputable def Zcw : Fn := ⟨Tryz.f94, noAnn, Z5, fun N => [(121, Z7 N)]⟩
theorem Zcx : Callable Tryz.prog 94 := callable_of Tryz.func94 (show chkFn Tryz.f94 = true by kernel_rfl)
theorem Zcy (N : Nat) : Good Tryz.prog 94 (Z5 N) := GF Zcw N Tryz.func94 (ctx_cons (Zdb N) Zc9 ctx_nil) (by kernel_rfl) (fun d => by kernel_rfl)
noncomputable def Zhd (N : Nat) : Sig := Sig.of [.v (.slice (.prod (.int .i64) (.int .i64))) false] [.v (.own (.prod (.int .i64) (.int .i64))) false] (fun d => Zh9 N d.1)
noncomputable def Zqh : Fn := ⟨Tryz.f137, noAnn, Zhd, noCtx⟩
theorem Zqi : Callable Tryz.prog 137 := callable_of Tryz.func137 (show chkFn Tryz.f137 = true by kernel_rfl)
theorem Zqj (N : Nat) : Good Tryz.prog 137 (Zhd N) := GF Zqh N Tryz.func137 ctx_nil (by kernel_rfl) (fun d => by kernel_rfl)
noncomputable def Zhe (N : Nat) : Sig := Sig.of [.v (.slice (.int .i64)) false, .v (.slice (.prod (.int .i64) (.int .i64))) false, .v (.int .i64) false] [.v (.own (.int .i64)) false, .v (.own (.prod (.int .i64) (.int .i64))) false] (fun d => Zbk N d.1 d.2.1 d.2.2.1)
noncomputable def Ze3 : Fn := ⟨Tryz.f134, fun | 5 => [.canon [1, 2, 8, 9, 29]] | 6 => [.canon [1, 2, 8, 9]] | 7 => [.canon [1, 2, 8, 9]] | 100005 => [.canon [1, 2, 8, 9]] | _ => [], Zhe, fun N => [(61, Za8 N), (44, Zeu N), (37, Zak N), (137, Zhd N)]⟩
def Zlc (log7 : List (Int × Int)) (n8 : Int) (i9 : Int) (l10 : List Int) : St := ⟨[(1, vV (.slice (.prod (.int .i64) (.int .i64))) log7), (2, vI n8), (8, vO 0), (9, vI i9)], [(0, .arr (.int .i64) l10)], 1⟩
def Zk2 (log7 : List (Int × Int)) (n8 : Int) (i11 : Int) (t12 : Bool) (l13 : List Int) : St := ⟨[(1, vV (.slice (.prod (.int .i64) (.int .i64))) log7), (2, vI n8), (8, vO 0), (9, vI i11), (29, vB t12)], [(0, .arr (.int .i64) l13)], 1⟩
theorem Zld (N : Nat) {R : Type} (K : Ex → St → Option R) {log7 : List (Int × Int)} {n8 : Int} {K0 : Int → Bool → (List Int) → Option R} (h0 : K0 = fun i11 t12 l13 => K (.exit 0) (Zk2 log7 n8 i11 t12 l13)) (n : Nat) (i9 : Int) (l10 : List Int) : Zaq N log7 n8 K0 n i9 l10 = LM Ze3 N 0 100005 n (Zlc log7 n8 i9 l10) K := by
  subst h0
  induction n generalizing i9 l10 with
  | zero => kernel_rfl
  | succ n ih => rw [Zaq]; simp (disch := exact id (by kernel_rfl)) only [ih]; kernel_rfl
theorem Zqk : Callable Tryz.prog 134 := callable_of Tryz.func134 (show chkFn Tryz.f134 = true by kernel_rfl)
theorem Zql (N : Nat) (cells1 : List Int) (log2 : List (Int × Int)) (n3 : Int) : DN Ze3 N (cells1, log2, n3, ()) = Zbk N cells1 log2 n3 := by
  have h : Zbk N cells1 log2 n3 = Zbk N cells1 log2 n3 := rfl
  conv at h => rhs; rw [Zbk]
  simp (disch := exact id (by kernel_rfl)) only [Zld (R := Unit × ((List Int) × ((List (Int × Int)) × Unit))) N (CF Ze3 N [1, 1, 1, 0, 1, 0])] at h
  exact Eq.trans (by kernel_rfl) h.symm
theorem Zqm (N : Nat) : Good Tryz.prog 134 (Zhe N) := GF Ze3 N Tryz.func134 (ctx_cons (Zct N) Zcs (ctx_cons (Zig N) Zif (ctx_cons (Za0 N) Zaz (ctx_cons (Zqj N) Zqi ctx_nil)))) (by kernel_rfl) (fun d => Zql N d.1 d.2.1 d.2.2.1)
noncomputable def Zgv (N : Nat) : Sig := Sig.of [.box (.prod (.own (.int .i64)) (.prod (.own (.int .i64)) (.prod (.own (.prod (.int .i64) (.int .i64))) (.prod (.int .i64) (.prod (.own (.prod (.int .i64) (.prod (.int .i64) (.own (.int .i64))))) (.own (.int .i64))))))), .v (.int .i64) false] [] (fun d => Zeh N d.1 d.2.1)
noncomputable def Zp0 : Fn := ⟨Tryz.f122, noAnn, Zgv, fun N => [(134, Zhe N)]⟩
theorem Zp1 : Callable Tryz.prog 122 := callable_of Tryz.func122 (show chkFn Tryz.f122 = true by kernel_rfl)
theorem Zp2 (N : Nat) : Good Tryz.prog 122 (Zgv N) := GF Zp0 N Tryz.func122 (ctx_cons (Zqm N) Zqk ctx_nil) (by kernel_rfl) (fun d => by kernel_rfl)
noncomputable def Zfh (N : Nat) : Sig := Sig.of [.box (.prod (.own (.int .i64)) (.prod (.own (.int .i64)) (.prod (.own (.prod (.int .i64) (.int .i64))) (.prod (.int .i64) (.prod (.own (.prod (.int .i64) (.prod (.int .i64) (.own (.int .i64))))) (.own (.int .i64))))))), .v (.slice (.prod (.int .i64) (.prod (.int .i64) (.prod (.int .i64) (.int .i64))))) false] [.v (.int .i64) false] (fun d => Zep N d.1 d.2.1)
noncomputable def Zl5 : Fn := ⟨Tryz.f96, fun | 5 => [.opn 22] | _ => [], Zfh, fun N => [(122, Zgv N)]⟩
theorem Zl6 : Callable Tryz.prog 96 := callable_of Tryz.func96 (show chkFn Tryz.f96 = true by kernel_rfl)
theorem Zl7 (N : Nat) : Good Tryz.prog 96 (Zfh N) := GF Zl5 N Tryz.func96 (ctx_cons (Zp2 N) Zp1 ctx_nil) (by kernel_rfl) (fun d => by kernel_rfl)
noncomputable def Zgw (N : Nat) : Sig := Sig.of [.box (.prod (.own (.int .i64)) (.prod (.own (.int .i64)) (.prod (.own (.prod (.int .i64) (.int .i64))) (.prod (.int .i64) (.prod (.own (.prod (.int .i64) (.prod (.int .i64) (.own (.int .i64))))) (.own (.int .i64))))))), .v (.slice (.prod (.int .i64) (.prod (.int .i64) (.prod (.int .i64) (.int .i64))))) false] [.v (.int .i64) false] (fun d => Za9 N d.1 d.2.1)
noncomputable def Zew : Fn := ⟨Tryz.f67, fun | 2 => [.canon [0, 1, 5, 12]] | 3 => [.canon [0, 1, 5]] | 4 => [.canon [0, 1, 5, 6]] | 5 => [.canon [0, 1, 5, 6, 20]] | 6 => [.canon [0, 1, 5]] | 7 => [.canon [0, 1, 5, 6, 20, 33]] | 8 => [.canon [0, 1, 5, 6, 41]] | 9 => [.canon [0, 1, 5, 6]] | 10 => [.canon [0, 1, 5]] | 11 => [.canon [0, 1, 5, 6, 20, 68]] | 12 => [.canon [0, 1, 5, 6]] | 13 => [.canon [0, 1, 5]] | 14 => [.canon [0, 1, 5, 6, 20, 105]] | 15 => [.canon [0, 1, 5, 6, 115]] | 16 => [.canon [0, 1, 5]] | 17 => [.canon [0, 1, 5, 6, 20, 120]] | 18 => [.nest 139 (.prod (.int .i64) (.prod (.int .i64) (.own (.int .i64)))), .canon [0, 1, 5]] | 19 => [.canon [0, 1, 5, 6, 20, 143]] | 20 => [.canon [0, 1, 5, 7]] | 21 => [.canon [0, 1, 5, 7]] | 22 => [.canon [0, 1, 5]] | 23 => [.canon [0, 1, 5, 6, 182]] | 24 => [.canon [0, 1, 8]] | 25 => [.canon [0, 1, 8, 188]] | 26 => [.canon [0, 4]] | 27 => [.canon [0, 1, 5]] | 100002 => [.canon [0, 1, 5]] | _ => [], Zgw, fun N => [(94, Z5 N), (37, Zak N), (96, Zfh N), (91, Zg4 N), (90, Zhn N)]⟩
def Zk3 (code3 : List (Int × Int × Int × Int)) (i4 : Int) (b5 : Int) (l6 : List Int) (l7 : List Int) (l8 : List (Int × Int)) (l9 : List (Int × Int × List Int)) (l10 : List Int) : St := ⟨[(0, vP 0 0), (1, vV (.slice (.prod (.int .i64) (.prod (.int .i64) (.prod (.int .i64) (.int .i64))))) code3), (5, vI i4)], [(0, .box [.own 1, .own 2, .own 3, .val (.int .i64) b5, .own 4, .own 5]), (1, .arr (.int .i64) l6), (2, .arr (.int .i64) l7), (3, .arr (.prod (.int .i64) (.int .i64)) l8), (4, .arr (.prod (.int .i64) (.prod (.int .i64) (.own (.int .i64)))) l9), (5, .arr (.int .i64) l10)], 6⟩
def Zj9 (code3 : List (Int × Int × Int × Int)) (b16 : Int) (l17 : List Int) (l18 : List Int) (l19 : List (Int × Int)) (l20 : List (Int × Int × List Int)) (l21 : List Int) : St := ⟨[(0, vP 0 0), (4, vI 2)], [(0, .box [.own 1, .own 2, .own 3, .val (.int .i64) b16, .own 4, .own 5]), (1, .arr (.int .i64) l17), (2, .arr (.int .i64) l18), (3, .arr (.prod (.int .i64) (.int .i64)) l19), (4, .arr (.prod (.int .i64) (.prod (.int .i64) (.own (.int .i64)))) l20), (5, .arr (.int .i64) l21)], 6⟩
def Zka (code3 : List (Int × Int × Int × Int)) (i22 : Int) (t23 : Bool) (b24 : Int) (l25 : List Int) (l26 : List Int) (l27 : List (Int × Int)) (l28 : List (Int × Int × List Int)) (l29 : List Int) : St := ⟨[(0, vP 0 0), (1, vV (.slice (.prod (.int .i64) (.prod (.int .i64) (.prod (.int .i64) (.int .i64))))) code3), (5, vI i22), (12, vB t23)], [(0, .box [.own 1, .own 2, .own 3, .val (.int .i64) b24, .own 4, .own 5]), (1, .arr (.int .i64) l25), (2, .arr (.int .i64) l26), (3, .arr (.prod (.int .i64) (.int .i64)) l27), (4, .arr (.prod (.int .i64) (.prod (.int .i64) (.own (.int .i64)))) l28), (5, .arr (.int .i64) l29)], 6⟩
theorem Zk4 (N : Nat) {R : Type} (K : Ex → St → Option R) {code3 : List (Int × Int × Int × Int)} {K0 : Int → (List Int) → (List Int) → (List (Int × Int)) → (List (Int × Int × List Int)) → (List Int) → Option R} {K1 : Int → Bool → Int → (List Int) → (List Int) → (List (Int × Int)) → (List (Int × Int × List Int)) → (List Int) → Option R} (h0 : K0 = fun b16 l17 l18 l19 l20 l21 => K .ret (Zj9 code3 b16 l17 l18 l19 l20 l21)) (h1 : K1 = fun i22 t23 b24 l25 l26 l27 l28 l29 => K (.exit 0) (Zka code3 i22 t23 b24 l25 l26 l27 l28 l29)) (n : Nat) (i4 : Int) (b5 : Int) (l6 : List Int) (l7 : List Int) (l8 : List (Int × Int)) (l9 : List (Int × Int × List Int)) (l10 : List Int) : Zs N code3 K0 K1 n i4 b5 l6 l7 l8 l9 l10 = LM Zew N 0 100002 n (Zk3 code3 i4 b5 l6 l7 l8 l9 l10) K := by
  subst h0 h1
  induction n generalizing i4 b5 l6 l7 l8 l9 l10 with
  | zero => kernel_rfl
  | succ n ih => rw [Zs]; simp (disch := exact id (by kernel_rfl)) only [ih]; kernel_rfl
theorem Zp3 : Callable Tryz.prog 67 := callable_of Tryz.func67 (show chkFn Tryz.f67 = true by kernel_rfl)
theorem Zp4 (N : Nat) (e1 : List Int × List Int × List (Int × Int) × Int × List (Int × Int × List Int) × List Int) (code2 : List (Int × Int × Int × Int)) : DN Zew N (e1, code2, ()) = Za9 N e1 code2 := by
  have h : Za9 N e1 code2 = Za9 N e1 code2 := rfl
  conv at h => rhs; rw [Za9]
  simp (disch := exact id (by kernel_rfl)) only [Zk4 (R := ((List Int × List Int × List (Int × Int) × Int × List (Int × Int × List Int) × List Int) × Unit) × (Int × Unit)) N (CF Zew N [1, 0, 1, 0])] at h
  exact Eq.trans (by kernel_rfl) h.symm
theorem Zp5 (N : Nat) : Good Tryz.prog 67 (Zgw N) := GF Zew N Tryz.func67 (ctx_cons (Zcy N) Zcx (ctx_cons (Za0 N) Zaz (ctx_cons (Zl7 N) Zl6 (ctx_cons (Zlb N) Zla (ctx_cons (Zne N) Znd ctx_nil))))) (by kernel_rfl) (fun d => Zp4 N d.1 d.2.1)
noncomputable def Zd6 (N : Nat) : Sig := Sig.of [.mut (.int .i64)] [] (fun d => Zap N d.1)
theorem Zfp : Callable Tryz.prog 36 := callable_of Tryz.func36 (show chkFn Tryz.f36 = true by kernel_rfl)
theorem Zfq (N : Nat) : Good Tryz.prog 36 (Zd6 N) := good_sortL sortL N
noncomputable def Zbn (N : Nat) : Sig := Sig.of [.v (.own (.int .i64)) false] [.v (.own (.int .i64)) false] (fun d => Zu N d.1)
noncomputable def Zal : Fn := ⟨Tryz.f38, fun | 4 => [.canon [0, 3, 13]] | 5 => [.canon [0, 3]] | 6 => [.canon [0, 3, 25]] | 7 => [.view 28, .canon [0, 3, 4]] | 8 => [.canon [0, 3, 4, 5]] | 9 => [.canon [0, 3, 4, 5, 32]] | 10 => [.canon [0, 3, 4, 5]] | 11 => [.canon [0, 3, 4, 5, 44]] | 12 => [.canon [0, 3, 4, 5]] | 13 => [.canon [0, 3, 4, 5]] | 14 => [.view 56, .canon [0, 3]] | 15 => [.canon [2]] | 100004 => [.canon [0, 3]] | 100009 => [.canon [0, 3, 4, 5]] | _ => [], Zbn, noCtx⟩
def Zhj (k4 : Int) (s5 : Nat) (s6 : Nat) (k7 : Int) (l8 : List Int) : St := ⟨[(0, vO 0), (3, vI k4), (4, .s (.one (.vw 0 s5 s6))), (5, vI k7)], [(0, .arr (.int .i64) l8)], 1⟩
def Zhf (s5 : Nat) (s6 : Nat) (k9 : Int) (k10 : Int) (t11 : Bool) (l12 : List Int) : St := ⟨[(0, vO 0), (3, vI k9), (4, .s (.one (.vw 0 s5 s6))), (5, vI k10), (32, vB t11)], [(0, .arr (.int .i64) l12)], 1⟩
theorem Zhk (N : Nat) {R : Type} (K : Ex → St → Option R) {s5 : Nat} {s6 : Nat} {K0 : Int → Int → Bool → (List Int) → Option R} (h0 : K0 = fun k9 k10 t11 l12 => K (.exit 2) (Zhf s5 s6 k9 k10 t11 l12)) (n : Nat) (k4 : Int) (k7 : Int) (l8 : List Int) : Z4 N s5 s6 K0 n k4 k7 l8 = LM Zal N 1 100009 n (Zhj k4 s5 s6 k7 l8) K := by
  subst h0
  induction n generalizing k4 k7 l8 with
  | zero => kernel_rfl
  | succ n ih => rw [Z4]; simp (disch := exact id (by kernel_rfl)) only [ih]; kernel_rfl
def Zhl (k2 : Int) (l3 : List Int) : St := ⟨[(0, vO 0), (3, vI k2)], [(0, .arr (.int .i64) l3)], 1⟩
def Zhg (l3 : List Int) (l17 : List Int) : St := ⟨[(2, vO 0)], [(0, .arr (.int .i64) l17)], 1⟩
def Zhh (l3 : List Int) (k18 : Int) (t19 : Bool) : St := ⟨[(0, vO 0), (3, vI k18), (13, vB t19)], [(0, .arr (.int .i64) l3)], 1⟩
theorem Zhm (N : Nat) {R : Type} (K : Ex → St → Option R) {l3 : List Int} {K0 : (List Int) → Option R} {K1 : Int → Bool → Option R} (h0 : K0 = fun l17 => K .ret (Zhg l3 l17)) (h1 : K1 = fun k18 t19 => K (.exit 0) (Zhh l3 k18 t19)) (n : Nat) (k2 : Int) : Zae N l3 K0 K1 n k2 = LM Zal N 0 100004 n (Zhl k2 l3) K := by
  subst h0 h1
  induction n generalizing k2 with
  | zero => kernel_rfl
  | succ n ih => rw [Zae]; simp (disch := exact id (by kernel_rfl)) only [ih, Zhk N (CL Zal N 0 100004 [1, 0, 0, 1, 0, 1, 0, 1, 0] n K)]; kernel_rfl
theorem Zex : Callable Tryz.prog 38 := callable_of Tryz.func38 (show chkFn Tryz.f38 = true by kernel_rfl)
theorem Zir (N : Nat) (s1 : List Int) : DN Zal N (s1, ()) = Zu N s1 := by
  have h : Zu N s1 = Zu N s1 := rfl
  conv at h => rhs; rw [Zu]
  simp (disch := exact id (by kernel_rfl)) only [Zhm (R := Unit × ((List Int) × Unit)) N (CF Zal N [1, 1, 0, 1, 0])] at h
  exact Eq.trans (by kernel_rfl) h.symm
theorem Zey (N : Nat) : Good Tryz.prog 38 (Zbn N) := GF Zal N Tryz.func38 ctx_nil (by kernel_rfl) (fun d => Zir N d.1)
noncomputable def Zh2 (N : Nat) : Sig := Sig.of [.v (.slice (.prod (.int .i64) (.prod (.int .i64) (.prod (.int .i64) (.int .i64))))) false, .v (.slice (.int .i64)) false, .v (.slice (.int .i64)) false] [.v (.own (.int .i64)) false] (fun d => Zgz N d.1 d.2.1 d.2.2.1)
noncomputable def Zrc : Fn := ⟨Tryz.f35, noAnn, Zh2, fun N => [(66, Zi2 N), (67, Zgw N), (36, Zd6 N), (38, Zbn N)]⟩
theorem Zrd : Callable Tryz.prog 35 := callable_of Tryz.func35 (show chkFn Tryz.f35 = true by kernel_rfl)
theorem Zre (N : Nat) : Good Tryz.prog 35 (Zh2 N) := GF Zrc N Tryz.func35 (ctx_cons (Zto N) Ztn (ctx_cons (Zp5 N) Zp3 (ctx_cons (Zfq N) Zfp (ctx_cons (Zey N) Zex ctx_nil)))) (by kernel_rfl) (fun d => by kernel_rfl)
noncomputable def Zf8 (N : Nat) : Sig := Sig.of [.v (.slice (.slice (.prod (.int .i64) (.prod (.int .i64) (.prod (.int .i64) (.int .i64)))))) false, .v (.slice (.int .i64)) false, .v (.slice (.int .i64)) false] [.v (.prod (.int .i64) (.prod (.own (.int .i64)) (.prod (.own (.int .i64)) (.own (.int .i64))))) true] (fun d => Zat N d.1 d.2.1 d.2.2.1)
noncomputable def Zf9 : Fn := ⟨Tryz.f10, fun | 5 => [.canon [1, 2, 6, 7, 20, 21, 22, 23]] | 6 => [.canon [1, 2, 6, 7, 8, 9, 20, 21, 22]] | 7 => [.canon [1, 2, 6, 7, 8, 9, 10, 11, 12, 20, 21, 22]] | 8 => [.canon [1, 2, 6, 7, 8, 9, 11, 12, 20, 21, 22, 37]] | 9 => [.canon [6]] | 10 => [.canon [1, 2, 6, 7, 20, 21, 22]] | 11 => [.canon [1, 2, 6, 7, 20, 21, 22]] | 100005 => [.canon [1, 2, 6, 7, 20, 21, 22]] | _ => [], Zf8, fun N => [(33, Zf6 N), (34, Zgu N), (35, Zh2 N), (36, Zd6 N), (37, Zak N), (38, Zbn N)]⟩
def Zof (regs5 : List Int) (cells6 : List Int) (t7 : List (List (Int × Int × Int × Int))) (t9 : Int) (l11 : List Int) : St := ⟨[(1, vV (.slice (.int .i64)) regs5), (2, vV (.slice (.int .i64)) cells6), (6, vP 0 0), (7, vO 1), (20, vV (.slice (.slice (.prod (.int .i64) (.prod (.int .i64) (.prod (.int .i64) (.int .i64)))))) t7), (21, vI (ilen t7)), (22, vI t9)], [(0, .box [.val (.int .i64) (0 : Int), .nils, .nils, .nils]), (1, .arr (.int .i64) l11)], 2⟩
def Zl8 (regs5 : List Int) (cells6 : List Int) (t7 : List (List (Int × Int × Int × Int))) (b16 : Int) (l17 : List Int) (l18 : List Int) : St := ⟨[(6, vP 0 0)], [(0, .box [.val (.int .i64) b16, .own 1, .own 2, .nils]), (1, .arr (.int .i64) l17), (2, .arr (.int .i64) l18)], 3⟩
def Zl9 (regs5 : List Int) (cells6 : List Int) (t7 : List (List (Int × Int × Int × Int))) (t19 : Int) (t20 : Bool) (l21 : List Int) : St := ⟨[(1, vV (.slice (.int .i64)) regs5), (2, vV (.slice (.int .i64)) cells6), (6, vP 0 0), (7, vO 1), (20, vV (.slice (.slice (.prod (.int .i64) (.prod (.int .i64) (.prod (.int .i64) (.int .i64)))))) t7), (21, vI (ilen t7)), (22, vI t19), (23, vB t20)], [(0, .box [.val (.int .i64) (0 : Int), .nils, .nils, .nils]), (1, .arr (.int .i64) l21)], 2⟩
theorem Zog (N : Nat) {R : Type} (K : Ex → St → Option R) {regs5 : List Int} {cells6 : List Int} {t7 : List (List (Int × Int × Int × Int))} {K0 : Int → (List Int) → (List Int) → Option R} {K1 : Int → Bool → (List Int) → Option R} (h0 : K0 = fun b16 l17 l18 => K .ret (Zl8 regs5 cells6 t7 b16 l17 l18)) (h1 : K1 = fun t19 t20 l21 => K (.exit 0) (Zl9 regs5 cells6 t7 t19 t20 l21)) (n : Nat) (t9 : Int) (l11 : List Int) : Zb6 N regs5 cells6 t7 K0 K1 n t9 l11 = LM Zf9 N 0 100005 n (Zof regs5 cells6 t7 t9 l11) K := by
  subst h0 h1
  induction n generalizing t9 l11 with
  | zero => kernel_rfl
  | succ n ih => rw [Zb6]; simp (disch := exact id (by kernel_rfl)) only [ih]; kernel_rfl
theorem Zkm : Callable Tryz.prog 10 := callable_of Tryz.func10 (show chkFn Tryz.f10 = true by kernel_rfl)
theorem Zsc (N : Nat) (l1 : List (List (Int × Int × Int × Int))) (regs2 : List Int) (cells3 : List Int) : DN Zf9 N (l1, regs2, cells3, ()) = Zat N l1 regs2 cells3 := by
  have h : Zat N l1 regs2 cells3 = Zat N l1 regs2 cells3 := rfl
  conv at h => rhs; rw [Zat]
  simp (disch := exact id (by kernel_rfl)) only [Zog (R := Unit × ((Int × List Int × List Int × List Int) × Unit)) N (CF Zf9 N [1, 1, 1, 0, 1, 0])] at h
  exact Eq.trans (by kernel_rfl) h.symm
theorem Zkn (N : Nat) : Good Tryz.prog 10 (Zf8 N) := GF Zf9 N Tryz.func10 (ctx_cons (Zkj N) Zki (ctx_cons (Zpz N) Zpy (ctx_cons (Zre N) Zrd (ctx_cons (Zfq N) Zfp (ctx_cons (Za0 N) Zaz (ctx_cons (Zey N) Zex ctx_nil)))))) (by kernel_rfl) (fun d => Zsc N d.1 d.2.1 d.2.2.1)
noncomputable def Zik (N : Nat) : Sig := Sig.of [.v (.slice (.slice (.prod (.int .i64) (.prod (.int .i64) (.prod (.int .i64) (.int .i64)))))) false, .v (.slice (.int .i64)) false, .v (.slice (.int .i64)) false, .v (.slice (.prod (.int .i64) (.int .i64))) false] [.v (.int .i64) false] (fun d => Zdh N d.1 d.2.1 d.2.2.1 d.2.2.2.1)
noncomputable def Zga : Fn := ⟨Tryz.f21, fun | 4 => [.canon [0, 1, 2, 3, 9, 23]] | 5 => [.canon [0, 1, 2, 3, 9]] | 6 => [.canon [0, 1, 2, 3, 9, 35]] | 7 => [.canon [8]] | 100004 => [.canon [0, 1, 2, 3, 9]] | _ => [], Zik, fun N => [(33, Zf6 N), (44, Zeu N), (45, Zhz N), (10, Zf8 N)]⟩
def Zoh (l7 : List (List (Int × Int × Int × Int))) (regs8 : List Int) (cells9 : List Int) (rows10 : List (Int × Int)) (n11 : Int) : St := ⟨[(0, vV (.slice (.slice (.prod (.int .i64) (.prod (.int .i64) (.prod (.int .i64) (.int .i64)))))) l7), (1, vV (.slice (.int .i64)) regs8), (2, vV (.slice (.int .i64)) cells9), (3, vV (.slice (.prod (.int .i64) (.int .i64))) rows10), (9, vI n11)], [], 0⟩
def Zma (l7 : List (List (Int × Int × Int × Int))) (regs8 : List Int) (cells9 : List Int) (rows10 : List (Int × Int)) (t14 : Int) : St := ⟨[(8, vI t14)], [], 0⟩
def Zmb (l7 : List (List (Int × Int × Int × Int))) (regs8 : List Int) (cells9 : List Int) (rows10 : List (Int × Int)) (n15 : Int) (t16 : Bool) : St := ⟨[(0, vV (.slice (.slice (.prod (.int .i64) (.prod (.int .i64) (.prod (.int .i64) (.int .i64)))))) l7), (1, vV (.slice (.int .i64)) regs8), (2, vV (.slice (.int .i64)) cells9), (3, vV (.slice (.prod (.int .i64) (.int .i64))) rows10), (9, vI n15), (23, vB t16)], [], 0⟩
theorem Zoi (N : Nat) {R : Type} (K : Ex → St → Option R) {l7 : List (List (Int × Int × Int × Int))} {regs8 : List Int} {cells9 : List Int} {rows10 : List (Int × Int)} {K0 : Int → Option R} {K1 : Int → Bool → Option R} (h0 : K0 = fun t14 => K .ret (Zma l7 regs8 cells9 rows10 t14)) (h1 : K1 = fun n15 t16 => K (.exit 0) (Zmb l7 regs8 cells9 rows10 n15 t16)) (n : Nat) (n11 : Int) : Zb8 N l7 regs8 cells9 rows10 K0 K1 n n11 = LM Zga N 0 100004 n (Zoh l7 regs8 cells9 rows10 n11) K := by
  subst h0 h1
  induction n generalizing n11 with
  | zero => kernel_rfl
  | succ n ih => rw [Zb8]; simp (disch := exact id (by kernel_rfl)) only [ih]; kernel_rfl
theorem Zsd : Callable Tryz.prog 21 := callable_of Tryz.func21 (show chkFn Tryz.f21 = true by kernel_rfl)
theorem Zse (N : Nat) (l1 : List (List (Int × Int × Int × Int))) (regs2 : List Int) (cells3 : List Int) (rows4 : List (Int × Int)) : DN Zga N (l1, regs2, cells3, rows4, ()) = Zdh N l1 regs2 cells3 rows4 := by
  have h : Zdh N l1 regs2 cells3 rows4 = Zdh N l1 regs2 cells3 rows4 := rfl
  conv at h => rhs; rw [Zdh]
  simp (disch := exact id (by kernel_rfl)) only [Zoi (R := Unit × (Int × Unit)) N (CF Zga N [1, 1, 0, 1, 0])] at h
  exact Eq.trans (by kernel_rfl) h.symm
theorem Zsf (N : Nat) : Good Tryz.prog 21 (Zik N) := GF Zga N Tryz.func21 (ctx_cons (Zkj N) Zki (ctx_cons (Zig N) Zif (ctx_cons (Zrb N) Zq9 (ctx_cons (Zkn N) Zkm ctx_nil)))) (by kernel_rfl) (fun d => Zse N d.1 d.2.1 d.2.2.1 d.2.2.2.1)
noncomputable def Zen (N : Nat) : Sig := Sig.of [.v (.int .i64) false, .v (.int .i64) false, .v (.int .i64) false] [.v (.bool) false] (fun d => Ze N d.1 d.2.1 d.2.2.1)
noncomputable def Ztx : Fn := ⟨Tryz.f109, noAnn, Zen, noCtx⟩
theorem Zho : Callable Tryz.prog 109 := callable_of Tryz.func109 (show chkFn Tryz.f109 = true by kernel_rfl)
theorem Zhp (N : Nat) : Good Tryz.prog 109 (Zen N) := GF Ztx N Tryz.func109 ctx_nil (by kernel_rfl) (fun d => by kernel_rfl)
noncomputable def Zee (N : Nat) : Sig := Sig.of [.v (.int .i64) false] [.v (.bool) false] (fun d => Zdt N d.1)
noncomputable def Ztp : Fn := ⟨Tryz.f72, noAnn, Zee, fun N => [(109, Zen N)]⟩
theorem Zg6 : Callable Tryz.prog 72 := callable_of Tryz.func72 (show chkFn Tryz.f72 = true by kernel_rfl)
theorem Zg7 (N : Nat) : Good Tryz.prog 72 (Zee N) := GF Ztp N Tryz.func72 (ctx_cons (Zhp N) Zho ctx_nil) (by kernel_rfl) (fun d => by kernel_rfl)
noncomputable def Zd2 (N : Nat) : Sig := Sig.of [.v (.slice (.int .i64)) false] [.v (.bool) false] (fun d => Za4 N d.1)
noncomputable def Zgb : Fn := ⟨Tryz.f54, fun | 4 => [.canon [0, 3, 10]] | 5 => [.canon [0, 3]] | 6 => [.canon [0, 3, 18]] | 7 => [.canon [2]] | 100004 => [.canon [0, 3]] | _ => [], Zd2, fun N => [(72, Zee N)]⟩
def Zoj (l2 : List Int) (i3 : Int) : St := ⟨[(0, vV (.slice (.int .i64)) l2), (3, vI i3)], [], 0⟩
def Zmc (l2 : List Int) : St := ⟨[(2, vB false)], [], 0⟩
def Zmd (l2 : List Int) (i5 : Int) (t6 : Bool) : St := ⟨[(0, vV (.slice (.int .i64)) l2), (3, vI i5), (10, vB t6)], [], 0⟩
theorem Zok (N : Nat) {R : Type} (K : Ex → St → Option R) {l2 : List Int} {K0 : Option R} {K1 : Int → Bool → Option R} (h0 : K0 = K .ret (Zmc l2)) (h1 : K1 = fun i5 t6 => K (.exit 0) (Zmd l2 i5 t6)) (n : Nat) (i3 : Int) : Zb0 N l2 K0 K1 n i3 = LM Zgb N 0 100004 n (Zoj l2 i3) K := by
  subst h0 h1
  induction n generalizing i3 with
  | zero => kernel_rfl
  | succ n ih => rw [Zb0]; simp (disch := exact id (by kernel_rfl)) only [ih]; kernel_rfl
theorem Zgc : Callable Tryz.prog 54 := callable_of Tryz.func54 (show chkFn Tryz.f54 = true by kernel_rfl)
theorem Zsg (N : Nat) (l1 : List Int) : DN Zgb N (l1, ()) = Za4 N l1 := by
  have h : Za4 N l1 = Za4 N l1 := rfl
  conv at h => rhs; rw [Za4]
  simp (disch := exact id (by kernel_rfl)) only [Zok (R := Unit × (Bool × Unit)) N (CF Zgb N [1, 1, 0, 1, 0])] at h
  exact Eq.trans (by kernel_rfl) h.symm
theorem Zgd (N : Nat) : Good Tryz.prog 54 (Zd2 N) := GF Zgb N Tryz.func54 (ctx_cons (Zg7 N) Zg6 ctx_nil) (by kernel_rfl) (fun d => Zsg N d.1)
noncomputable def Zd3 (N : Nat) : Sig := Sig.of [.v (.slice (.int .i64)) false] [.v (.bool) false] (fun d => Zas N d.1)
noncomputable def Zge : Fn := ⟨Tryz.f52, fun | 4 => [.canon [0, 3, 10]] | 5 => [.canon [0, 3]] | 6 => [.canon [0, 3, 18]] | 7 => [.canon [2]] | 100004 => [.canon [0, 3]] | _ => [], Zd3, fun N => [(72, Zee N)]⟩
def Zol (l2 : List Int) (i3 : Int) : St := ⟨[(0, vV (.slice (.int .i64)) l2), (3, vI i3)], [], 0⟩
def Zme (l2 : List Int) : St := ⟨[(2, vB false)], [], 0⟩
def Zmf (l2 : List Int) (i5 : Int) (t6 : Bool) : St := ⟨[(0, vV (.slice (.int .i64)) l2), (3, vI i5), (10, vB t6)], [], 0⟩
theorem Zom (N : Nat) {R : Type} (K : Ex → St → Option R) {l2 : List Int} {K0 : Option R} {K1 : Int → Bool → Option R} (h0 : K0 = K .ret (Zme l2)) (h1 : K1 = fun i5 t6 => K (.exit 0) (Zmf l2 i5 t6)) (n : Nat) (i3 : Int) : Zbx N l2 K0 K1 n i3 = LM Zge N 0 100004 n (Zol l2 i3) K := by
  subst h0 h1
  induction n generalizing i3 with
  | zero => kernel_rfl
  | succ n ih => rw [Zbx]; simp (disch := exact id (by kernel_rfl)) only [ih]; kernel_rfl
theorem Zgf : Callable Tryz.prog 52 := callable_of Tryz.func52 (show chkFn Tryz.f52 = true by kernel_rfl)
theorem Zsh (N : Nat) (l1 : List Int) : DN Zge N (l1, ()) = Zas N l1 := by
  have h : Zas N l1 = Zas N l1 := rfl
  conv at h => rhs; rw [Zas]
  simp (disch := exact id (by kernel_rfl)) only [Zom (R := Unit × (Bool × Unit)) N (CF Zge N [1, 1, 0, 1, 0])] at h
  exact Eq.trans (by kernel_rfl) h.symm
theorem Zgg (N : Nat) : Good Tryz.prog 52 (Zd3 N) := GF Zge N Tryz.func52 (ctx_cons (Zg7 N) Zg6 ctx_nil) (by kernel_rfl) (fun d => Zsh N d.1)
noncomputable def Zi3 (N : Nat) : Sig := Sig.of [.v (.int .i64) false] [.v (.bool) false] (fun d => Za N d.1)
noncomputable def Ztq : Fn := ⟨Tryz.f115, noAnn, Zi3, fun N => [(109, Zen N)]⟩
theorem Ztr : Callable Tryz.prog 115 := callable_of Tryz.func115 (show chkFn Tryz.f115 = true by kernel_rfl)
theorem Zts (N : Nat) : Good Tryz.prog 115 (Zi3 N) := GF Ztq N Tryz.func115 (ctx_cons (Zhp N) Zho ctx_nil) (by kernel_rfl) (fun d => by kernel_rfl)
noncomputable def Zgh (N : Nat) : Sig := Sig.of [.v (.int .i64) false] [.v (.bool) false] (fun d => Za2 N d.1)
noncomputable def Zsi : Fn := ⟨Tryz.f71, noAnn, Zgh, fun N => [(109, Zen N)]⟩
theorem Zko : Callable Tryz.prog 71 := callable_of Tryz.func71 (show chkFn Tryz.f71 = true by kernel_rfl)
theorem Zkp (N : Nat) : Good Tryz.prog 71 (Zgh N) := GF Zsi N Tryz.func71 (ctx_cons (Zhp N) Zho ctx_nil) (by kernel_rfl) (fun d => by kernel_rfl)
noncomputable def Zfr (N : Nat) : Sig := Sig.of [.v (.prod (.int .i64) (.prod (.int .i64) (.prod (.int .i64) (.int .i64)))) true] [.v (.bool) false] (fun d => Zp N d.1)
noncomputable def Zty : Fn := ⟨Tryz.f84, noAnn, Zfr, fun N => [(115, Zi3 N), (72, Zee N), (71, Zgh N), (109, Zen N)]⟩
theorem Zjh : Callable Tryz.prog 84 := callable_of Tryz.func84 (show chkFn Tryz.f84 = true by kernel_rfl)
theorem Zji (N : Nat) : Good Tryz.prog 84 (Zfr N) := GF Zty N Tryz.func84 (ctx_cons (Zts N) Ztr (ctx_cons (Zg7 N) Zg6 (ctx_cons (Zkp N) Zko (ctx_cons (Zhp N) Zho ctx_nil)))) (by kernel_rfl) (fun d => by kernel_rfl)
noncomputable def Zil (N : Nat) : Sig := Sig.of [.v (.slice (.prod (.int .i64) (.prod (.int .i64) (.prod (.int .i64) (.int .i64))))) false, .v (.int .i64) false] [.v (.bool) false] (fun d => Zdd N d.1 d.2.1)
noncomputable def Zgi : Fn := ⟨Tryz.f114, fun | 6 => [.canon [0, 5, 6, 7, 24]] | 7 => [.canon [0, 5, 6, 7]] | 8 => [.canon [0, 5, 6, 7, 32]] | 9 => [.canon [0, 5, 6, 7]] | 10 => [.canon [0, 5, 6, 7, 40]] | 11 => [.canon [0, 5, 6, 7]] | 12 => [.canon [0, 5, 6, 7, 44]] | 13 => [.canon [4]] | 100006 => [.canon [0, 5, 6, 7]] | _ => [], Zil, noCtx⟩
def Zon (code3 : List (Int × Int × Int × Int)) (to4 : Int) (d5 : Int) (k6 : Int) : St := ⟨[(0, vV (.slice (.prod (.int .i64) (.prod (.int .i64) (.prod (.int .i64) (.int .i64))))) code3), (5, vI to4), (6, vI d5), (7, vI k6)], [], 0⟩
def Zmg (code3 : List (Int × Int × Int × Int)) (to4 : Int) : St := ⟨[(4, vB false)], [], 0⟩
def Zmh (code3 : List (Int × Int × Int × Int)) (to4 : Int) (d7 : Int) (k8 : Int) (t9 : Bool) : St := ⟨[(0, vV (.slice (.prod (.int .i64) (.prod (.int .i64) (.prod (.int .i64) (.int .i64))))) code3), (5, vI to4), (6, vI d7), (7, vI k8), (24, vB t9)], [], 0⟩
theorem Zoo (N : Nat) {R : Type} (K : Ex → St → Option R) {code3 : List (Int × Int × Int × Int)} {to4 : Int} {K0 : Option R} {K1 : Int → Int → Bool → Option R} (h0 : K0 = K .ret (Zmg code3 to4)) (h1 : K1 = fun d7 k8 t9 => K (.exit 0) (Zmh code3 to4 d7 k8 t9)) (n : Nat) (d5 : Int) (k6 : Int) : Zah N code3 to4 K0 K1 n d5 k6 = LM Zgi N 0 100006 n (Zon code3 to4 d5 k6) K := by
  subst h0 h1
  induction n generalizing d5 k6 with
  | zero => kernel_rfl
  | succ n ih => rw [Zah]; simp (disch := exact id (by kernel_rfl)) only [ih]; kernel_rfl
theorem Zsj : Callable Tryz.prog 114 := callable_of Tryz.func114 (show chkFn Tryz.f114 = true by kernel_rfl)
theorem Zsk (N : Nat) (code1 : List (Int × Int × Int × Int)) (i2 : Int) : DN Zgi N (code1, i2, ()) = Zdd N code1 i2 := by
  have h : Zdd N code1 i2 = Zdd N code1 i2 := rfl
  conv at h => rhs; rw [Zdd]
  simp (disch := exact id (by kernel_rfl)) only [Zoo (R := Unit × (Bool × Unit)) N (CF Zgi N [1, 1, 1, 1, 0, 1, 0])] at h
  exact Eq.trans (by kernel_rfl) h.symm
theorem Zsl (N : Nat) : Good Tryz.prog 114 (Zil N) := GF Zgi N Tryz.func114 ctx_nil (by kernel_rfl) (fun d => Zsk N d.1 d.2.1)
noncomputable def Zim (N : Nat) : Sig := Sig.of [.v (.slice (.prod (.int .i64) (.prod (.int .i64) (.prod (.int .i64) (.int .i64))))) false] [.v (.bool) false] (fun d => Zde N d.1)
noncomputable def Zgj : Fn := ⟨Tryz.f80, fun | 6 => [.canon [0, 3, 4, 5, 12]] | 7 => [.canon [0, 3, 4, 5]] | 8 => [.canon [0, 3, 4, 5, 20]] | 9 => [.canon [2]] | 10 => [.canon [0, 3, 4, 5, 25]] | 11 => [.canon [0, 3, 4, 5, 25, 26]] | 12 => [.canon [0, 3, 4, 5]] | 13 => [.canon [0, 3, 4, 5, 25, 30]] | 14 => [.canon [0, 3, 4, 5]] | 15 => [.canon [0, 3, 4, 5, 25, 34]] | 16 => [.canon [0, 3, 4, 5, 39]] | 17 => [.canon [2]] | 18 => [.canon [0, 3, 4, 5, 40]] | 19 => [.canon [0, 3, 4, 5]] | 20 => [.canon [0, 3, 4, 5, 49]] | 21 => [.canon [2]] | 22 => [.canon [0, 3, 4, 5, 51]] | 23 => [.canon [2]] | 100006 => [.canon [0, 3, 4, 5]] | _ => [], Zim, fun N => [(84, Zfr N), (114, Zil N)]⟩
def Zop (code2 : List (Int × Int × Int × Int)) (d3 : Int) (forks4 : Int) (i5 : Int) : St := ⟨[(0, vV (.slice (.prod (.int .i64) (.prod (.int .i64) (.prod (.int .i64) (.int .i64))))) code2), (3, vI d3), (4, vI forks4), (5, vI i5)], [], 0⟩
def Zmi (code2 : List (Int × Int × Int × Int)) : St := ⟨[(2, vB false)], [], 0⟩
def Zmj (code2 : List (Int × Int × Int × Int)) (d8 : Int) (forks9 : Int) (i10 : Int) (t11 : Bool) : St := ⟨[(0, vV (.slice (.prod (.int .i64) (.prod (.int .i64) (.prod (.int .i64) (.int .i64))))) code2), (3, vI d8), (4, vI forks9), (5, vI i10), (12, vB t11)], [], 0⟩
theorem Zoq (N : Nat) {R : Type} (K : Ex → St → Option R) {code2 : List (Int × Int × Int × Int)} {K0 : Option R} {K1 : Int → Int → Int → Bool → Option R} (h0 : K0 = K .ret (Zmi code2)) (h1 : K1 = fun d8 forks9 i10 t11 => K (.exit 0) (Zmj code2 d8 forks9 i10 t11)) (n : Nat) (d3 : Int) (forks4 : Int) (i5 : Int) : Zai N code2 K0 K1 n d3 forks4 i5 = LM Zgj N 0 100006 n (Zop code2 d3 forks4 i5) K := by
  subst h0 h1
  induction n generalizing d3 forks4 i5 with
  | zero => kernel_rfl
  | succ n ih => rw [Zai]; simp (disch := exact id (by kernel_rfl)) only [ih]; kernel_rfl
theorem Zsm : Callable Tryz.prog 80 := callable_of Tryz.func80 (show chkFn Tryz.f80 = true by kernel_rfl)
theorem Zsn (N : Nat) (code1 : List (Int × Int × Int × Int)) : DN Zgj N (code1, ()) = Zde N code1 := by
  have h : Zde N code1 = Zde N code1 := rfl
  conv at h => rhs; rw [Zde]
  simp (disch := exact id (by kernel_rfl)) only [Zoq (R := Unit × (Bool × Unit)) N (CF Zgj N [1, 1, 1, 1, 0, 1, 0])] at h
  exact Eq.trans (by kernel_rfl) h.symm
theorem Zso (N : Nat) : Good Tryz.prog 80 (Zim N) := GF Zgj N Tryz.func80 (ctx_cons (Zji N) Zjh (ctx_cons (Zsl N) Zsj ctx_nil)) (by kernel_rfl) (fun d => Zsn N d.1)
noncomputable def Zh3 (N : Nat) : Sig := Sig.of [.v (.slice (.prod (.int .i64) (.prod (.int .i64) (.prod (.int .i64) (.int .i64))))) false] [.v (.bool) false] (fun d => Zco N d.1)
noncomputable def Zfi : Fn := ⟨Tryz.f81, fun | 2 => [.canon [0, 3, 7]] | 3 => [.canon [0, 3]] | 4 => [.canon [0, 3, 15]] | 5 => [.canon [2]] | 100002 => [.canon [0, 3]] | _ => [], Zh3, noCtx⟩
def Zmk (code2 : List (Int × Int × Int × Int)) (i3 : Int) : St := ⟨[(0, vV (.slice (.prod (.int .i64) (.prod (.int .i64) (.prod (.int .i64) (.int .i64))))) code2), (3, vI i3)], [], 0⟩
def Zle (code2 : List (Int × Int × Int × Int)) : St := ⟨[(2, vB true)], [], 0⟩
def Zlf (code2 : List (Int × Int × Int × Int)) (i4 : Int) (t5 : Bool) : St := ⟨[(0, vV (.slice (.prod (.int .i64) (.prod (.int .i64) (.prod (.int .i64) (.int .i64))))) code2), (3, vI i4), (7, vB t5)], [], 0⟩
theorem Zml (N : Nat) {R : Type} (K : Ex → St → Option R) {code2 : List (Int × Int × Int × Int)} {K0 : Option R} {K1 : Int → Bool → Option R} (h0 : K0 = K .ret (Zle code2)) (h1 : K1 = fun i4 t5 => K (.exit 0) (Zlf code2 i4 t5)) (n : Nat) (i3 : Int) : Zbp N code2 K0 K1 n i3 = LM Zfi N 0 100002 n (Zmk code2 i3) K := by
  subst h0 h1
  induction n generalizing i3 with
  | zero => kernel_rfl
  | succ n ih => rw [Zbp]; simp (disch := exact id (by kernel_rfl)) only [ih]; kernel_rfl
theorem Zrf : Callable Tryz.prog 81 := callable_of Tryz.func81 (show chkFn Tryz.f81 = true by kernel_rfl)
theorem Zrg (N : Nat) (code1 : List (Int × Int × Int × Int)) : DN Zfi N (code1, ()) = Zco N code1 := by
  have h : Zco N code1 = Zco N code1 := rfl
  conv at h => rhs; rw [Zco]
  simp (disch := exact id (by kernel_rfl)) only [Zml (R := Unit × (Bool × Unit)) N (CF Zfi N [1, 0, 1, 0])] at h
  exact Eq.trans (by kernel_rfl) h.symm
theorem Zrh (N : Nat) : Good Tryz.prog 81 (Zh3 N) := GF Zfi N Tryz.func81 ctx_nil (by kernel_rfl) (fun d => Zrg N d.1)
noncomputable def Zh4 (N : Nat) : Sig := Sig.of [.v (.prod (.int .i64) (.prod (.int .i64) (.prod (.int .i64) (.int .i64)))) true] [.v (.int .i64) false] (fun d => Zbe N d.1)
noncomputable def Zri : Fn := ⟨Tryz.f82, noAnn, Zh4, fun N => [(84, Zfr N)]⟩
theorem Zrj : Callable Tryz.prog 82 := callable_of Tryz.func82 (show chkFn Tryz.f82 = true by kernel_rfl)
theorem Zrk (N : Nat) : Good Tryz.prog 82 (Zh4 N) := GF Zri N Tryz.func82 (ctx_cons (Zji N) Zjh ctx_nil) (by kernel_rfl) (fun d => by kernel_rfl)
noncomputable def Zfa (N : Nat) : Sig := Sig.of [.v (.slice (.prod (.int .i64) (.prod (.int .i64) (.prod (.int .i64) (.int .i64))))) false] [.v (.bool) false] (fun d => Zbq N d.1)
noncomputable def Zg8 : Fn := ⟨Tryz.f55, fun | 4 => [.canon [0, 3, 14]] | 5 => [.canon [0, 3]] | 6 => [.canon [0, 3, 22]] | 7 => [.canon [2]] | 100004 => [.canon [0, 3]] | _ => [], Zfa, fun N => [(80, Zim N), (81, Zh3 N), (82, Zh4 N)]⟩
def Zp6 (code4 : List (Int × Int × Int × Int)) (i5 : Int) : St := ⟨[(0, vV (.slice (.prod (.int .i64) (.prod (.int .i64) (.prod (.int .i64) (.int .i64))))) code4), (3, vI i5)], [], 0⟩
def Zor (code4 : List (Int × Int × Int × Int)) : St := ⟨[(2, vB false)], [], 0⟩
def Zos (code4 : List (Int × Int × Int × Int)) (i7 : Int) (t8 : Bool) : St := ⟨[(0, vV (.slice (.prod (.int .i64) (.prod (.int .i64) (.prod (.int .i64) (.int .i64))))) code4), (3, vI i7), (14, vB t8)], [], 0⟩
theorem Zp7 (N : Nat) {R : Type} (K : Ex → St → Option R) {code4 : List (Int × Int × Int × Int)} {K0 : Option R} {K1 : Int → Bool → Option R} (h0 : K0 = K .ret (Zor code4)) (h1 : K1 = fun i7 t8 => K (.exit 0) (Zos code4 i7 t8)) (n : Nat) (i5 : Int) : Zcj N code4 K0 K1 n i5 = LM Zg8 N 0 100004 n (Zp6 code4 i5) K := by
  subst h0 h1
  induction n generalizing i5 with
  | zero => kernel_rfl
  | succ n ih => rw [Zcj]; simp (disch := exact id (by kernel_rfl)) only [ih]; kernel_rfl
theorem Zi4 : Callable Tryz.prog 55 := callable_of Tryz.func55 (show chkFn Tryz.f55 = true by kernel_rfl)
theorem Ztt (N : Nat) (code1 : List (Int × Int × Int × Int)) : DN Zg8 N (code1, ()) = Zbq N code1 := by
  have h : Zbq N code1 = Zbq N code1 := rfl
  conv at h => rhs; rw [Zbq]
  simp (disch := exact id (by kernel_rfl)) only [Zp7 (R := Unit × (Bool × Unit)) N (CF Zg8 N [1, 1, 0, 1, 0])] at h
  exact Eq.trans (by kernel_rfl) h.symm
theorem Zi5 (N : Nat) : Good Tryz.prog 55 (Zfa N) := GF Zg8 N Tryz.func55 (ctx_cons (Zso N) Zsm (ctx_cons (Zrh N) Zrf (ctx_cons (Zrk N) Zrj ctx_nil))) (by kernel_rfl) (fun d => Ztt N d.1)
noncomputable def Zgk (N : Nat) : Sig := Sig.of [.v (.slice (.slice (.prod (.int .i64) (.prod (.int .i64) (.prod (.int .i64) (.int .i64)))))) false, .v (.slice (.int .i64)) false, .v (.slice (.int .i64)) false] [.v (.bool) false] (fun d => Zbv N d.1 d.2.1 d.2.2.1)
noncomputable def Zgl : Fn := ⟨Tryz.f28, fun | 4 => [.canon [0, 7, 24]] | 5 => [.canon [0, 7]] | 6 => [.canon [0, 7, 33]] | 7 => [.canon [6]] | 100004 => [.canon [0, 7]] | _ => [], Zgk, fun N => [(54, Zd2 N), (52, Zd3 N), (55, Zfa N)]⟩
def Zot (l6 : List (List (Int × Int × Int × Int))) (i7 : Int) : St := ⟨[(0, vV (.slice (.slice (.prod (.int .i64) (.prod (.int .i64) (.prod (.int .i64) (.int .i64)))))) l6), (7, vI i7)], [], 0⟩
def Zmm (l6 : List (List (Int × Int × Int × Int))) : St := ⟨[(6, vB false)], [], 0⟩
def Zmn (l6 : List (List (Int × Int × Int × Int))) (i9 : Int) (t10 : Bool) : St := ⟨[(0, vV (.slice (.slice (.prod (.int .i64) (.prod (.int .i64) (.prod (.int .i64) (.int .i64)))))) l6), (7, vI i9), (24, vB t10)], [], 0⟩
theorem Zou (N : Nat) {R : Type} (K : Ex → St → Option R) {l6 : List (List (Int × Int × Int × Int))} {K0 : Option R} {K1 : Int → Bool → Option R} (h0 : K0 = K .ret (Zmm l6)) (h1 : K1 = fun i9 t10 => K (.exit 0) (Zmn l6 i9 t10)) (n : Nat) (i7 : Int) : Zb1 N l6 K0 K1 n i7 = LM Zgl N 0 100004 n (Zot l6 i7) K := by
  subst h0 h1
  induction n generalizing i7 with
  | zero => kernel_rfl
  | succ n ih => rw [Zb1]; simp (disch := exact id (by kernel_rfl)) only [ih]; kernel_rfl
theorem Zkq : Callable Tryz.prog 28 := callable_of Tryz.func28 (show chkFn Tryz.f28 = true by kernel_rfl)
theorem Zsp (N : Nat) (l1 : List (List (Int × Int × Int × Int))) (regs2 : List Int) (cells3 : List Int) : DN Zgl N (l1, regs2, cells3, ()) = Zbv N l1 regs2 cells3 := by
  have h : Zbv N l1 regs2 cells3 = Zbv N l1 regs2 cells3 := rfl
  conv at h => rhs; rw [Zbv]
  simp (disch := exact id (by kernel_rfl)) only [Zou (R := Unit × (Bool × Unit)) N (CF Zgl N [1, 1, 0, 1, 0])] at h
  exact Eq.trans (by kernel_rfl) h.symm
theorem Zkr (N : Nat) : Good Tryz.prog 28 (Zgk N) := GF Zgl N Tryz.func28 (ctx_cons (Zgd N) Zgc (ctx_cons (Zgg N) Zgf (ctx_cons (Zi5 N) Zi4 ctx_nil))) (by kernel_rfl) (fun d => Zsp N d.1 d.2.1 d.2.2.1)
noncomputable def Zgm (N : Nat) : Sig := Sig.of [.v (.slice (.prod (.int .i64) (.int .i64))) false] [.v (.bool) false] (fun d => Zbb N d.1)
noncomputable def Zgn : Fn := ⟨Tryz.f42, fun | 4 => [.canon [0, 3, 10]] | 5 => [.canon [0, 3]] | 6 => [.canon [0, 3, 28]] | 7 => [.canon [2]] | 100004 => [.canon [0, 3]] | _ => [], Zgm, fun N => [(71, Zgh N), (72, Zee N)]⟩
def Zov (l2 : List (Int × Int)) (i3 : Int) : St := ⟨[(0, vV (.slice (.prod (.int .i64) (.int .i64))) l2), (3, vI i3)], [], 0⟩
def Zmo (l2 : List (Int × Int)) : St := ⟨[(2, vB false)], [], 0⟩
def Zmp (l2 : List (Int × Int)) (i6 : Int) (t7 : Bool) : St := ⟨[(0, vV (.slice (.prod (.int .i64) (.int .i64))) l2), (3, vI i6), (10, vB t7)], [], 0⟩
theorem Zow (N : Nat) {R : Type} (K : Ex → St → Option R) {l2 : List (Int × Int)} {K0 : Option R} {K1 : Int → Bool → Option R} (h0 : K0 = K .ret (Zmo l2)) (h1 : K1 = fun i6 t7 => K (.exit 0) (Zmp l2 i6 t7)) (n : Nat) (i3 : Int) : Zby N l2 K0 K1 n i3 = LM Zgn N 0 100004 n (Zov l2 i3) K := by
  subst h0 h1
  induction n generalizing i3 with
  | zero => kernel_rfl
  | succ n ih => rw [Zby]; simp (disch := exact id (by kernel_rfl)) only [ih]; kernel_rfl
theorem Zks : Callable Tryz.prog 42 := callable_of Tryz.func42 (show chkFn Tryz.f42 = true by kernel_rfl)
theorem Zsq (N : Nat) (l1 : List (Int × Int)) : DN Zgn N (l1, ()) = Zbb N l1 := by
  have h : Zbb N l1 = Zbb N l1 := rfl
  conv at h => rhs; rw [Zbb]
  simp (disch := exact id (by kernel_rfl)) only [Zow (R := Unit × (Bool × Unit)) N (CF Zgn N [1, 1, 0, 1, 0])] at h
  exact Eq.trans (by kernel_rfl) h.symm
theorem Zkt (N : Nat) : Good Tryz.prog 42 (Zgm N) := GF Zgn N Tryz.func42 (ctx_cons (Zkp N) Zko (ctx_cons (Zg7 N) Zg6 ctx_nil)) (by kernel_rfl) (fun d => Zsq N d.1)
noncomputable def Zfj (N : Nat) : Sig := Sig.of [.v (.slice (.int .i64)) false, .v (.slice (.prod (.int .i64) (.int .i64))) false] [.v (.own (.int .i64)) false] (fun d => Zbf N d.1 d.2.1)
noncomputable def Zfk : Fn := ⟨Tryz.f25, fun | 5 => [.canon [1, 5, 6, 22]] | 6 => [.canon [1, 5, 6]] | 7 => [.canon [1, 5, 6]] | 100005 => [.canon [1, 5, 6]] | _ => [], Zfj, fun N => [(52, Zd3 N), (42, Zgm N)]⟩
def Zmq (l5 : List (Int × Int)) (i6 : Int) (l7 : List Int) : St := ⟨[(1, vV (.slice (.prod (.int .i64) (.int .i64))) l5), (5, vO 0), (6, vI i6)], [(0, .arr (.int .i64) l7)], 1⟩
def Zlg (l5 : List (Int × Int)) (i8 : Int) (t9 : Bool) (l10 : List Int) : St := ⟨[(1, vV (.slice (.prod (.int .i64) (.int .i64))) l5), (5, vO 0), (6, vI i8), (22, vB t9)], [(0, .arr (.int .i64) l10)], 1⟩
theorem Zmr (N : Nat) {R : Type} (K : Ex → St → Option R) {l5 : List (Int × Int)} {K0 : Int → Bool → (List Int) → Option R} (h0 : K0 = fun i8 t9 l10 => K (.exit 0) (Zlg l5 i8 t9 l10)) (n : Nat) (i6 : Int) (l7 : List Int) : Zbs N l5 K0 n i6 l7 = LM Zfk N 0 100005 n (Zmq l5 i6 l7) K := by
  subst h0
  induction n generalizing i6 l7 with
  | zero => kernel_rfl
  | succ n ih => rw [Zbs]; simp (disch := exact id (by kernel_rfl)) only [ih]; kernel_rfl
theorem Zjv : Callable Tryz.prog 25 := callable_of Tryz.func25 (show chkFn Tryz.f25 = true by kernel_rfl)
theorem Zrl (N : Nat) (cells1 : List Int) (l2 : List (Int × Int)) : DN Zfk N (cells1, l2, ()) = Zbf N cells1 l2 := by
  have h : Zbf N cells1 l2 = Zbf N cells1 l2 := rfl
  conv at h => rhs; rw [Zbf]
  simp (disch := exact id (by kernel_rfl)) only [Zmr (R := Unit × ((List Int) × Unit)) N (CF Zfk N [1, 1, 1, 0, 1, 0])] at h
  exact Eq.trans (by kernel_rfl) h.symm
theorem Zjw (N : Nat) : Good Tryz.prog 25 (Zfj N) := GF Zfk N Tryz.func25 (ctx_cons (Zgg N) Zgf (ctx_cons (Zkt N) Zks ctx_nil)) (by kernel_rfl) (fun d => Zrl N d.1 d.2.1)
noncomputable def Zin (N : Nat) : Sig := Sig.of [.v (.prod (.slice (.int .i64)) (.prod (.slice (.int .i64)) (.int .i64))) true] [.v (.prod (.own (.int .i64)) (.prod (.own (.int .i64)) (.int .i64))) true] (fun d => Zd5 N d.1)
noncomputable def Zsr : Fn := ⟨Tryz.f83, noAnn, Zin, noCtx⟩
theorem Zss : Callable Tryz.prog 83 := callable_of Tryz.func83 (show chkFn Tryz.f83 = true by kernel_rfl)
theorem Zst (N : Nat) : Good Tryz.prog 83 (Zin N) := GF Zsr N Tryz.func83 ctx_nil (by kernel_rfl) (fun d => by kernel_rfl)
noncomputable def Zg9 (N : Nat) : Sig := Sig.of [.v (.slice (.prod (.int .i64) (.prod (.int .i64) (.prod (.int .i64) (.int .i64))))) false, .v (.int .i64) false] [.v (.int .i64) false] (fun d => Zbt N d.1 d.2.1)
noncomputable def Zha : Fn := ⟨Tryz.f58, fun | 5 => [.canon [0, 5, 6, 27]] | 6 => [.canon [0, 5, 6]] | 7 => [.canon [0, 5, 6, 35]] | 8 => [.canon [0, 5, 6]] | 9 => [.canon [0, 5, 6, 43]] | 10 => [.canon [0, 5, 6]] | 11 => [.canon [0, 5, 6, 47]] | 12 => [.canon [4]] | 100005 => [.canon [0, 5, 6]] | _ => [], Zg9, noCtx⟩
def Zp8 (code3 : List (Int × Int × Int × Int)) (d4 : Int) (k5 : Int) : St := ⟨[(0, vV (.slice (.prod (.int .i64) (.prod (.int .i64) (.prod (.int .i64) (.int .i64))))) code3), (5, vI d4), (6, vI k5)], [], 0⟩
def Zox (code3 : List (Int × Int × Int × Int)) (t6 : Int) : St := ⟨[(4, vI t6)], [], 0⟩
def Zoy (code3 : List (Int × Int × Int × Int)) (d7 : Int) (k8 : Int) (t9 : Bool) : St := ⟨[(0, vV (.slice (.prod (.int .i64) (.prod (.int .i64) (.prod (.int .i64) (.int .i64))))) code3), (5, vI d7), (6, vI k8), (27, vB t9)], [], 0⟩
theorem Zp9 (N : Nat) {R : Type} (K : Ex → St → Option R) {code3 : List (Int × Int × Int × Int)} {K0 : Int → Option R} {K1 : Int → Int → Bool → Option R} (h0 : K0 = fun t6 => K .ret (Zox code3 t6)) (h1 : K1 = fun d7 k8 t9 => K (.exit 0) (Zoy code3 d7 k8 t9)) (n : Nat) (d4 : Int) (k5 : Int) : Zao N code3 K0 K1 n d4 k5 = LM Zha N 0 100005 n (Zp8 code3 d4 k5) K := by
  subst h0 h1
  induction n generalizing d4 k5 with
  | zero => kernel_rfl
  | succ n ih => rw [Zao]; simp (disch := exact id (by kernel_rfl)) only [ih]; kernel_rfl
theorem Zlh : Callable Tryz.prog 58 := callable_of Tryz.func58 (show chkFn Tryz.f58 = true by kernel_rfl)
theorem Ztu (N : Nat) (code1 : List (Int × Int × Int × Int)) (i2 : Int) : DN Zha N (code1, i2, ()) = Zbt N code1 i2 := by
  have h : Zbt N code1 i2 = Zbt N code1 i2 := rfl
  conv at h => rhs; rw [Zbt]
  simp (disch := exact id (by kernel_rfl)) only [Zp9 (R := Unit × (Int × Unit)) N (CF Zha N [1, 1, 1, 0, 1, 0])] at h
  exact Eq.trans (by kernel_rfl) h.symm
theorem Zli (N : Nat) : Good Tryz.prog 58 (Zg9 N) := GF Zha N Tryz.func58 ctx_nil (by kernel_rfl) (fun d => Ztu N d.1 d.2.1)
noncomputable def Zhq (N : Nat) : Sig := Sig.of [.v (.prod (.int .i64) (.prod (.int .i64) (.prod (.int .i64) (.int .i64)))) true, .v (.slice (.int .i64)) false] [.v (.own (.int .i64)) false, .v (.bool) false] (fun d => Zfs N d.1 d.2.1)
noncomputable def Ztz : Fn := ⟨Tryz.f59, noAnn, Zhq, fun N => [(84, Zfr N), (54, Zd2 N)]⟩
theorem Znf : Callable Tryz.prog 59 := callable_of Tryz.func59 (show chkFn Tryz.f59 = true by kernel_rfl)
theorem Zng (N : Nat) : Good Tryz.prog 59 (Zhq N) := GF Ztz N Tryz.func59 (ctx_cons (Zji N) Zjh (ctx_cons (Zgd N) Zgc ctx_nil)) (by kernel_rfl) (fun d => by kernel_rfl)
noncomputable def Zfl (N m : Nat) : Sig := Sig.of [.v (.slice (.prod (.int .i64) (.prod (.int .i64) (.prod (.int .i64) (.int .i64))))) false, .v (.slice (.slice (.prod (.int .i64) (.prod (.int .i64) (.prod (.int .i64) (.int .i64)))))) false, .v (.slice (.int .i64)) false, .v (.slice (.int .i64)) false, .v (.prod (.slice (.int .i64)) (.prod (.slice (.int .i64)) (.int .i64))) true] [.v (.prod (.int .i64) (.prod (.own (.int .i64)) (.prod (.own (.int .i64)) (.prod (.own (.int .i64)) (.int .i64))))) true] (fun d => Zaf N m d.1 d.2.1 d.2.2.1 d.2.2.2.1 d.2.2.2.2.1)
noncomputable def Zku (N : Nat) : Sig := Zfl N N
noncomputable def Zcd (m : Nat) : Fn := ⟨Tryz.f56, fun | 6 => [.canon [0, 1, 2, 3, 9, 10, 11, 12, 13, 37]] | 7 => [.canon [0, 1, 2, 3, 9, 10, 11, 12, 13, 14]] | 8 => [.canon [0, 1, 2, 3, 9, 10, 11, 12, 13, 14, 15]] | 9 => [.canon [0, 1, 2, 3, 9, 10, 11, 12, 13, 14, 15, 45]] | 10 => [.canon [0, 1, 2, 9, 10, 11, 12, 15, 24]] | 11 => [.canon [0, 1, 2, 3, 9, 10, 11, 12, 15]] | 12 => [.canon [0, 1, 2, 3, 9, 10, 11, 12, 13, 14, 15, 45, 53]] | 13 => [.canon [0, 1, 2, 3, 9, 10, 11, 12, 15]] | 14 => [.canon [0, 1, 2, 3, 9, 10, 11, 12, 13, 14, 15, 45, 65]] | 15 => [.canon [0, 1, 2, 3, 9, 10, 11, 12, 15]] | 16 => [.canon [0, 1, 2, 3, 9, 10, 11, 12, 13, 14, 15, 45, 77]] | 17 => [.canon [0, 1, 2, 3, 9, 10, 11, 12, 14, 15, 84]] | 18 => [.canon [0, 1, 2, 3, 9, 10, 11, 12, 15]] | 19 => [.canon [0, 1, 2, 3, 9, 10, 11, 12, 13, 14, 15, 45, 89]] | 20 => [.canon [0, 1, 2, 3, 9, 10, 11, 12, 15]] | 21 => [.canon [0, 1, 2, 3, 9, 10, 11, 12, 14, 15, 45, 101]] | 22 => [.canon [0, 1, 2, 3, 9, 10, 11, 12, 15, 16]] | 23 => [.canon [0, 1, 2, 3, 9, 10, 11, 12, 15, 16]] | 24 => [.canon [0, 1, 2, 3, 9, 10, 11, 12, 15]] | 25 => [.canon [0, 1, 2, 3, 9, 10, 11, 12, 14, 15, 45, 122]] | 26 => [.canon [0, 1, 2, 3, 9, 10, 11, 12, 126]] | 27 => [.canon [10]] | 28 => [.canon [0, 1, 2, 9, 10, 11, 12, 17]] | 29 => [.canon [0, 1, 2, 9, 10, 11, 12, 17]] | 30 => [.canon [0, 1, 2, 3, 9, 10, 11, 12, 17]] | 31 => [.canon [0, 1, 2, 3, 9, 10, 11, 12, 17]] | 32 => [.canon [0, 1, 2, 3, 9, 10, 11, 12, 17]] | 33 => [.canon [0, 1, 2, 3, 9, 10, 11, 12, 15]] | 34 => [.canon [0, 1, 2, 3, 9, 10, 11, 12, 14, 15, 45, 161]] | 35 => [.canon [0, 1, 2, 3, 9, 10, 11, 12, 15, 18]] | 36 => [.canon [0, 1, 2, 3, 9, 10, 11, 12, 15, 18, 19]] | 37 => [.canon [0, 1, 2, 3, 9, 10, 11, 12, 15, 18, 19, 169]] | 38 => [.canon [0, 1, 2, 3, 9, 10, 11, 12, 15, 18, 19]] | 39 => [.canon [0, 1, 2, 3, 9, 10, 11, 12, 15, 18, 19, 20]] | 40 => [.canon [0, 1, 2, 3, 9, 10, 11, 12, 15, 18, 19, 20]] | 41 => [.canon [0, 1, 2, 3, 9, 10, 11, 12, 15, 18, 19, 20, 187]] | 42 => [.canon [0, 1, 2, 3, 9, 10, 11, 12, 15, 18, 19]] | 43 => [.canon [0, 1, 2, 3, 9, 10, 11, 12, 15, 18, 21]] | 44 => [.canon [0, 1, 2, 3, 9, 10, 11, 12, 15, 18, 21, 201]] | 45 => [.canon [0, 1, 2, 3, 9, 10, 11, 12, 15, 18, 21]] | 46 => [.canon [0, 1, 2, 3, 9, 10, 11, 12, 15, 18, 21]] | 47 => [.canon [0, 1, 2, 3, 9, 10, 11, 12, 14, 15, 45, 211]] | 48 => [.canon [0, 1, 2, 3, 9, 10, 11, 12, 14, 15, 22]] | 49 => [.canon [0, 1, 2, 3, 9, 10, 11, 12, 14, 15, 22]] | 50 => [.canon [0, 1, 2, 3, 9, 10, 11, 12, 15]] | 51 => [.canon [0, 1, 2, 3, 9, 10, 11, 12, 14, 15, 45, 236]] | 52 => [.canon [0, 1, 2, 3, 9, 10, 11, 12, 15]] | 53 => [.canon [0, 1, 2, 3, 9, 10, 11, 12, 14, 15, 45, 249]] | 54 => [.canon [0, 1, 2, 3, 9, 10, 11, 12, 14, 15, 23]] | 55 => [.canon [0, 1, 2, 3, 9, 10, 11, 12, 14, 15, 23]] | 56 => [.canon [0, 1, 2, 3, 9, 10, 11, 12, 15]] | 57 => [.canon [0, 1, 2, 3, 9, 10, 11, 12, 14, 15, 45, 268]] | 58 => [.canon [0, 1, 2, 3, 9, 10, 11, 12, 15]] | 59 => [.canon [0, 1, 2, 3, 9, 10, 11, 12, 14, 15, 280]] | 60 => [.canon [0, 1, 2, 3, 9, 10, 11, 12, 15]] | 61 => [.canon [0, 1, 2, 3, 9, 10, 11, 12, 13]] | 100006 => [.canon [0, 1, 2, 3, 9, 10, 11, 12, 13]] | 100037 => [.canon [0, 1, 2, 3, 9, 10, 11, 12, 15, 18, 19]] | 100044 => [.canon [0, 1, 2, 3, 9, 10, 11, 12, 15, 18, 21]] | _ => [], fun N => Zfl N (m + 1), fun N => [(83, Zin N), (58, Zg9 N), (56, Zfl N m), (59, Zhq N)]⟩
def Zoz (code25 : List (Int × Int × Int × Int)) (kids26 : List (List (Int × Int × Int × Int))) (order27 : List Int) (next28 : Int) (i29 : Int) (l30 : List Int) (b31 : Int) (b32 : Int) (b33 : Int) (b34 : Int) (l35 : List (Int × List Int × List Int × List Int × Int)) (l36 : List Int) (l37 : List Int) (l38 : List Int) (l39 : List Int) (l40 : List Int) : St := ⟨[(0, vV (.slice (.prod (.int .i64) (.prod (.int .i64) (.prod (.int .i64) (.int .i64))))) code25), (1, vV (.slice (.slice (.prod (.int .i64) (.prod (.int .i64) (.prod (.int .i64) (.int .i64)))))) kids26), (2, vV (.slice (.int .i64)) order27), (3, vO 0), (9, vP 1 0), (10, vP 2 0), (11, vP 3 0), (12, vO 4), (15, vI next28), (18, vO 5), (19, vI i29)], [(0, .arr (.int .i64) l30), (1, .box [.own 6, .own 7, .val (.int .i64) b31]), (2, .box [.val (.int .i64) b32, .nils, .nils, .nils, .val (.int .i64) b33]), (3, .box [.own 8, .own 9, .val (.int .i64) b34]), (4, .arr (.prod (.int .i64) (.prod (.slice (.int .i64)) (.prod (.slice (.int .i64)) (.prod (.slice (.int .i64)) (.int .i64))))) l35), (5, .arr (.int .i64) l36), (6, .arr (.int .i64) l37), (7, .arr (.int .i64) l38), (8, .arr (.int .i64) l39), (9, .arr (.int .i64) l40)], 10⟩
def Zms (code25 : List (Int × Int × Int × Int)) (kids26 : List (List (Int × Int × Int × Int))) (order27 : List Int) (next28 : Int) (l30 : List Int) (b32 : Int) (b33 : Int) (b34 : Int) (l35 : List (Int × List Int × List Int × List Int × Int)) (l39 : List Int) (l40 : List Int) (i43 : Int) (t44 : Bool) (b45 : Int) (l46 : List Int) (l47 : List Int) (l48 : List Int) : St := ⟨[(0, vV (.slice (.prod (.int .i64) (.prod (.int .i64) (.prod (.int .i64) (.int .i64))))) code25), (1, vV (.slice (.slice (.prod (.int .i64) (.prod (.int .i64) (.prod (.int .i64) (.int .i64)))))) kids26), (2, vV (.slice (.int .i64)) order27), (3, vO 0), (9, vP 1 0), (10, vP 2 0), (11, vP 3 0), (12, vO 4), (15, vI next28), (18, vO 5), (19, vI i43), (169, vB t44)], [(0, .arr (.int .i64) l30), (1, .box [.own 6, .own 7, .val (.int .i64) b45]), (2, .box [.val (.int .i64) b32, .nils, .nils, .nils, .val (.int .i64) b33]), (3, .box [.own 8, .own 9, .val (.int .i64) b34]), (4, .arr (.prod (.int .i64) (.prod (.slice (.int .i64)) (.prod (.slice (.int .i64)) (.prod (.slice (.int .i64)) (.int .i64))))) l35), (5, .arr (.int .i64) l46), (6, .arr (.int .i64) l47), (7, .arr (.int .i64) l48), (8, .arr (.int .i64) l39), (9, .arr (.int .i64) l40)], 10⟩
theorem Zo0 (N m : Nat) {R : Type} (K : Ex → St → Option R) {code25 : List (Int × Int × Int × Int)} {kids26 : List (List (Int × Int × Int × Int))} {order27 : List Int} {next28 : Int} {l30 : List Int} {b32 : Int} {b33 : Int} {b34 : Int} {l35 : List (Int × List Int × List Int × List Int × Int)} {l39 : List Int} {l40 : List Int} {K0 : Int → Bool → Int → (List Int) → (List Int) → (List Int) → Option R} (h0 : K0 = fun i43 t44 b45 l46 l47 l48 => K (.exit 3) (Zms code25 kids26 order27 next28 l30 b32 b33 b34 l35 l39 l40 i43 t44 b45 l46 l47 l48)) (n : Nat) (i29 : Int) (b31 : Int) (l36 : List Int) (l37 : List Int) (l38 : List Int) : Zb4 N (Zaf N m) code25 kids26 order27 next28 l30 b32 b33 b34 l35 l39 l40 K0 n i29 b31 l36 l37 l38 = LM (Zcd m) N 1 100037 n (Zoz code25 kids26 order27 next28 i29 l30 b31 b32 b33 b34 l35 l36 l37 l38 l39 l40) K := by
  subst h0
  induction n generalizing i29 b31 l36 l37 l38 with
  | zero => kernel_rfl
  | succ n ih => rw [Zb4]; simp (disch := exact id (by kernel_rfl)) only [ih]; kernel_rfl
def Zo1 (code57 : List (Int × Int × Int × Int)) (kids58 : List (List (Int × Int × Int × Int))) (order59 : List Int) (next60 : Int) (i61 : Int) (l62 : List Int) (b63 : Int) (b64 : Int) (b65 : Int) (b66 : Int) (l67 : List (Int × List Int × List Int × List Int × Int)) (l68 : List Int) (l69 : List Int) (l70 : List Int) (l71 : List Int) (l72 : List Int) : St := ⟨[(0, vV (.slice (.prod (.int .i64) (.prod (.int .i64) (.prod (.int .i64) (.int .i64))))) code57), (1, vV (.slice (.slice (.prod (.int .i64) (.prod (.int .i64) (.prod (.int .i64) (.int .i64)))))) kids58), (2, vV (.slice (.int .i64)) order59), (3, vO 0), (9, vP 1 0), (10, vP 2 0), (11, vP 3 0), (12, vO 4), (15, vI next60), (18, vO 5), (21, vI i61)], [(0, .arr (.int .i64) l62), (1, .box [.own 6, .own 7, .val (.int .i64) b63]), (2, .box [.val (.int .i64) b64, .nils, .nils, .nils, .val (.int .i64) b65]), (3, .box [.own 8, .own 9, .val (.int .i64) b66]), (4, .arr (.prod (.int .i64) (.prod (.slice (.int .i64)) (.prod (.slice (.int .i64)) (.prod (.slice (.int .i64)) (.int .i64))))) l67), (5, .arr (.int .i64) l68), (6, .arr (.int .i64) l69), (7, .arr (.int .i64) l70), (8, .arr (.int .i64) l71), (9, .arr (.int .i64) l72)], 10⟩
def Zmt (code57 : List (Int × Int × Int × Int)) (kids58 : List (List (Int × Int × Int × Int))) (order59 : List Int) (next60 : Int) (b63 : Int) (b64 : Int) (b65 : Int) (b66 : Int) (l67 : List (Int × List Int × List Int × List Int × Int)) (l68 : List Int) (l69 : List Int) (l70 : List Int) (l71 : List Int) (l72 : List Int) (i73 : Int) (t74 : Bool) (l75 : List Int) : St := ⟨[(0, vV (.slice (.prod (.int .i64) (.prod (.int .i64) (.prod (.int .i64) (.int .i64))))) code57), (1, vV (.slice (.slice (.prod (.int .i64) (.prod (.int .i64) (.prod (.int .i64) (.int .i64)))))) kids58), (2, vV (.slice (.int .i64)) order59), (3, vO 0), (9, vP 1 0), (10, vP 2 0), (11, vP 3 0), (12, vO 4), (15, vI next60), (18, vO 5), (21, vI i73), (201, vB t74)], [(0, .arr (.int .i64) l75), (1, .box [.own 6, .own 7, .val (.int .i64) b63]), (2, .box [.val (.int .i64) b64, .nils, .nils, .nils, .val (.int .i64) b65]), (3, .box [.own 8, .own 9, .val (.int .i64) b66]), (4, .arr (.prod (.int .i64) (.prod (.slice (.int .i64)) (.prod (.slice (.int .i64)) (.prod (.slice (.int .i64)) (.int .i64))))) l67), (5, .arr (.int .i64) l68), (6, .arr (.int .i64) l69), (7, .arr (.int .i64) l70), (8, .arr (.int .i64) l71), (9, .arr (.int .i64) l72)], 10⟩
theorem Zo2 (N m : Nat) {R : Type} (K : Ex → St → Option R) {code57 : List (Int × Int × Int × Int)} {kids58 : List (List (Int × Int × Int × Int))} {order59 : List Int} {next60 : Int} {b63 : Int} {b64 : Int} {b65 : Int} {b66 : Int} {l67 : List (Int × List Int × List Int × List Int × Int)} {l68 : List Int} {l69 : List Int} {l70 : List Int} {l71 : List Int} {l72 : List Int} {K0 : Int → Bool → (List Int) → Option R} (h0 : K0 = fun i73 t74 l75 => K (.exit 5) (Zmt code57 kids58 order59 next60 b63 b64 b65 b66 l67 l68 l69 l70 l71 l72 i73 t74 l75)) (n : Nat) (i61 : Int) (l62 : List Int) : Ze1 N (Zaf N m) code57 kids58 order59 next60 b63 b64 b65 b66 l67 l68 l69 l70 l71 l72 K0 n i61 l62 = LM (Zcd m) N 2 100044 n (Zo1 code57 kids58 order59 next60 i61 l62 b63 b64 b65 b66 l67 l68 l69 l70 l71 l72) K := by
  subst h0
  induction n generalizing i61 l62 with
  | zero => kernel_rfl
  | succ n ih => rw [Ze1]; simp (disch := exact id (by kernel_rfl)) only [ih]; kernel_rfl
def Zo3 (code8 : List (Int × Int × Int × Int)) (kids9 : List (List (Int × Int × Int × Int))) (order10 : List Int) (pc11 : Int) (l12 : List Int) (b13 : Int) (b16 : Int) (l17 : List (Int × List Int × List Int × List Int × Int)) (l18 : List Int) (l19 : List Int) (l20 : List Int) (l21 : List Int) : St := ⟨[(0, vV (.slice (.prod (.int .i64) (.prod (.int .i64) (.prod (.int .i64) (.int .i64))))) code8), (1, vV (.slice (.slice (.prod (.int .i64) (.prod (.int .i64) (.prod (.int .i64) (.int .i64)))))) kids9), (2, vV (.slice (.int .i64)) order10), (3, vO 0), (9, vP 1 0), (10, vP 2 0), (11, vP 3 0), (12, vO 4), (13, vI pc11)], [(0, .arr (.int .i64) l12), (1, .box [.own 5, .own 6, .val (.int .i64) b13]), (2, .box [.val (.int .i64) (0 : Int), .nils, .nils, .nils, .val (.int .i64) (0 : Int)]), (3, .box [.own 7, .own 8, .val (.int .i64) b16]), (4, .arr (.prod (.int .i64) (.prod (.slice (.int .i64)) (.prod (.slice (.int .i64)) (.prod (.slice (.int .i64)) (.int .i64))))) l17), (5, .arr (.int .i64) l18), (6, .arr (.int .i64) l19), (7, .arr (.int .i64) l20), (8, .arr (.int .i64) l21)], 9⟩
def Zmu (code8 : List (Int × Int × Int × Int)) (kids9 : List (List (Int × Int × Int × Int))) (order10 : List Int) (b16 : Int) (l20 : List Int) (l21 : List Int) (l93 : List Int) : St := ⟨[(10, vP 0 0)], [(0, .box [.val (.int .i64) (2 : Int), .own 1, .own 2, .own 3, .val (.int .i64) b16]), (1, .arr (.int .i64) l93), (2, .arr (.int .i64) l20), (3, .arr (.int .i64) l21)], 4⟩
def Zmv (code8 : List (Int × Int × Int × Int)) (kids9 : List (List (Int × Int × Int × Int))) (order10 : List Int) (b16 : Int) (l20 : List Int) (l21 : List Int) (pc94 : Int) (t95 : Bool) (l96 : List Int) (b97 : Int) (l98 : List (Int × List Int × List Int × List Int × Int)) (l99 : List Int) (l100 : List Int) : St := ⟨[(0, vV (.slice (.prod (.int .i64) (.prod (.int .i64) (.prod (.int .i64) (.int .i64))))) code8), (1, vV (.slice (.slice (.prod (.int .i64) (.prod (.int .i64) (.prod (.int .i64) (.int .i64)))))) kids9), (2, vV (.slice (.int .i64)) order10), (3, vO 0), (9, vP 1 0), (10, vP 2 0), (11, vP 3 0), (12, vO 4), (13, vI pc94), (37, vB t95)], [(0, .arr (.int .i64) l96), (1, .box [.own 5, .own 6, .val (.int .i64) b97]), (2, .box [.val (.int .i64) (0 : Int), .nils, .nils, .nils, .val (.int .i64) (0 : Int)]), (3, .box [.own 7, .own 8, .val (.int .i64) b16]), (4, .arr (.prod (.int .i64) (.prod (.slice (.int .i64)) (.prod (.slice (.int .i64)) (.prod (.slice (.int .i64)) (.int .i64))))) l98), (5, .arr (.int .i64) l99), (6, .arr (.int .i64) l100), (7, .arr (.int .i64) l20), (8, .arr (.int .i64) l21)], 9⟩
theorem Zo4 (N m : Nat) {R : Type} (K : Ex → St → Option R) {code8 : List (Int × Int × Int × Int)} {kids9 : List (List (Int × Int × Int × Int))} {order10 : List Int} {b16 : Int} {l20 : List Int} {l21 : List Int} {K0 : (List Int) → Option R} {K1 : Int → Bool → (List Int) → Int → (List (Int × List Int × List Int × List Int × Int)) → (List Int) → (List Int) → Option R} (h0 : K0 = fun l93 => K .ret (Zmu code8 kids9 order10 b16 l20 l21 l93)) (h1 : K1 = fun pc94 t95 l96 b97 l98 l99 l100 => K (.exit 0) (Zmv code8 kids9 order10 b16 l20 l21 pc94 t95 l96 b97 l98 l99 l100)) (n : Nat) (pc11 : Int) (l12 : List Int) (b13 : Int) (l17 : List (Int × List Int × List Int × List Int × Int)) (l18 : List Int) (l19 : List Int) : Zr N (Zaf N m) code8 kids9 order10 b16 l20 l21 K0 K1 n pc11 l12 b13 l17 l18 l19 = LM (Zcd m) N 0 100006 n (Zo3 code8 kids9 order10 pc11 l12 b13 b16 l17 l18 l19 l20 l21) K := by
  subst h0 h1
  induction n generalizing pc11 l12 b13 l17 l18 l19 with
  | zero => kernel_rfl
  | succ n ih => rw [Zr]; simp (disch := exact id (by kernel_rfl)) only [ih, Zo0 N m (CL (Zcd m) N 0 100006 [1, 0, 1, 1, 0, 1, 0, 1, 1, 1, 1, 1, 1, 1, 1, 1, 1, 1, 1, 1, 0, 1, 0, 1, 0] n K), Zo2 N m (CL (Zcd m) N 0 100006 [1, 0, 1, 1, 0, 1, 0, 1, 1, 1, 1, 1, 1, 1, 1, 1, 1, 1, 1, 1, 0, 1, 1, 1, 0] n K)]; kernel_rfl
theorem Zkv : Callable Tryz.prog 56 := callable_of Tryz.func56 (show chkFn Tryz.f56 = true by kernel_rfl)
theorem Zsu (N m : Nat) (code1 : List (Int × Int × Int × Int)) (kids2 : List (List (Int × Int × Int × Int))) (order3 : List Int) (regs4 : List Int) (s5 : List Int × List Int × Int) : DN (Zcd m) N (code1, kids2, order3, regs4, s5, ()) = Zaf N (m + 1) code1 kids2 order3 regs4 s5 := by
  have h : Zaf N (m + 1) code1 kids2 order3 regs4 s5 = Zaf N (m + 1) code1 kids2 order3 regs4 s5 := rfl
  conv at h => rhs; rw [Zaf]
  simp (disch := exact id (by kernel_rfl)) only [Zo4 (R := Unit × ((Int × List Int × List Int × List Int × Int) × Unit)) N m (CF (Zcd m) N [1, 1, 1, 1, 1, 1, 0, 0])] at h
  exact Eq.trans (by kernel_rfl) h.symm
theorem Zjx (N : Nat) : ∀ m, Good Tryz.prog 56 (Zfl N m)
  | 0 => fun d o h => nomatch (show none = some o from h)
  | m + 1 => GF (Zcd m) N Tryz.func56 (ctx_cons (Zst N) Zss (ctx_cons (Zli N) Zlh (ctx_cons (Zjx N m) Zkv (ctx_cons (Zng N) Znf ctx_nil)))) (by kernel_rfl) (fun d => Zsu N m d.1 d.2.1 d.2.2.1 d.2.2.2.1 d.2.2.2.2.1)
theorem Zsv (N : Nat) : Good Tryz.prog 56 (Zku N) := Zjx N N
noncomputable def Zgx (N : Nat) : Sig := Sig.of [.v (.slice (.prod (.int .i64) (.prod (.int .i64) (.prod (.int .i64) (.int .i64))))) false, .v (.slice (.int .i64)) false, .v (.slice (.int .i64)) false] [.v (.int .i64) false, .v (.own (.int .i64)) false, .v (.own (.int .i64)) false] (fun d => Zdm N d.1 d.2.1 d.2.2.1)
noncomputable def Zqa : Fn := ⟨Tryz.f29, noAnn, Zgx, fun N => [(55, Zfa N), (54, Zd2 N), (52, Zd3 N), (56, Zku N)]⟩
theorem Zqb : Callable Tryz.prog 29 := callable_of Tryz.func29 (show chkFn Tryz.f29 = true by kernel_rfl)
theorem Zqc (N : Nat) : Good Tryz.prog 29 (Zgx N) := GF Zqa N Tryz.func29 (ctx_cons (Zi5 N) Zi4 (ctx_cons (Zgd N) Zgc (ctx_cons (Zgg N) Zgf (ctx_cons (Zsv N) Zkv ctx_nil)))) (by kernel_rfl) (fun d => by kernel_rfl)
noncomputable def Zfm (N : Nat) : Sig := Sig.of [.v (.slice (.int .i64)) false] [.v (.own (.int .i64)) false] (fun d => Zw N d.1)
noncomputable def Zrm : Fn := ⟨Tryz.f31, noAnn, Zfm, noCtx⟩
theorem Zjy : Callable Tryz.prog 31 := callable_of Tryz.func31 (show chkFn Tryz.f31 = true by kernel_rfl)
theorem Zjz (N : Nat) : Good Tryz.prog 31 (Zfm N) := GF Zrm N Tryz.func31 ctx_nil (by kernel_rfl) (fun d => by kernel_rfl)
noncomputable def Zhi (N : Nat) : Sig := Sig.of [.v (.slice (.bool)) false] [.v (.own (.bool)) false] (fun d => Zeq N d.1)
noncomputable def Zqn : Fn := ⟨Tryz.f57, noAnn, Zhi, noCtx⟩
theorem Zqo : Callable Tryz.prog 57 := callable_of Tryz.func57 (show chkFn Tryz.f57 = true by kernel_rfl)
theorem Zqp (N : Nat) : Good Tryz.prog 57 (Zhi N) := GF Zqn N Tryz.func57 ctx_nil (by kernel_rfl) (fun d => by kernel_rfl)
noncomputable def Zh5 (N : Nat) : Sig := Sig.of [.v (.slice (.prod (.int .i64) (.prod (.int .i64) (.prod (.int .i64) (.int .i64))))) false, .v (.slice (.int .i64)) false, .v (.slice (.int .i64)) false] [.v (.own (.int .i64)) false] (fun d => Zcr N d.1 d.2.1 d.2.2.1)
noncomputable def Zds : Fn := ⟨Tryz.f30, fun | 9 => [.canon [0, 1, 2, 7, 8, 9, 10, 43]] | 10 => [.canon [0, 1, 2, 7, 8, 9, 10, 11]] | 11 => [.canon [0, 1, 2, 7, 8, 9, 10, 11, 12]] | 12 => [.canon [0, 1, 2, 7, 8, 9, 10, 11, 12, 51]] | 13 => [.canon [0, 2, 7, 8, 9, 12, 15]] | 14 => [.canon [0, 1, 2, 7, 8, 9, 12]] | 15 => [.canon [0, 1, 2, 7, 8, 9, 10, 11, 12, 51, 59]] | 16 => [.canon [0, 1, 2, 7, 8, 9, 11, 12]] | 17 => [.canon [0, 1, 2, 7, 8, 9, 12]] | 18 => [.canon [0, 1, 2, 7, 8, 9, 10, 11, 12, 51, 87]] | 19 => [.canon [0, 1, 2, 7, 8, 9, 11, 12]] | 20 => [.canon [0, 1, 2, 7, 8, 9, 12]] | 21 => [.canon [0, 1, 2, 7, 8, 9, 10, 11, 12, 51, 102]] | 22 => [.canon [0, 1, 2, 7, 8, 9, 11, 12, 109]] | 23 => [.canon [0, 1, 2, 7, 8, 9, 12]] | 24 => [.canon [0, 1, 2, 7, 8, 9, 10, 11, 12, 51, 114]] | 25 => [.canon [0, 1, 2, 7, 8, 9, 12]] | 26 => [.canon [0, 1, 2, 7, 8, 9, 11, 12, 51, 127]] | 27 => [.canon [0, 1, 2, 7, 8, 9, 12, 13]] | 28 => [.canon [0, 1, 2, 7, 8, 9, 12, 13]] | 29 => [.canon [0, 1, 2, 7, 8, 9, 12]] | 30 => [.canon [0, 1, 2, 7, 8, 9, 11, 12, 148]] | 31 => [.canon [0, 1, 2, 7, 8, 9, 12]] | 32 => [.canon [0, 1, 2, 7, 8, 9, 12, 154]] | 33 => [.canon [0, 8, 9, 14]] | 34 => [.canon [0, 8, 9, 14]] | 35 => [.canon [0, 1, 8, 9, 14]] | 36 => [.canon [0, 1, 2, 8, 9, 14]] | 37 => [.canon [0, 1, 2, 7, 8, 9, 14]] | 38 => [.canon [0, 1, 2, 7, 8, 9, 14]] | 39 => [.canon [0, 1, 2, 7, 8, 9, 12]] | 40 => [.canon [0, 1, 2, 7, 8, 9, 10]] | 43 => [.canon [8, 17, 18, 193]] | 44 => [.canon [8, 17, 18]] | 45 => [.canon [8, 17, 18, 199]] | 46 => [.canon [8, 17, 18]] | 100009 => [.canon [0, 1, 2, 7, 8, 9, 10]] | 100043 => [.canon [8, 17, 18]] | _ => [], Zh5, fun N => [(55, Zfa N), (54, Zd2 N), (52, Zd3 N), (31, Zfm N), (57, Zhi N), (58, Zg9 N), (59, Zhq N)]⟩
def Zmw (code9 : List (Int × Int × Int × Int)) (pc10 : Int) (l11 : List Int) (l12 : List Int) (l13 : List Bool) (l14 : List Bool) (l15 : List (Int × List Int × List Int × List Bool)) : St := ⟨[(0, vV (.slice (.prod (.int .i64) (.prod (.int .i64) (.prod (.int .i64) (.int .i64))))) code9), (1, vO 0), (2, vO 1), (7, vO 2), (8, vO 3), (9, vO 4), (10, vI pc10)], [(0, .arr (.int .i64) l11), (1, .arr (.int .i64) l12), (2, .arr (.bool) l13), (3, .arr (.bool) l14), (4, .arr (.prod (.int .i64) (.prod (.slice (.int .i64)) (.prod (.slice (.int .i64)) (.slice (.bool))))) l15)], 5⟩
def Zlj (code9 : List (Int × Int × Int × Int)) (pc24 : Int) (t25 : Bool) (l26 : List Int) (l27 : List Int) (l28 : List Bool) (l29 : List Bool) (l30 : List (Int × List Int × List Int × List Bool)) : St := ⟨[(0, vV (.slice (.prod (.int .i64) (.prod (.int .i64) (.prod (.int .i64) (.int .i64))))) code9), (1, vO 0), (2, vO 1), (7, vO 2), (8, vO 3), (9, vO 4), (10, vI pc24), (43, vB t25)], [(0, .arr (.int .i64) l26), (1, .arr (.int .i64) l27), (2, .arr (.bool) l28), (3, .arr (.bool) l29), (4, .arr (.prod (.int .i64) (.prod (.slice (.int .i64)) (.prod (.slice (.int .i64)) (.slice (.bool))))) l30)], 5⟩
theorem Zmx (N : Nat) {R : Type} (K : Ex → St → Option R) {code9 : List (Int × Int × Int × Int)} {K0 : Int → Bool → (List Int) → (List Int) → (List Bool) → (List Bool) → (List (Int × List Int × List Int × List Bool)) → Option R} (h0 : K0 = fun pc24 t25 l26 l27 l28 l29 l30 => K (.exit 0) (Zlj code9 pc24 t25 l26 l27 l28 l29 l30)) (n : Nat) (pc10 : Int) (l11 : List Int) (l12 : List Int) (l13 : List Bool) (l14 : List Bool) (l15 : List (Int × List Int × List Int × List Bool)) : Zt N code9 K0 n pc10 l11 l12 l13 l14 l15 = LM Zds N 0 100009 n (Zmw code9 pc10 l11 l12 l13 l14 l15) K := by
  subst h0
  induction n generalizing pc10 l11 l12 l13 l14 l15 with
  | zero => kernel_rfl
  | succ n ih => rw [Zt]; simp (disch := exact id (by kernel_rfl)) only [ih]; kernel_rfl
def Zmy (i46 : Int) (l47 : List Bool) (l48 : List Int) : St := ⟨[(8, vO 0), (17, vO 1), (18, vI i46)], [(0, .arr (.bool) l47), (1, .arr (.int .i64) l48)], 2⟩
def Zlk (l47 : List Bool) (i49 : Int) (t50 : Bool) (l51 : List Int) : St := ⟨[(8, vO 0), (17, vO 1), (18, vI i49), (193, vB t50)], [(0, .arr (.bool) l47), (1, .arr (.int .i64) l51)], 2⟩
theorem Zmz (N : Nat) {R : Type} (K : Ex → St → Option R) {l47 : List Bool} {K0 : Int → Bool → (List Int) → Option R} (h0 : K0 = fun i49 t50 l51 => K (.exit 3) (Zlk l47 i49 t50 l51)) (n : Nat) (i46 : Int) (l48 : List Int) : Zau N l47 K0 n i46 l48 = LM Zds N 1 100043 n (Zmy i46 l47 l48) K := by
  subst h0
  induction n generalizing i46 l48 with
  | zero => kernel_rfl
  | succ n ih => rw [Zau]; simp (disch := exact id (by kernel_rfl)) only [ih]; kernel_rfl
theorem Zrn : Callable Tryz.prog 30 := callable_of Tryz.func30 (show chkFn Tryz.f30 = true by kernel_rfl)
theorem Zro (N : Nat) (code1 : List (Int × Int × Int × Int)) (regs2 : List Int) (cells3 : List Int) : DN Zds N (code1, regs2, cells3, ()) = Zcr N code1 regs2 cells3 := by
  have h : Zcr N code1 regs2 cells3 = Zcr N code1 regs2 cells3 := rfl
  conv at h => rhs; rw [Zcr]
  simp (disch := exact id (by kernel_rfl)) only [Zmx (R := Unit × ((List Int) × Unit)) N (CF Zds N [1, 1, 1, 1, 1, 1, 1, 1, 0, 0]), Zmz (R := Unit × ((List Int) × Unit)) N (CF Zds N [1, 1, 1, 1, 1, 1, 1, 1, 1, 1, 0, 1, 0])] at h
  exact Eq.trans (by kernel_rfl) h.symm
theorem Zrp (N : Nat) : Good Tryz.prog 30 (Zh5 N) := GF Zds N Tryz.func30 (ctx_cons (Zi5 N) Zi4 (ctx_cons (Zgd N) Zgc (ctx_cons (Zgg N) Zgf (ctx_cons (Zjz N) Zjy (ctx_cons (Zqp N) Zqo (ctx_cons (Zli N) Zlh (ctx_cons (Zng N) Znf ctx_nil))))))) (by kernel_rfl) (fun d => Zro N d.1 d.2.1 d.2.2.1)
noncomputable def Zio (N : Nat) : Sig := Sig.of [.v (.slice (.slice (.prod (.int .i64) (.prod (.int .i64) (.prod (.int .i64) (.int .i64)))))) false, .v (.slice (.int .i64)) false, .v (.slice (.int .i64)) false] [.v (.prod (.int .i64) (.prod (.own (.int .i64)) (.prod (.own (.int .i64)) (.own (.int .i64))))) true] (fun d => Zdf N d.1 d.2.1 d.2.2.1)
noncomputable def Zce : Fn := ⟨Tryz.f7, fun | 5 => [.canon [0, 1, 2, 6, 7, 8, 26]] | 6 => [.canon [0, 1, 2, 6, 7, 8]] | 7 => [.canon [0, 1, 2, 6, 7, 8, 9, 10, 11]] | 8 => [.canon [0, 1, 2, 6, 7, 8, 10, 11, 42]] | 9 => [.canon [6]] | 10 => [.canon [0, 1, 2, 6, 7, 8, 12]] | 11 => [.canon [0, 1, 2, 6, 7, 8, 12, 13]] | 12 => [.canon [0, 1, 2, 6, 7, 8, 12, 13, 58]] | 13 => [.canon [0, 1, 2, 6, 7, 8, 12, 13]] | 14 => [.canon [0, 1, 2, 6, 7, 8, 12, 13]] | 17 => [.canon [6, 7, 14, 15, 75]] | 18 => [.canon [6, 7, 14, 15]] | 19 => [.canon [6, 7, 14, 15, 81]] | 20 => [.canon [6, 7, 14, 15]] | 100005 => [.canon [0, 1, 2, 6, 7, 8]] | 100012 => [.canon [0, 1, 2, 6, 7, 8, 12, 13]] | 100017 => [.adoptC 14 3 (.int .i64), .canon [6, 7, 14, 15]] | _ => [], Zio, fun N => [(28, Zgk N), (29, Zgx N), (30, Zh5 N), (31, Zfm N)]⟩
def Zo5 (l13 : List (List (Int × Int × Int × Int))) (regs14 : List Int) (cells15 : List Int) (i16 : Int) (k17 : Int) (b18 : Int) (l19 : List Bool) (l20 : List Int) : St := ⟨[(0, vV (.slice (.slice (.prod (.int .i64) (.prod (.int .i64) (.prod (.int .i64) (.int .i64)))))) l13), (1, vV (.slice (.int .i64)) regs14), (2, vV (.slice (.int .i64)) cells15), (6, vP 0 0), (7, vO 1), (8, vI i16), (12, vO 2), (13, vI k17)], [(0, .box [.val (.int .i64) b18, .nils, .nils, .nils]), (1, .arr (.bool) l19), (2, .arr (.int .i64) l20)], 3⟩
def Zm0 (l13 : List (List (Int × Int × Int × Int))) (regs14 : List Int) (cells15 : List Int) (i16 : Int) (b18 : Int) (l20 : List Int) (k21 : Int) (t22 : Bool) (l23 : List Bool) : St := ⟨[(0, vV (.slice (.slice (.prod (.int .i64) (.prod (.int .i64) (.prod (.int .i64) (.int .i64)))))) l13), (1, vV (.slice (.int .i64)) regs14), (2, vV (.slice (.int .i64)) cells15), (6, vP 0 0), (7, vO 1), (8, vI i16), (12, vO 2), (13, vI k21), (58, vB t22)], [(0, .box [.val (.int .i64) b18, .nils, .nils, .nils]), (1, .arr (.bool) l23), (2, .arr (.int .i64) l20)], 3⟩
theorem Zo6 (N : Nat) {R : Type} (K : Ex → St → Option R) {l13 : List (List (Int × Int × Int × Int))} {regs14 : List Int} {cells15 : List Int} {i16 : Int} {b18 : Int} {l20 : List Int} {K0 : Int → Bool → (List Bool) → Option R} (h0 : K0 = fun k21 t22 l23 => K (.exit 2) (Zm0 l13 regs14 cells15 i16 b18 l20 k21 t22 l23)) (n : Nat) (k17 : Int) (l19 : List Bool) : Zb5 N l13 regs14 cells15 i16 b18 l20 K0 n k17 l19 = LM Zce N 1 100012 n (Zo5 l13 regs14 cells15 i16 k17 b18 l19 l20) K := by
  subst h0
  induction n generalizing k17 l19 with
  | zero => kernel_rfl
  | succ n ih => rw [Zb5]; simp (disch := exact id (by kernel_rfl)) only [ih]; kernel_rfl
def Zo7 (l5 : List (List (Int × Int × Int × Int))) (regs6 : List Int) (cells7 : List Int) (i8 : Int) (l10 : List Bool) : St := ⟨[(0, vV (.slice (.slice (.prod (.int .i64) (.prod (.int .i64) (.prod (.int .i64) (.int .i64)))))) l5), (1, vV (.slice (.int .i64)) regs6), (2, vV (.slice (.int .i64)) cells7), (6, vP 0 0), (7, vO 1), (8, vI i8)], [(0, .box [.val (.int .i64) (0 : Int), .nils, .nils, .nils]), (1, .arr (.bool) l10)], 2⟩
def Zm1 (l5 : List (List (Int × Int × Int × Int))) (regs6 : List Int) (cells7 : List Int) (b32 : Int) (l33 : List Int) (l34 : List Int) : St := ⟨[(6, vP 0 0)], [(0, .box [.val (.int .i64) b32, .own 1, .own 2, .nils]), (1, .arr (.int .i64) l33), (2, .arr (.int .i64) l34)], 3⟩
def Zm2 (l5 : List (List (Int × Int × Int × Int))) (regs6 : List Int) (cells7 : List Int) (i35 : Int) (t36 : Bool) (l37 : List Bool) : St := ⟨[(0, vV (.slice (.slice (.prod (.int .i64) (.prod (.int .i64) (.prod (.int .i64) (.int .i64)))))) l5), (1, vV (.slice (.int .i64)) regs6), (2, vV (.slice (.int .i64)) cells7), (6, vP 0 0), (7, vO 1), (8, vI i35), (26, vB t36)], [(0, .box [.val (.int .i64) (0 : Int), .nils, .nils, .nils]), (1, .arr (.bool) l37)], 2⟩
theorem Zo8 (N : Nat) {R : Type} (K : Ex → St → Option R) {l5 : List (List (Int × Int × Int × Int))} {regs6 : List Int} {cells7 : List Int} {K0 : Int → (List Int) → (List Int) → Option R} {K1 : Int → Bool → (List Bool) → Option R} (h0 : K0 = fun b32 l33 l34 => K .ret (Zm1 l5 regs6 cells7 b32 l33 l34)) (h1 : K1 = fun i35 t36 l37 => K (.exit 0) (Zm2 l5 regs6 cells7 i35 t36 l37)) (n : Nat) (i8 : Int) (l10 : List Bool) : Zbi N l5 regs6 cells7 K0 K1 n i8 l10 = LM Zce N 0 100005 n (Zo7 l5 regs6 cells7 i8 l10) K := by
  subst h0 h1
  induction n generalizing i8 l10 with
  | zero => kernel_rfl
  | succ n ih => rw [Zbi]; simp (disch := exact id (by kernel_rfl)) only [ih, Zo6 N (CL Zce N 0 100005 [1, 0, 0, 1, 1, 1, 1, 0] n K)]; kernel_rfl
def Zo9 (i51 : Int) (l53 : List Bool) (l55 : List Int) (l56 : List Int) (l57 : List Int) : St := ⟨[(6, vP 0 0), (7, vO 1), (14, vP 2 0), (15, vI i51)], [(0, .box [.val (.int .i64) (0 : Int), .nils, .nils, .nils]), (1, .arr (.bool) l53), (2, .box [.val (.int .i64) (-1 : Int), .own 3, .own 4, .own 5]), (3, .arr (.int .i64) l55), (4, .arr (.int .i64) l56), (5, .arr (.int .i64) l57)], 6⟩
def Zm3 (l53 : List Bool) (l55 : List Int) (l56 : List Int) (i58 : Int) (t59 : Bool) (l60 : List Int) : St := ⟨[(6, vP 0 0), (7, vO 1), (14, vP 2 0), (15, vI i58), (75, vB t59)], [(0, .box [.val (.int .i64) (0 : Int), .nils, .nils, .nils]), (1, .arr (.bool) l53), (2, .box [.val (.int .i64) (-1 : Int), .own 3, .own 4, .own 5]), (3, .arr (.int .i64) l55), (4, .arr (.int .i64) l56), (5, .arr (.int .i64) l60)], 6⟩
theorem Zpa (N : Nat) {R : Type} (K : Ex → St → Option R) {l53 : List Bool} {l55 : List Int} {l56 : List Int} {K0 : Int → Bool → (List Int) → Option R} (h0 : K0 = fun i58 t59 l60 => K (.exit 4) (Zm3 l53 l55 l56 i58 t59 l60)) (n : Nat) (i51 : Int) (l57 : List Int) : Zar N l53 l55 l56 K0 n i51 l57 = LM Zce N 2 100017 n (Zo9 i51 l53 l55 l56 l57) K := by
  subst h0
  induction n generalizing i51 l57 with
  | zero => kernel_rfl
  | succ n ih => rw [Zar]; simp (disch := exact id (by kernel_rfl)) only [ih]; kernel_rfl
theorem Zsw : Callable Tryz.prog 7 := callable_of Tryz.func7 (show chkFn Tryz.f7 = true by kernel_rfl)
theorem Zsx (N : Nat) (l1 : List (List (Int × Int × Int × Int))) (regs2 : List Int) (cells3 : List Int) : DN Zce N (l1, regs2, cells3, ()) = Zdf N l1 regs2 cells3 := by
  have h : Zdf N l1 regs2 cells3 = Zdf N l1 regs2 cells3 := rfl
  conv at h => rhs; rw [Zdf]
  simp (disch := exact id (by kernel_rfl)) only [Zo8 (R := Unit × ((Int × List Int × List Int × List Int) × Unit)) N (CF Zce N [1, 1, 1, 0, 1, 0]), Zpa (R := Unit × ((Int × List Int × List Int × List Int) × Unit)) N (CF Zce N [1, 1, 1, 1, 1, 0, 1, 0])] at h
  exact Eq.trans (by kernel_rfl) h.symm
theorem Zsy (N : Nat) : Good Tryz.prog 7 (Zio N) := GF Zce N Tryz.func7 (ctx_cons (Zkr N) Zkq (ctx_cons (Zqc N) Zqb (ctx_cons (Zrp N) Zrn (ctx_cons (Zjz N) Zjy ctx_nil)))) (by kernel_rfl) (fun d => Zsx N d.1 d.2.1 d.2.2.1)
noncomputable def Zip (N : Nat) : Sig := Sig.of [.v (.slice (.slice (.prod (.int .i64) (.prod (.int .i64) (.prod (.int .i64) (.int .i64)))))) false, .v (.slice (.int .i64)) false, .v (.slice (.int .i64)) false, .v (.slice (.prod (.int .i64) (.int .i64))) false] [.v (.int .i64) false] (fun d => Zdg N d.1 d.2.1 d.2.2.1 d.2.2.2.1)
noncomputable def Zgo : Fn := ⟨Tryz.f19, fun | 4 => [.canon [0, 1, 2, 3, 9, 23]] | 5 => [.canon [0, 1, 2, 3, 9]] | 6 => [.canon [0, 1, 2, 3, 9, 35]] | 7 => [.canon [8]] | 100004 => [.canon [0, 1, 2, 3, 9]] | _ => [], Zip, fun N => [(28, Zgk N), (42, Zgm N), (25, Zfj N), (7, Zio N)]⟩
def Zpb (l7 : List (List (Int × Int × Int × Int))) (regs8 : List Int) (cells9 : List Int) (rows10 : List (Int × Int)) (n11 : Int) : St := ⟨[(0, vV (.slice (.slice (.prod (.int .i64) (.prod (.int .i64) (.prod (.int .i64) (.int .i64)))))) l7), (1, vV (.slice (.int .i64)) regs8), (2, vV (.slice (.int .i64)) cells9), (3, vV (.slice (.prod (.int .i64) (.int .i64))) rows10), (9, vI n11)], [], 0⟩
def Zm4 (l7 : List (List (Int × Int × Int × Int))) (regs8 : List Int) (cells9 : List Int) (rows10 : List (Int × Int)) (t14 : Int) : St := ⟨[(8, vI t14)], [], 0⟩
def Zm5 (l7 : List (List (Int × Int × Int × Int))) (regs8 : List Int) (cells9 : List Int) (rows10 : List (Int × Int)) (n15 : Int) (t16 : Bool) : St := ⟨[(0, vV (.slice (.slice (.prod (.int .i64) (.prod (.int .i64) (.prod (.int .i64) (.int .i64)))))) l7), (1, vV (.slice (.int .i64)) regs8), (2, vV (.slice (.int .i64)) cells9), (3, vV (.slice (.prod (.int .i64) (.int .i64))) rows10), (9, vI n15), (23, vB t16)], [], 0⟩
theorem Zpc (N : Nat) {R : Type} (K : Ex → St → Option R) {l7 : List (List (Int × Int × Int × Int))} {regs8 : List Int} {cells9 : List Int} {rows10 : List (Int × Int)} {K0 : Int → Option R} {K1 : Int → Bool → Option R} (h0 : K0 = fun t14 => K .ret (Zm4 l7 regs8 cells9 rows10 t14)) (h1 : K1 = fun n15 t16 => K (.exit 0) (Zm5 l7 regs8 cells9 rows10 n15 t16)) (n : Nat) (n11 : Int) : Zb7 N l7 regs8 cells9 rows10 K0 K1 n n11 = LM Zgo N 0 100004 n (Zpb l7 regs8 cells9 rows10 n11) K := by
  subst h0 h1
  induction n generalizing n11 with
  | zero => kernel_rfl
  | succ n ih => rw [Zb7]; simp (disch := exact id (by kernel_rfl)) only [ih]; kernel_rfl
theorem Zsz : Callable Tryz.prog 19 := callable_of Tryz.func19 (show chkFn Tryz.f19 = true by kernel_rfl)
theorem Zs0 (N : Nat) (l1 : List (List (Int × Int × Int × Int))) (regs2 : List Int) (cells3 : List Int) (rows4 : List (Int × Int)) : DN Zgo N (l1, regs2, cells3, rows4, ()) = Zdg N l1 regs2 cells3 rows4 := by
  have h : Zdg N l1 regs2 cells3 rows4 = Zdg N l1 regs2 cells3 rows4 := rfl
  conv at h => rhs; rw [Zdg]
  simp (disch := exact id (by kernel_rfl)) only [Zpc (R := Unit × (Int × Unit)) N (CF Zgo N [1, 1, 0, 1, 0])] at h
  exact Eq.trans (by kernel_rfl) h.symm
theorem Zs1 (N : Nat) : Good Tryz.prog 19 (Zip N) := GF Zgo N Tryz.func19 (ctx_cons (Zkr N) Zkq (ctx_cons (Zkt N) Zks (ctx_cons (Zjw N) Zjv (ctx_cons (Zsy N) Zsw ctx_nil)))) (by kernel_rfl) (fun d => Zs0 N d.1 d.2.1 d.2.2.1 d.2.2.2.1)
noncomputable def Zj0 (N : Nat) : Sig := Sig.of [.v (.slice (.int .i64)) false, .v (.int .i64) false] [.v (.bool) false] (fun d => Zec N d.1 d.2.1)
noncomputable def Ziq : Fn := ⟨Tryz.f26, fun | 2 => [.canon [0, 1, 5, 9]] | 3 => [.canon [0, 1, 5]] | 4 => [.canon [0, 1, 5, 17]] | 5 => [.canon [4]] | 100002 => [.canon [0, 1, 5]] | _ => [], Zj0, noCtx⟩
def Zrq (l3 : List Int) (x4 : Int) (i5 : Int) : St := ⟨[(0, vV (.slice (.int .i64)) l3), (1, vI x4), (5, vI i5)], [], 0⟩
def Zqq (l3 : List Int) (x4 : Int) : St := ⟨[(4, vB true)], [], 0⟩
def Zqr (l3 : List Int) (x4 : Int) (i6 : Int) (t7 : Bool) : St := ⟨[(0, vV (.slice (.int .i64)) l3), (1, vI x4), (5, vI i6), (9, vB t7)], [], 0⟩
theorem Zrr (N : Nat) {R : Type} (K : Ex → St → Option R) {l3 : List Int} {x4 : Int} {K0 : Option R} {K1 : Int → Bool → Option R} (h0 : K0 = K .ret (Zqq l3 x4)) (h1 : K1 = fun i6 t7 => K (.exit 0) (Zqr l3 x4 i6 t7)) (n : Nat) (i5 : Int) : Zdn N l3 x4 K0 K1 n i5 = LM Ziq N 0 100002 n (Zrq l3 x4 i5) K := by
  subst h0 h1
  induction n generalizing i5 with
  | zero => kernel_rfl
  | succ n ih => rw [Zdn]; simp (disch := exact id (by kernel_rfl)) only [ih]; kernel_rfl
theorem Zt3 : Callable Tryz.prog 26 := callable_of Tryz.func26 (show chkFn Tryz.f26 = true by kernel_rfl)
theorem Zt4 (N : Nat) (l1 : List Int) (x2 : Int) : DN Ziq N (l1, x2, ()) = Zec N l1 x2 := by
  have h : Zec N l1 x2 = Zec N l1 x2 := rfl
  conv at h => rhs; rw [Zec]
  simp (disch := exact id (by kernel_rfl)) only [Zrr (R := Unit × (Bool × Unit)) N (CF Ziq N [1, 0, 1, 0])] at h
  exact Eq.trans (by kernel_rfl) h.symm
theorem Zt5 (N : Nat) : Good Tryz.prog 26 (Zj0 N) := GF Ziq N Tryz.func26 ctx_nil (by kernel_rfl) (fun d => Zt4 N d.1 d.2.1)
noncomputable def Zj1 (N : Nat) : Sig := Sig.of [.v (.slice (.int .u8)) false] [.v (.bool) false] (fun d => Ze7 N d.1)
noncomputable def Zrs : Fn := ⟨Tryz.f5, fun | 9 => [.view 46] | 10 => [.view 69] | _ => [], Zj1, fun N => [(23, Zjq N), (24, Zfw N), (21, Zik N), (19, Zip N), (25, Zfj N), (10, Zf8 N), (26, Zj0 N)]⟩
theorem Zt6 : Callable Tryz.prog 5 := callable_of Tryz.func5 (show chkFn Tryz.f5 = true by kernel_rfl)
theorem Zrt (N : Nat) : Good Tryz.prog 5 (Zj1 N) := GF Zrs N Tryz.func5 (ctx_cons (Zt2 N) Zt1 (ctx_cons (Znw N) Znv (ctx_cons (Zsf N) Zsd (ctx_cons (Zs1 N) Zsz (ctx_cons (Zjw N) Zjv (ctx_cons (Zkn N) Zkm (ctx_cons (Zt5 N) Zt3 ctx_nil))))))) (by kernel_rfl) (fun d => by kernel_rfl)
end Go.Sx
