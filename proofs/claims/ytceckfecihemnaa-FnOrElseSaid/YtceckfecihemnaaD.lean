/- Each Go function does what its Lean function says. -/
import Derived.Test.YtceckfecihemnaaT2
import Derived.Test.YtceckfecihemnaaProg
import Derived.Test.YtceckfecihemnaaLay
namespace Go.Sx
open Go.Proofs
set_option linter.unusedVariables false
set_option linter.unusedSimpArgs false
def tab : Tab := [(3, ⟨.int .i64, false, .basic⟩), (4, ⟨.bool, false, .basic⟩), (5, ⟨.int .u8, false, .basic⟩), (22, ⟨.slice (.int .u8), false, .slice 5⟩), (32, ⟨.prod (.int .i64) (.int .i64), true, .struct [(0, 3), (1, 3)]⟩), (33, ⟨.slice (.prod (.int .i64) (.int .i64)), false, .slice 32⟩), (38, ⟨.slice (.int .i64), false, .slice 3⟩), (47, ⟨.slice (.prod (.int .i64) (.prod (.int .i64) (.prod (.int .i64) (.int .i64)))), false, .slice 89⟩), (54, ⟨.slice (.slice (.prod (.int .i64) (.prod (.int .i64) (.prod (.int .i64) (.int .i64))))), false, .slice 64⟩), (58, ⟨.prod (.int .i64) (.prod (.slice (.int .i64)) (.prod (.slice (.int .i64)) (.slice (.int .i64)))), true, .struct [(0, 3), (1, 38), (2, 38), (3, 38)]⟩), (64, ⟨.slice (.prod (.int .i64) (.prod (.int .i64) (.prod (.int .i64) (.int .i64)))), true, .struct [(0, 47)]⟩), (89, ⟨.prod (.int .i64) (.prod (.int .i64) (.prod (.int .i64) (.int .i64))), true, .struct [(0, 3), (1, 3), (2, 3), (3, 3)]⟩), (102, ⟨.slice (.prod (.int .i64) (.prod (.int .i64) (.slice (.int .i64)))), false, .slice 133⟩), (104, ⟨.prod (.slice (.int .i64)) (.prod (.slice (.int .i64)) (.prod (.slice (.prod (.int .i64) (.int .i64))) (.prod (.int .i64) (.prod (.slice (.prod (.int .i64) (.prod (.int .i64) (.slice (.int .i64))))) (.slice (.int .i64)))))), true, .struct [(0, 38), (1, 38), (2, 33), (3, 3), (4, 102), (5, 38)]⟩), (108, ⟨.prod (.slice (.int .i64)) (.prod (.slice (.int .i64)) (.int .i64)), true, .struct [(0, 38), (1, 38), (2, 3)]⟩), (110, ⟨.prod (.int .i64) (.prod (.slice (.int .i64)) (.prod (.slice (.int .i64)) (.prod (.slice (.int .i64)) (.int .i64)))), true, .struct [(0, 3), (1, 38), (2, 108)]⟩), (113, ⟨.prod (.slice (.int .u8)) (.prod (.int .i64) (.int .i64)), true, .struct [(0, 22), (1, 3), (2, 3)]⟩), (133, ⟨.prod (.int .i64) (.prod (.int .i64) (.slice (.int .i64))), true, .struct [(0, 3), (1, 3), (2, 38)]⟩), (141, ⟨.slice (.prod (.int .i64) (.prod (.slice (.int .i64)) (.prod (.slice (.int .i64)) (.prod (.slice (.int .i64)) (.int .i64))))), false, .slice 143⟩), (143, ⟨.prod (.int .i64) (.prod (.slice (.int .i64)) (.prod (.slice (.int .i64)) (.prod (.slice (.int .i64)) (.int .i64)))), true, .struct [(0, 3), (1, 38), (2, 108)]⟩), (166, ⟨.slice (.prod (.int .i64) (.prod (.slice (.int .i64)) (.prod (.slice (.int .i64)) (.prod (.slice (.int .i64)) (.int .i64))))), false, .slice 168⟩), (168, ⟨.prod (.int .i64) (.prod (.slice (.int .i64)) (.prod (.slice (.int .i64)) (.prod (.slice (.int .i64)) (.int .i64)))), true, .struct [(0, 3), (1, 38), (2, 108)]⟩)]
theorem mixedOk : Try.prog.follows .mixedOrders = true := by kernel_rfl
theorem tabOk : TabOk Try.prog tab := tab_ok (show chkTab Try.prog tab tab = true by kernel_rfl)
noncomputable def LM (x : Fn) (N : Nat) {R : Type} (i k n : Nat) (st : St) (K : Ex → St → Option R) : Option R := lpM tab (x.c N) x.a N x.F i k n st K
noncomputable def CF (x : Fn) (N : Nat) (p : List Nat) : Ex → St → Option (Qs (x.s N)) := cxF tab (x.c N) x.a N (x.s N) x.F p
noncomputable def CL (x : Fn) (N : Nat) {R : Type} (i k : Nat) (p : List Nat) (n : Nat) (K : Ex → St → Option R) : Ex → St → Option R := cxL tab (x.c N) x.a N x.F i k p n K
noncomputable def DN (x : Fn) (N : Nat) (d : PDen (x.s N).ps) : Option (Qs (x.s N)) := den (R := Qs (x.s N)) tab (x.c N) x.a N (x.s N) x.F d some
theorem GF (x : Fn) {k : FuncId} (N : Nat) (hf : Try.prog.funcs[k]? = some x.F) (hc : CtxOk Try.prog (x.c N)) (hok : chkBody x.F (x.s N).ps = true) (h : ∀ d, DN x N d = (x.s N).run d) : Good Try.prog k (x.s N) :=
  good_body mixedOk tabOk hc hf hok (fun d _ e => ⟨N, (h d).trans e⟩)
noncomputable def Ziv (N : Nat) : Sig := Sig.of [.v (.slice (.int .u8)) false] [.v (.bool) false] (fun d => Zkk N d.1)
noncomputable def Zrr : Fn := ⟨Try.f6, noAnn, Ziv, noCtx⟩
theorem Zrs : Callable Try.prog 6 := callable_of Try.func6 (show chkFn Try.f6 = true by kernel_rfl)
theorem Zrt (N : Nat) : Good Try.prog 6 (Ziv N) := GF Zrr N Try.func6 ctx_nil (by kernel_rfl) (fun d => by kernel_rfl)
noncomputable def Zhv (N : Nat) : Sig := Sig.of [.v (.slice (.int .u8)) false] [.box (.prod (.slice (.int .u8)) (.prod (.int .i64) (.int .i64)))] (fun d => Zcl N d.1)
noncomputable def Zf2 : Fn := ⟨Try.f33, fun | 3 => [.canon [0, 3, 4, 15]] | 4 => [.canon [0, 3, 4]] | 5 => [.canon [0, 3, 4]] | 100003 => [.canon [0, 3, 4]] | _ => [], Zhv, noCtx⟩
def Znf (code2 : List Int) (h3 : Int) (i4 : Int) : St := ⟨[(0, vV (.slice (.int .u8)) code2), (3, vI h3), (4, vI i4)], [], 0⟩
def Zly (code2 : List Int) (h5 : Int) (i6 : Int) (t7 : Bool) : St := ⟨[(0, vV (.slice (.int .u8)) code2), (3, vI h5), (4, vI i6), (15, vB t7)], [], 0⟩
theorem Zng (N : Nat) {R : Type} (K : Ex → St → Option R) {code2 : List Int} {K0 : Int → Int → Bool → Option R} (h0 : K0 = fun h5 i6 t7 => K (.exit 0) (Zly code2 h5 i6 t7)) (n : Nat) (h3 : Int) (i4 : Int) : Zbk N code2 K0 n h3 i4 = LM Zf2 N 0 100003 n (Znf code2 h3 i4) K := by
  subst h0
  induction n generalizing h3 i4 with
  | zero => kernel_rfl
  | succ n ih => rw [Zbk]; simp (disch := exact id (by kernel_rfl)) only [ih]; kernel_rfl
theorem Zqs : Callable Try.prog 33 := callable_of Try.func33 (show chkFn Try.f33 = true by kernel_rfl)
theorem Zqt (N : Nat) (code1 : List Int) : DN Zf2 N (code1, ()) = Zcl N code1 := by
  have h : Zcl N code1 = Zcl N code1 := rfl
  conv at h => rhs; rw [Zcl]
  simp (disch := exact id (by kernel_rfl)) only [Zng (R := Unit × ((List Int × Int × Int) × Unit)) N (CF Zf2 N [1, 1, 0, 1, 0])] at h
  exact Eq.trans (by kernel_rfl) h.symm
theorem Zqu (N : Nat) : Good Try.prog 33 (Zhv N) := GF Zf2 N Try.func33 ctx_nil (by kernel_rfl) (fun d => Zqt N d.1)
noncomputable def Zg5 (N : Nat) : Sig := Sig.of [.box (.prod (.slice (.int .u8)) (.prod (.int .i64) (.int .i64)))] [.v (.int .i64) false] (fun d => Zcy N d.1)
noncomputable def Zpl : Fn := ⟨Try.f90, noAnn, Zg5, noCtx⟩
theorem Zpm : Callable Try.prog 90 := callable_of Try.func90 (show chkFn Try.f90 = true by kernel_rfl)
theorem Zpn (N : Nat) : Good Try.prog 90 (Zg5 N) := GF Zpl N Try.func90 ctx_nil (by kernel_rfl) (fun d => by kernel_rfl)
noncomputable def Z9 (N : Nat) : Sig := Sig.of [.box (.prod (.slice (.int .u8)) (.prod (.int .i64) (.int .i64))), .v (.int .i64) false] [.v (.int .i64) false] (fun d => Zf N d.1 d.2.1)
noncomputable def Zot : Fn := ⟨Try.f47, noAnn, Z9, fun N => [(90, Zg5 N)]⟩
theorem Zam : Callable Try.prog 47 := callable_of Try.func47 (show chkFn Try.f47 = true by kernel_rfl)
theorem Zan (N : Nat) : Good Try.prog 47 (Z9 N) := GF Zot N Try.func47 (ctx_cons (Zpn N) Zpm ctx_nil) (by kernel_rfl) (fun d => by kernel_rfl)
noncomputable def Zec (N : Nat) : Sig := Sig.of [.box (.prod (.slice (.int .u8)) (.prod (.int .i64) (.int .i64)))] [.v (.int .i64) false] (fun d => Zc N d.1)
noncomputable def Znh : Fn := ⟨Try.f157, noAnn, Zec, fun N => [(47, Z9 N)]⟩
theorem Zh8 : Callable Try.prog 157 := callable_of Try.func157 (show chkFn Try.f157 = true by kernel_rfl)
theorem Zh9 (N : Nat) : Good Try.prog 157 (Zec N) := GF Znh N Try.func157 (ctx_cons (Zan N) Zam ctx_nil) (by kernel_rfl) (fun d => by kernel_rfl)
noncomputable def Zb0 (N : Nat) : Sig := Sig.of [.box (.prod (.slice (.int .u8)) (.prod (.int .i64) (.int .i64))), .v (.int .i64) false] [.v (.bool) false] (fun d => Z2 N d.1 d.2.1)
noncomputable def Zpo : Fn := ⟨Try.f45, noAnn, Zb0, fun N => [(47, Z9 N)]⟩
theorem Zdf : Callable Try.prog 45 := callable_of Try.func45 (show chkFn Try.f45 = true by kernel_rfl)
theorem Zdg (N : Nat) : Good Try.prog 45 (Zb0 N) := GF Zpo N Try.func45 (ctx_cons (Zan N) Zam ctx_nil) (by kernel_rfl) (fun d => by kernel_rfl)
noncomputable def Zed (N : Nat) : Sig := Sig.of [.box (.prod (.slice (.int .u8)) (.prod (.int .i64) (.int .i64))), .v (.slice (.int .i64)) false] [.v (.int .i64) false] (fun d => Zat N d.1 d.2.1)
noncomputable def Zni : Fn := ⟨Try.f117, noAnn, Zed, fun N => [(47, Z9 N)]⟩
theorem Zia : Callable Try.prog 117 := callable_of Try.func117 (show chkFn Try.f117 = true by kernel_rfl)
theorem Zib (N : Nat) : Good Try.prog 117 (Zed N) := GF Zni N Try.func117 (ctx_cons (Zan N) Zam ctx_nil) (by kernel_rfl) (fun d => by kernel_rfl)
noncomputable def Zee (N : Nat) : Sig := Sig.of [.box (.prod (.slice (.int .u8)) (.prod (.int .i64) (.int .i64)))] [.v (.int .i64) false] (fun d => Zd7 N d.1)
noncomputable def Zpp : Fn := ⟨Try.f88, noAnn, Zee, fun N => [(45, Zb0 N), (117, Zed N), (47, Z9 N)]⟩
theorem Zg6 : Callable Try.prog 88 := callable_of Try.func88 (show chkFn Try.f88 = true by kernel_rfl)
theorem Zg7 (N : Nat) : Good Try.prog 88 (Zee N) := GF Zpp N Try.func88 (ctx_cons (Zdg N) Zdf (ctx_cons (Zib N) Zia (ctx_cons (Zan N) Zam ctx_nil))) (by kernel_rfl) (fun d => by kernel_rfl)
noncomputable def Zd3 (N : Nat) : Sig := Sig.of [.box (.prod (.slice (.int .u8)) (.prod (.int .i64) (.int .i64)))] [.v (.int .i64) false] (fun d => Zaq N d.1)
noncomputable def Zlz : Fn := ⟨Try.f144, noAnn, Zd3, fun N => [(45, Zb0 N), (47, Z9 N)]⟩
theorem Zhq : Callable Try.prog 144 := callable_of Try.func144 (show chkFn Try.f144 = true by kernel_rfl)
theorem Zhr (N : Nat) : Good Try.prog 144 (Zd3 N) := GF Zlz N Try.func144 (ctx_cons (Zdg N) Zdf (ctx_cons (Zan N) Zam ctx_nil)) (by kernel_rfl) (fun d => by kernel_rfl)
noncomputable def Zfu (N : Nat) : Sig := Sig.of [.box (.prod (.slice (.int .u8)) (.prod (.int .i64) (.int .i64)))] [.v (.int .i64) false] (fun d => Zj N d.1)
noncomputable def Znj : Fn := ⟨Try.f163, noAnn, Zfu, fun N => [(45, Zb0 N), (47, Z9 N), (117, Zed N)]⟩
theorem Znk : Callable Try.prog 163 := callable_of Try.func163 (show chkFn Try.f163 = true by kernel_rfl)
theorem Znl (N : Nat) : Good Try.prog 163 (Zfu N) := GF Znj N Try.func163 (ctx_cons (Zdg N) Zdf (ctx_cons (Zan N) Zam (ctx_cons (Zib N) Zia ctx_nil))) (by kernel_rfl) (fun d => by kernel_rfl)
noncomputable def Zgp (N : Nat) : Sig := Sig.of [.box (.prod (.slice (.int .u8)) (.prod (.int .i64) (.int .i64))), .v (.int .i64) false] [.v (.prod (.int .i64) (.prod (.int .i64) (.prod (.int .i64) (.int .i64)))) true] (fun d => Zi N d.1 d.2.1)
noncomputable def Zou : Fn := ⟨Try.f161, noAnn, Zgp, fun N => [(157, Zec N), (88, Zee N), (144, Zd3 N), (47, Z9 N), (163, Zfu N)]⟩
theorem Zov : Callable Try.prog 161 := callable_of Try.func161 (show chkFn Try.f161 = true by kernel_rfl)
theorem Zow (N : Nat) : Good Try.prog 161 (Zgp N) := GF Zou N Try.func161 (ctx_cons (Zh9 N) Zh8 (ctx_cons (Zg7 N) Zg6 (ctx_cons (Zhr N) Zhq (ctx_cons (Zan N) Zam (ctx_cons (Znl N) Znk ctx_nil))))) (by kernel_rfl) (fun d => by kernel_rfl)
noncomputable def Zfg (N m : Nat) : Sig := Sig.of [.box (.prod (.slice (.int .u8)) (.prod (.int .i64) (.int .i64))), .v (.int .i64) false, .v (.int .i64) false, .v (.bool) false] [.v (.own (.prod (.int .i64) (.prod (.int .i64) (.prod (.int .i64) (.int .i64))))) false] (fun d => Za9 N m d.1 d.2.1 d.2.2.1 d.2.2.2.1)
noncomputable def Zj2 (N : Nat) : Sig := Zfg N N
noncomputable def Zf3 (m : Nat) : Fn := ⟨Try.f156, fun | 3 => [.canon [0, 1, 2, 3, 9, 10, 27]] | 4 => [.canon [0, 1, 2, 3, 9, 10]] | 5 => [.canon [0, 1, 2, 3, 9, 10, 11]] | 6 => [.canon [0, 1, 2, 3, 9, 10]] | 7 => [.canon [0, 1, 2, 3, 9, 10, 11, 40]] | 8 => [.canon [0, 1, 2, 3, 9, 10]] | 9 => [.canon [0, 1, 2, 3, 9, 10, 11, 48]] | 10 => [.canon [0, 1, 2, 3, 9, 10]] | 11 => [.canon [0, 1, 2, 3, 9, 10, 11, 56]] | 12 => [.canon [0, 1, 2, 3, 9, 10]] | 13 => [.canon [0, 1, 2, 3, 9, 10, 11, 67]] | 14 => [.canon [0, 1, 2, 3, 9, 10, 12]] | 15 => [.canon [0, 1, 2, 3, 9, 10, 12]] | 16 => [.canon [0, 1, 2, 3, 9, 10]] | 17 => [.canon [0, 1, 2, 3, 9, 10, 100]] | 18 => [.canon [0, 1, 2, 3, 9, 10]] | 19 => [.canon [0, 1, 2, 3, 9, 10]] | 20 => [.canon [0, 1, 2, 3, 9, 10, 11, 109]] | 21 => [.canon [0, 1, 2, 3, 9, 10, 13]] | 22 => [.canon [0, 1, 2, 3, 9, 10, 13, 14]] | 23 => [.canon [0, 1, 2, 3, 9, 10, 13, 14]] | 24 => [.canon [0, 1, 2, 3, 9, 10, 13]] | 25 => [.canon [0, 1, 2, 3, 9, 10]] | 26 => [.canon [0, 1, 2, 3, 9, 10, 134]] | 27 => [.canon [0, 1, 2, 3, 9, 10]] | 28 => [.canon [0, 1, 2, 3, 9, 10, 145]] | 29 => [.canon [0, 1, 2, 3, 9, 10]] | 100003 => [.canon [0, 1, 2, 3, 9, 10]] | _ => [], fun N => Zfg N (m + 1), fun N => [(47, Z9 N), (161, Zgp N), (156, Zfg N m), (45, Zb0 N)]⟩
def Znm (most6 : Int) (deep7 : Int) (kid8 : Bool) (n9 : Int) (b10 : List Int × Int × Int) (l11 : List (Int × Int × Int × Int)) : St := ⟨[(0, vP 0 0), (1, vI most6), (2, vI deep7), (3, vB kid8), (9, vO 1), (10, vI n9)], [(0, .box [.val (.slice (.int .u8)) b10.1, .val (.int .i64) b10.2.1, .val (.int .i64) b10.2.2]), (1, .arr (.prod (.int .i64) (.prod (.int .i64) (.prod (.int .i64) (.int .i64)))) l11)], 2⟩
def Zl0 (most6 : Int) (deep7 : Int) (kid8 : Bool) (n80 : Int) (t81 : Bool) (b82 : List Int × Int × Int) (l83 : List (Int × Int × Int × Int)) : St := ⟨[(0, vP 0 0), (1, vI most6), (2, vI deep7), (3, vB kid8), (9, vO 1), (10, vI n80), (27, vB t81)], [(0, .box [.val (.slice (.int .u8)) b82.1, .val (.int .i64) b82.2.1, .val (.int .i64) b82.2.2]), (1, .arr (.prod (.int .i64) (.prod (.int .i64) (.prod (.int .i64) (.int .i64)))) l83)], 2⟩
theorem Znn (N m : Nat) {R : Type} (K : Ex → St → Option R) {most6 : Int} {deep7 : Int} {kid8 : Bool} {K0 : Int → Bool → (List Int × Int × Int) → (List (Int × Int × Int × Int)) → Option R} (h0 : K0 = fun n80 t81 b82 l83 => K (.exit 0) (Zl0 most6 deep7 kid8 n80 t81 b82 l83)) (n : Nat) (n9 : Int) (b10 : List Int × Int × Int) (l11 : List (Int × Int × Int × Int)) : Zg N (Za9 N m) most6 deep7 kid8 K0 n n9 b10 l11 = LM (Zf3 m) N 0 100003 n (Znm most6 deep7 kid8 n9 b10 l11) K := by
  subst h0
  induction n generalizing n9 b10 l11 with
  | zero => kernel_rfl
  | succ n ih => rw [Zg]; simp (disch := exact id (by kernel_rfl)) only [ih]; kernel_rfl
theorem Zj3 : Callable Try.prog 156 := callable_of Try.func156 (show chkFn Try.f156 = true by kernel_rfl)
theorem Zqv (N m : Nat) (c1 : List Int × Int × Int) (most2 : Int) (deep3 : Int) (kid4 : Bool) : DN (Zf3 m) N (c1, most2, deep3, kid4, ()) = Za9 N (m + 1) c1 most2 deep3 kid4 := by
  have h : Za9 N (m + 1) c1 most2 deep3 kid4 = Za9 N (m + 1) c1 most2 deep3 kid4 := rfl
  conv at h => rhs; rw [Za9]
  simp (disch := exact id (by kernel_rfl)) only [Znn (R := ((List Int × Int × Int) × Unit) × ((List (Int × Int × Int × Int)) × Unit)) N m (CF (Zf3 m) N [1, 1, 0, 1, 0])] at h
  exact Eq.trans (by kernel_rfl) h.symm
theorem Zje (N : Nat) : ∀ m, Good Try.prog 156 (Zfg N m)
  | 0 => fun d o h => nomatch (show none = some o from h)
  | m + 1 => GF (Zf3 m) N Try.func156 (ctx_cons (Zan N) Zam (ctx_cons (Zow N) Zov (ctx_cons (Zje N m) Zj3 (ctx_cons (Zdg N) Zdf ctx_nil)))) (by kernel_rfl) (fun d => Zqv N m d.1 d.2.1 d.2.2.1 d.2.2.2.1)
theorem Zqw (N : Nat) : Good Try.prog 156 (Zj2 N) := Zje N N
noncomputable def Zgq (N : Nat) : Sig := Sig.of [.box (.prod (.slice (.int .u8)) (.prod (.int .i64) (.int .i64)))] [.v (.own (.prod (.int .i64) (.prod (.int .i64) (.prod (.int .i64) (.int .i64))))) false] (fun d => Zf0 N d.1)
noncomputable def Zox : Fn := ⟨Try.f138, noAnn, Zgq, fun N => [(156, Zj2 N), (45, Zb0 N), (144, Zd3 N), (157, Zec N), (47, Z9 N)]⟩
theorem Zoy : Callable Try.prog 138 := callable_of Try.func138 (show chkFn Try.f138 = true by kernel_rfl)
theorem Zoz (N : Nat) : Good Try.prog 138 (Zgq N) := GF Zox N Try.func138 (ctx_cons (Zqw N) Zj3 (ctx_cons (Zdg N) Zdf (ctx_cons (Zhr N) Zhq (ctx_cons (Zh9 N) Zh8 (ctx_cons (Zan N) Zam ctx_nil))))) (by kernel_rfl) (fun d => by kernel_rfl)
noncomputable def Zgr (N : Nat) : Sig := Sig.of [.box (.prod (.slice (.int .u8)) (.prod (.int .i64) (.int .i64)))] [.v (.own (.slice (.prod (.int .i64) (.prod (.int .i64) (.prod (.int .i64) (.int .i64)))))) false] (fun d => Zc2 N d.1)
noncomputable def Zey : Fn := ⟨Try.f105, fun | 3 => [.canon [0, 3, 4, 9]] | 4 => [.canon [0, 3, 4]] | 5 => [.canon [0, 3, 4]] | 100003 => [.canon [0, 3, 4]] | _ => [], Zgr, fun N => [(47, Z9 N), (138, Zgq N)]⟩
def Zkm (n3 : Int) (b4 : List Int × Int × Int) (l5 : List (List (Int × Int × Int × Int))) : St := ⟨[(0, vP 0 0), (3, vO 1), (4, vI n3)], [(0, .box [.val (.slice (.int .u8)) b4.1, .val (.int .i64) b4.2.1, .val (.int .i64) b4.2.2]), (1, .arr (.slice (.prod (.int .i64) (.prod (.int .i64) (.prod (.int .i64) (.int .i64))))) l5)], 2⟩
def Zj4 (n7 : Int) (t8 : Bool) (b9 : List Int × Int × Int) (l10 : List (List (Int × Int × Int × Int))) : St := ⟨[(0, vP 0 0), (3, vO 1), (4, vI n7), (9, vB t8)], [(0, .box [.val (.slice (.int .u8)) b9.1, .val (.int .i64) b9.2.1, .val (.int .i64) b9.2.2]), (1, .arr (.slice (.prod (.int .i64) (.prod (.int .i64) (.prod (.int .i64) (.int .i64))))) l10)], 2⟩
theorem Zkn (N : Nat) {R : Type} (K : Ex → St → Option R) {K0 : Int → Bool → (List Int × Int × Int) → (List (List (Int × Int × Int × Int))) → Option R} (h0 : K0 = fun n7 t8 b9 l10 => K (.exit 0) (Zj4 n7 t8 b9 l10)) (n : Nat) (n3 : Int) (b4 : List Int × Int × Int) (l5 : List (List (Int × Int × Int × Int))) : Zbo N K0 n n3 b4 l5 = LM Zey N 0 100003 n (Zkm n3 b4 l5) K := by
  subst h0
  induction n generalizing n3 b4 l5 with
  | zero => kernel_rfl
  | succ n ih => rw [Zbo]; simp (disch := exact id (by kernel_rfl)) only [ih]; kernel_rfl
theorem Zo0 : Callable Try.prog 105 := callable_of Try.func105 (show chkFn Try.f105 = true by kernel_rfl)
theorem Zo1 (N : Nat) (c1 : List Int × Int × Int) : DN Zey N (c1, ()) = Zc2 N c1 := by
  have h : Zc2 N c1 = Zc2 N c1 := rfl
  conv at h => rhs; rw [Zc2]
  simp (disch := exact id (by kernel_rfl)) only [Zkn (R := ((List Int × Int × Int) × Unit) × ((List (List (Int × Int × Int × Int))) × Unit)) N (CF Zey N [1, 1, 0, 1, 0])] at h
  exact Eq.trans (by kernel_rfl) h.symm
theorem Zo2 (N : Nat) : Good Try.prog 105 (Zgr N) := GF Zey N Try.func105 (ctx_cons (Zan N) Zam (ctx_cons (Zoz N) Zoy ctx_nil)) (by kernel_rfl) (fun d => Zo1 N d.1)
noncomputable def Zfb (N : Nat) : Sig := Sig.of [.box (.prod (.slice (.int .u8)) (.prod (.int .i64) (.int .i64)))] [.v (.own (.int .i64)) false] (fun d => Zba N d.1)
noncomputable def Zd4 : Fn := ⟨Try.f44, fun | 3 => [.canon [0, 3, 4, 7]] | 4 => [.canon [0, 3, 4]] | 5 => [.canon [0, 3, 4]] | 100003 => [.canon [0, 3, 4]] | _ => [], Zfb, fun N => [(88, Zee N)]⟩
def Zi2 (i2 : Int) (b3 : List Int × Int × Int) (l4 : List Int) : St := ⟨[(0, vP 0 0), (3, vO 1), (4, vI i2)], [(0, .box [.val (.slice (.int .u8)) b3.1, .val (.int .i64) b3.2.1, .val (.int .i64) b3.2.2]), (1, .arr (.int .i64) l4)], 2⟩
def Ziw (i6 : Int) (t7 : Bool) (b8 : List Int × Int × Int) (l9 : List Int) : St := ⟨[(0, vP 0 0), (3, vO 1), (4, vI i6), (7, vB t7)], [(0, .box [.val (.slice (.int .u8)) b8.1, .val (.int .i64) b8.2.1, .val (.int .i64) b8.2.2]), (1, .arr (.int .i64) l9)], 2⟩
theorem Zi3 (N : Nat) {R : Type} (K : Ex → St → Option R) {K0 : Int → Bool → (List Int × Int × Int) → (List Int) → Option R} (h0 : K0 = fun i6 t7 b8 l9 => K (.exit 0) (Ziw i6 t7 b8 l9)) (n : Nat) (i2 : Int) (b3 : List Int × Int × Int) (l4 : List Int) : Zbh N K0 n i2 b3 l4 = LM Zd4 N 0 100003 n (Zi2 i2 b3 l4) K := by
  subst h0
  induction n generalizing i2 b3 l4 with
  | zero => kernel_rfl
  | succ n ih => rw [Zbh]; simp (disch := exact id (by kernel_rfl)) only [ih]; kernel_rfl
theorem Zl1 : Callable Try.prog 44 := callable_of Try.func44 (show chkFn Try.f44 = true by kernel_rfl)
theorem Zl2 (N : Nat) (c1 : List Int × Int × Int) : DN Zd4 N (c1, ()) = Zba N c1 := by
  have h : Zba N c1 = Zba N c1 := rfl
  conv at h => rhs; rw [Zba]
  simp (disch := exact id (by kernel_rfl)) only [Zi3 (R := ((List Int × Int × Int) × Unit) × ((List Int) × Unit)) N (CF Zd4 N [1, 1, 0, 1, 0])] at h
  exact Eq.trans (by kernel_rfl) h.symm
theorem Zl3 (N : Nat) : Good Try.prog 44 (Zfb N) := GF Zd4 N Try.func44 (ctx_cons (Zg7 N) Zg6 ctx_nil) (by kernel_rfl) (fun d => Zl2 N d.1)
noncomputable def Zg8 (N : Nat) : Sig := Sig.of [.box (.prod (.slice (.int .u8)) (.prod (.int .i64) (.int .i64)))] [.v (.own (.slice (.prod (.int .i64) (.prod (.int .i64) (.prod (.int .i64) (.int .i64)))))) false, .v (.own (.int .i64)) false, .v (.own (.int .i64)) false] (fun d => Zb6 N d.1)
noncomputable def Zdh : Fn := ⟨Try.f66, fun | 5 => [.canon [0, 5, 6, 7, 8, 23]] | 6 => [.canon [0, 5, 6, 7, 8]] | 7 => [.canon [0, 5, 6, 7, 8, 27]] | 8 => [.canon [0, 5, 6, 7, 8]] | 15 => [.canon [0, 5, 6, 7, 48]] | 16 => [.canon [0, 5, 6, 7]] | 100005 => [.canon [0, 5, 6, 7, 8]] | 100015 => [.canon [0, 5, 6, 7]] | _ => [], Zg8, fun N => [(105, Zgr N), (47, Z9 N), (88, Zee N), (44, Zfb N), (45, Zb0 N)]⟩
def Zl4 (i7 : Int) (b8 : List Int × Int × Int) (l9 : List (List (Int × Int × Int × Int))) (l10 : List Int) (l11 : List Int) : St := ⟨[(0, vP 0 0), (5, vO 1), (6, vO 2), (7, vO 3), (8, vI i7)], [(0, .box [.val (.slice (.int .u8)) b8.1, .val (.int .i64) b8.2.1, .val (.int .i64) b8.2.2]), (1, .arr (.slice (.prod (.int .i64) (.prod (.int .i64) (.prod (.int .i64) (.int .i64))))) l9), (2, .arr (.int .i64) l10), (3, .arr (.int .i64) l11)], 4⟩
def Zko (l9 : List (List (Int × Int × Int × Int))) (l10 : List Int) (i13 : Int) (t14 : Bool) (b15 : List Int × Int × Int) (l16 : List Int) : St := ⟨[(0, vP 0 0), (5, vO 1), (6, vO 2), (7, vO 3), (8, vI i13), (23, vB t14)], [(0, .box [.val (.slice (.int .u8)) b15.1, .val (.int .i64) b15.2.1, .val (.int .i64) b15.2.2]), (1, .arr (.slice (.prod (.int .i64) (.prod (.int .i64) (.prod (.int .i64) (.int .i64))))) l9), (2, .arr (.int .i64) l10), (3, .arr (.int .i64) l16)], 4⟩
theorem Zl5 (N : Nat) {R : Type} (K : Ex → St → Option R) {l9 : List (List (Int × Int × Int × Int))} {l10 : List Int} {K0 : Int → Bool → (List Int × Int × Int) → (List Int) → Option R} (h0 : K0 = fun i13 t14 b15 l16 => K (.exit 0) (Zko l9 l10 i13 t14 b15 l16)) (n : Nat) (i7 : Int) (b8 : List Int × Int × Int) (l11 : List Int) : Zbw N l9 l10 K0 n i7 b8 l11 = LM Zdh N 0 100005 n (Zl4 i7 b8 l9 l10 l11) K := by
  subst h0
  induction n generalizing i7 b8 l11 with
  | zero => kernel_rfl
  | succ n ih => rw [Zbw]; simp (disch := exact id (by kernel_rfl)) only [ih]; kernel_rfl
def Zl6 (b23 : List Int × Int × Int) (l24 : List (List (Int × Int × Int × Int))) (l25 : List Int) (l26 : List Int) : St := ⟨[(0, vP 0 0), (5, vO 1), (6, vO 2), (7, vO 3)], [(0, .box [.val (.slice (.int .u8)) b23.1, .val (.int .i64) b23.2.1, .val (.int .i64) b23.2.2]), (1, .arr (.slice (.prod (.int .i64) (.prod (.int .i64) (.prod (.int .i64) (.int .i64))))) l24), (2, .arr (.int .i64) l25), (3, .arr (.int .i64) l26)], 4⟩
def Zkp (l25 : List Int) (l26 : List Int) (t28 : Bool) (b29 : List Int × Int × Int) (l30 : List (List (Int × Int × Int × Int))) : St := ⟨[(0, vP 0 0), (5, vO 1), (6, vO 2), (7, vO 3), (48, vB t28)], [(0, .box [.val (.slice (.int .u8)) b29.1, .val (.int .i64) b29.2.1, .val (.int .i64) b29.2.2]), (1, .arr (.slice (.prod (.int .i64) (.prod (.int .i64) (.prod (.int .i64) (.int .i64))))) l30), (2, .arr (.int .i64) l25), (3, .arr (.int .i64) l26)], 4⟩
theorem Zl7 (N : Nat) {R : Type} (K : Ex → St → Option R) {l25 : List Int} {l26 : List Int} {K0 : Bool → (List Int × Int × Int) → (List (List (Int × Int × Int × Int))) → Option R} (h0 : K0 = fun t28 b29 l30 => K (.exit 3) (Zkp l25 l26 t28 b29 l30)) (n : Nat) (b23 : List Int × Int × Int) (l24 : List (List (Int × Int × Int × Int))) : Zbx N l25 l26 K0 n b23 l24 = LM Zdh N 1 100015 n (Zl6 b23 l24 l25 l26) K := by
  subst h0
  induction n generalizing b23 l24 with
  | zero => kernel_rfl
  | succ n ih => rw [Zbx]; simp (disch := exact id (by kernel_rfl)) only [ih]; kernel_rfl
theorem Zpq : Callable Try.prog 66 := callable_of Try.func66 (show chkFn Try.f66 = true by kernel_rfl)
theorem Zpr (N : Nat) (c1 : List Int × Int × Int) : DN Zdh N (c1, ()) = Zb6 N c1 := by
  have h : Zb6 N c1 = Zb6 N c1 := rfl
  conv at h => rhs; rw [Zb6]
  simp (disch := exact id (by kernel_rfl)) only [Zl5 (R := ((List Int × Int × Int) × Unit) × ((List (List (Int × Int × Int × Int))) × ((List Int) × ((List Int) × Unit)))) N (CF Zdh N [1, 1, 1, 1, 0, 1, 0]), Zl7 (R := ((List Int × Int × Int) × Unit) × ((List (List (Int × Int × Int × Int))) × ((List Int) × ((List Int) × Unit)))) N (CF Zdh N [1, 1, 1, 1, 1, 0, 1, 0, 1, 1, 1, 1, 1, 0, 0])] at h
  exact Eq.trans (by kernel_rfl) h.symm
theorem Zps (N : Nat) : Good Try.prog 66 (Zg8 N) := GF Zdh N Try.func66 (ctx_cons (Zo2 N) Zo0 (ctx_cons (Zan N) Zam (ctx_cons (Zg7 N) Zg6 (ctx_cons (Zl3 N) Zl1 (ctx_cons (Zdg N) Zdf ctx_nil))))) (by kernel_rfl) (fun d => Zpr N d.1)
noncomputable def Zfc (N : Nat) : Sig := Sig.of [.v (.slice (.int .u8)) false] [.v (.own (.slice (.prod (.int .i64) (.prod (.int .i64) (.prod (.int .i64) (.int .i64)))))) false, .v (.own (.int .i64)) false, .v (.own (.int .i64)) false] (fun d => Zeo N d.1)
noncomputable def Zl8 : Fn := ⟨Try.f28, noAnn, Zfc, fun N => [(33, Zhv N), (66, Zg8 N)]⟩
theorem Zl9 : Callable Try.prog 28 := callable_of Try.func28 (show chkFn Try.f28 = true by kernel_rfl)
theorem Zma (N : Nat) : Good Try.prog 28 (Zfc N) := GF Zl8 N Try.func28 (ctx_cons (Zqu N) Zqs (ctx_cons (Zps N) Zpq ctx_nil)) (by kernel_rfl) (fun d => by kernel_rfl)
noncomputable def Zb1 (N : Nat) : Sig := Sig.of [.v (.int .i64) false, .v (.int .i64) false, .v (.int .i64) false] [.v (.bool) false] (fun d => Zax N d.1 d.2.1 d.2.2.1)
noncomputable def Zpt : Fn := ⟨Try.f82, noAnn, Zb1, noCtx⟩
theorem Zdi : Callable Try.prog 82 := callable_of Try.func82 (show chkFn Try.f82 = true by kernel_rfl)
theorem Zdj (N : Nat) : Good Try.prog 82 (Zb1 N) := GF Zpt N Try.func82 ctx_nil (by kernel_rfl) (fun d => by kernel_rfl)
noncomputable def Zd1 (N : Nat) : Sig := Sig.of [.v (.int .i64) false] [.v (.bool) false] (fun d => Zc1 N d.1)
noncomputable def Zo3 : Fn := ⟨Try.f91, noAnn, Zd1, fun N => [(82, Zb1 N)]⟩
theorem Zgs : Callable Try.prog 91 := callable_of Try.func91 (show chkFn Try.f91 = true by kernel_rfl)
theorem Zgt (N : Nat) : Good Try.prog 91 (Zd1 N) := GF Zo3 N Try.func91 (ctx_cons (Zdj N) Zdi ctx_nil) (by kernel_rfl) (fun d => by kernel_rfl)
noncomputable def Zbq (N : Nat) : Sig := Sig.of [.v (.slice (.int .i64)) false, .v (.int .i64) false] [.v (.bool) false] (fun d => Zv N d.1 d.2.1)
noncomputable def Zef : Fn := ⟨Try.f48, fun | 2 => [.canon [0, 1, 7, 8, 9, 10]] | 3 => [.canon [0, 1, 6, 7, 8, 9]] | 4 => [.canon [0, 1, 7, 8, 9, 15]] | 5 => [.canon [4]] | 6 => [.canon [0, 1, 7, 8, 9]] | 100002 => [.canon [0, 1, 7, 8, 9]] | _ => [], Zbq, fun N => [(91, Zd1 N)]⟩
def Zjp (l3 : List Int) (n4 : Int) (t7 : Int) : St := ⟨[(0, vV (.slice (.int .i64)) l3), (1, vI n4), (7, vV (.slice (.int .i64)) l3), (8, vI (ilen l3)), (9, vI t7)], [], 0⟩
def Zi4 (l3 : List Int) (n4 : Int) : St := ⟨[(4, vB false)], [], 0⟩
def Zi5 (l3 : List Int) (n4 : Int) (t10 : Int) (t11 : Bool) : St := ⟨[(0, vV (.slice (.int .i64)) l3), (1, vI n4), (7, vV (.slice (.int .i64)) l3), (8, vI (ilen l3)), (9, vI t10), (10, vB t11)], [], 0⟩
theorem Zjq (N : Nat) {R : Type} (K : Ex → St → Option R) {l3 : List Int} {n4 : Int} {K0 : Option R} {K1 : Int → Bool → Option R} (h0 : K0 = K .ret (Zi4 l3 n4)) (h1 : K1 = fun t10 t11 => K (.exit 0) (Zi5 l3 n4 t10 t11)) (n : Nat) (t7 : Int) : Zad N l3 n4 K0 K1 n t7 = LM Zef N 0 100002 n (Zjp l3 n4 t7) K := by
  subst h0 h1
  induction n generalizing t7 with
  | zero => kernel_rfl
  | succ n ih => rw [Zad]; simp (disch := exact id (by kernel_rfl)) only [ih]; kernel_rfl
theorem Zdc : Callable Try.prog 48 := callable_of Try.func48 (show chkFn Try.f48 = true by kernel_rfl)
theorem Zno (N : Nat) (l1 : List Int) (n2 : Int) : DN Zef N (l1, n2, ()) = Zv N l1 n2 := by
  have h : Zv N l1 n2 = Zv N l1 n2 := rfl
  conv at h => rhs; rw [Zv]
  simp (disch := exact id (by kernel_rfl)) only [Zjq (R := Unit × (Bool × Unit)) N (CF Zef N [1, 0, 1, 0])] at h
  exact Eq.trans (by kernel_rfl) h.symm
theorem Zdd (N : Nat) : Good Try.prog 48 (Zbq N) := GF Zef N Try.func48 (ctx_cons (Zgt N) Zgs ctx_nil) (by kernel_rfl) (fun d => Zno N d.1 d.2.1)
noncomputable def Zhw (N : Nat) : Sig := Sig.of [.v (.int .i64) false] [.v (.bool) false] (fun d => Zb N d.1)
noncomputable def Zqx : Fn := ⟨Try.f148, noAnn, Zhw, fun N => [(82, Zb1 N)]⟩
theorem Zqy : Callable Try.prog 148 := callable_of Try.func148 (show chkFn Try.f148 = true by kernel_rfl)
theorem Zqz (N : Nat) : Good Try.prog 148 (Zhw N) := GF Zqx N Try.func148 (ctx_cons (Zdj N) Zdi ctx_nil) (by kernel_rfl) (fun d => by kernel_rfl)
noncomputable def Zfh (N : Nat) : Sig := Sig.of [.v (.int .i64) false] [.v (.bool) false] (fun d => Zaz N d.1)
noncomputable def Zpu : Fn := ⟨Try.f118, noAnn, Zfh, fun N => [(82, Zb1 N)]⟩
theorem Zjf : Callable Try.prog 118 := callable_of Try.func118 (show chkFn Try.f118 = true by kernel_rfl)
theorem Zjg (N : Nat) : Good Try.prog 118 (Zfh N) := GF Zpu N Try.func118 (ctx_cons (Zdj N) Zdi ctx_nil) (by kernel_rfl) (fun d => by kernel_rfl)
noncomputable def Zhx (N : Nat) : Sig := Sig.of [.v (.int .i64) false] [.v (.bool) false] (fun d => Zd N d.1)
noncomputable def Zq0 : Fn := ⟨Try.f149, noAnn, Zhx, fun N => [(82, Zb1 N)]⟩
theorem Zq1 : Callable Try.prog 149 := callable_of Try.func149 (show chkFn Try.f149 = true by kernel_rfl)
theorem Zq2 (N : Nat) : Good Try.prog 149 (Zhx N) := GF Zq0 N Try.func149 (ctx_cons (Zdj N) Zdi ctx_nil) (by kernel_rfl) (fun d => by kernel_rfl)
noncomputable def Ze6 (N : Nat) : Sig := Sig.of [.v (.prod (.int .i64) (.prod (.int .i64) (.prod (.int .i64) (.int .i64)))) true] [.v (.bool) false] (fun d => Zq N d.1)
noncomputable def Zrk : Fn := ⟨Try.f126, noAnn, Ze6, fun N => [(148, Zhw N), (91, Zd1 N), (118, Zfh N), (82, Zb1 N), (149, Zhx N)]⟩
theorem Zii : Callable Try.prog 126 := callable_of Try.func126 (show chkFn Try.f126 = true by kernel_rfl)
theorem Zij (N : Nat) : Good Try.prog 126 (Ze6 N) := GF Zrk N Try.func126 (ctx_cons (Zqz N) Zqy (ctx_cons (Zgt N) Zgs (ctx_cons (Zjg N) Zjf (ctx_cons (Zdj N) Zdi (ctx_cons (Zq2 N) Zq1 ctx_nil))))) (by kernel_rfl) (fun d => by kernel_rfl)
noncomputable def Zgu (N : Nat) : Sig := Sig.of [.v (.prod (.int .i64) (.prod (.int .i64) (.prod (.int .i64) (.int .i64)))) true] [.v (.int .i64) false] (fun d => Zes N d.1)
noncomputable def Zo4 : Fn := ⟨Try.f121, noAnn, Zgu, fun N => [(126, Ze6 N)]⟩
theorem Zo5 : Callable Try.prog 121 := callable_of Try.func121 (show chkFn Try.f121 = true by kernel_rfl)
theorem Zo6 (N : Nat) : Good Try.prog 121 (Zgu N) := GF Zo4 N Try.func121 (ctx_cons (Zij N) Zii ctx_nil) (by kernel_rfl) (fun d => by kernel_rfl)
noncomputable def Zeu (N : Nat) : Sig := Sig.of [.v (.prod (.int .i64) (.prod (.int .i64) (.prod (.int .i64) (.int .i64)))) true] [.v (.int .i64) false] (fun d => Zet N d.1)
noncomputable def Zq3 : Fn := ⟨Try.f125, noAnn, Zeu, noCtx⟩
theorem Zhy : Callable Try.prog 125 := callable_of Try.func125 (show chkFn Try.f125 = true by kernel_rfl)
theorem Zhz (N : Nat) : Good Try.prog 125 (Zeu N) := GF Zq3 N Try.func125 ctx_nil (by kernel_rfl) (fun d => by kernel_rfl)
noncomputable def Zfd (N : Nat) : Sig := Sig.of [.v (.slice (.prod (.int .i64) (.prod (.int .i64) (.prod (.int .i64) (.int .i64))))) false] [.v (.bool) false] (fun d => Zav N d.1)
noncomputable def Zd5 : Fn := ⟨Try.f145, fun | 3 => [.canon [3, 6, 7, 8, 9]] | 4 => [.canon [3, 5, 6, 7, 8]] | 5 => [.canon [3, 6, 7, 8]] | 6 => [.canon [3, 6, 7, 8, 17]] | 7 => [.canon [2]] | 8 => [.canon [3, 6, 7, 8]] | 100003 => [.canon [3, 6, 7, 8]] | _ => [], Zfd, fun N => [(125, Zeu N)]⟩
def Zi6 (n2 : Int) (t3 : List (Int × Int × Int × Int)) (t5 : Int) : St := ⟨[(3, vI n2), (6, vV (.slice (.prod (.int .i64) (.prod (.int .i64) (.prod (.int .i64) (.int .i64))))) t3), (7, vI (ilen t3)), (8, vI t5)], [], 0⟩
def Zix (t3 : List (Int × Int × Int × Int)) : St := ⟨[(2, vB false)], [], 0⟩
def Ziy (t3 : List (Int × Int × Int × Int)) (n8 : Int) (t9 : Int) (t10 : Bool) : St := ⟨[(3, vI n8), (6, vV (.slice (.prod (.int .i64) (.prod (.int .i64) (.prod (.int .i64) (.int .i64))))) t3), (7, vI (ilen t3)), (8, vI t9), (9, vB t10)], [], 0⟩
theorem Zi7 (N : Nat) {R : Type} (K : Ex → St → Option R) {t3 : List (Int × Int × Int × Int)} {K0 : Option R} {K1 : Int → Int → Bool → Option R} (h0 : K0 = K .ret (Zix t3)) (h1 : K1 = fun n8 t9 t10 => K (.exit 0) (Ziy t3 n8 t9 t10)) (n : Nat) (n2 : Int) (t5 : Int) : Za1 N t3 K0 K1 n n2 t5 = LM Zd5 N 0 100003 n (Zi6 n2 t3 t5) K := by
  subst h0 h1
  induction n generalizing n2 t5 with
  | zero => kernel_rfl
  | succ n ih => rw [Za1]; simp (disch := exact id (by kernel_rfl)) only [ih]; kernel_rfl
theorem Zmb : Callable Try.prog 145 := callable_of Try.func145 (show chkFn Try.f145 = true by kernel_rfl)
theorem Zmc (N : Nat) (code1 : List (Int × Int × Int × Int)) : DN Zd5 N (code1, ()) = Zav N code1 := by
  have h : Zav N code1 = Zav N code1 := rfl
  conv at h => rhs; rw [Zav]
  simp (disch := exact id (by kernel_rfl)) only [Zi7 (R := Unit × (Bool × Unit)) N (CF Zd5 N [1, 1, 0, 1, 0])] at h
  exact Eq.trans (by kernel_rfl) h.symm
theorem Zmd (N : Nat) : Good Try.prog 145 (Zfd N) := GF Zd5 N Try.func145 (ctx_cons (Zhz N) Zhy ctx_nil) (by kernel_rfl) (fun d => Zmc N d.1)
noncomputable def Zgv (N : Nat) : Sig := Sig.of [.v (.slice (.prod (.int .i64) (.prod (.int .i64) (.prod (.int .i64) (.int .i64))))) false, .v (.int .i64) false] [.v (.int .i64) false] (fun d => Zcd N d.1 d.2.1)
noncomputable def Zez : Fn := ⟨Try.f146, fun | 3 => [.canon [1, 5, 8, 9, 10, 11]] | 4 => [.canon [1, 5, 6, 7, 8, 9, 10]] | 5 => [.canon [1, 5, 7, 8, 9, 10, 17]] | 6 => [.canon [1, 5, 8, 9, 10]] | 7 => [.canon [1, 5, 8, 9, 10]] | 100003 => [.canon [1, 5, 8, 9, 10]] | _ => [], Zgv, fun N => [(125, Zeu N)]⟩
def Zkq (i3 : Int) (n4 : Int) (t5 : List (Int × Int × Int × Int)) (t7 : Int) : St := ⟨[(1, vI i3), (5, vI n4), (8, vV (.slice (.prod (.int .i64) (.prod (.int .i64) (.prod (.int .i64) (.int .i64))))) t5), (9, vI (ilen t5)), (10, vI t7)], [], 0⟩
def Zj5 (i3 : Int) (t5 : List (Int × Int × Int × Int)) (n10 : Int) (t11 : Int) (t12 : Bool) : St := ⟨[(1, vI i3), (5, vI n10), (8, vV (.slice (.prod (.int .i64) (.prod (.int .i64) (.prod (.int .i64) (.int .i64))))) t5), (9, vI (ilen t5)), (10, vI t11), (11, vB t12)], [], 0⟩
theorem Zkr (N : Nat) {R : Type} (K : Ex → St → Option R) {i3 : Int} {t5 : List (Int × Int × Int × Int)} {K0 : Int → Int → Bool → Option R} (h0 : K0 = fun n10 t11 t12 => K (.exit 0) (Zj5 i3 t5 n10 t11 t12)) (n : Nat) (n4 : Int) (t7 : Int) : Za2 N i3 t5 K0 n n4 t7 = LM Zez N 0 100003 n (Zkq i3 n4 t5 t7) K := by
  subst h0
  induction n generalizing n4 t7 with
  | zero => kernel_rfl
  | succ n ih => rw [Za2]; simp (disch := exact id (by kernel_rfl)) only [ih]; kernel_rfl
theorem Zo7 : Callable Try.prog 146 := callable_of Try.func146 (show chkFn Try.f146 = true by kernel_rfl)
theorem Zo8 (N : Nat) (code1 : List (Int × Int × Int × Int)) (i2 : Int) : DN Zez N (code1, i2, ()) = Zcd N code1 i2 := by
  have h : Zcd N code1 i2 = Zcd N code1 i2 := rfl
  conv at h => rhs; rw [Zcd]
  simp (disch := exact id (by kernel_rfl)) only [Zkr (R := Unit × (Int × Unit)) N (CF Zez N [1, 1, 0, 1, 0])] at h
  exact Eq.trans (by kernel_rfl) h.symm
theorem Zo9 (N : Nat) : Good Try.prog 146 (Zgv N) := GF Zez N Try.func146 (ctx_cons (Zhz N) Zhy ctx_nil) (by kernel_rfl) (fun d => Zo8 N d.1 d.2.1)
noncomputable def Zg9 (N : Nat) : Sig := Sig.of [.v (.slice (.prod (.int .i64) (.prod (.int .i64) (.prod (.int .i64) (.int .i64))))) false] [.v (.bool) false] (fun d => Zb5 N d.1)
noncomputable def Zfi : Fn := ⟨Try.f122, fun | 5 => [.canon [0, 3, 14, 15, 16, 17]] | 6 => [.canon [0, 3, 4, 5, 14, 15, 16]] | 7 => [.canon [0, 3, 4, 5, 14, 15, 16, 23]] | 8 => [.canon [2]] | 9 => [.canon [0, 3, 4, 5, 14, 15, 16, 25]] | 10 => [.canon [0, 3, 4, 5, 14, 15, 16, 25, 26]] | 11 => [.canon [0, 3, 14, 15, 16, 48]] | 12 => [.canon [2]] | 13 => [.canon [0, 3, 4, 14, 15, 16, 49]] | 14 => [.canon [0, 3, 4, 14, 15, 16]] | 15 => [.canon [0, 3, 14, 15, 16, 60]] | 16 => [.canon [2]] | 17 => [.canon [0, 3, 14, 15, 16]] | 100005 => [.canon [0, 3, 14, 15, 16]] | _ => [], Zg9, fun N => [(145, Zfd N), (126, Ze6 N), (146, Zgv N)]⟩
def Zme (code3 : List (Int × Int × Int × Int)) (forks4 : Int) (t7 : Int) : St := ⟨[(0, vV (.slice (.prod (.int .i64) (.prod (.int .i64) (.prod (.int .i64) (.int .i64))))) code3), (3, vI forks4), (14, vV (.slice (.prod (.int .i64) (.prod (.int .i64) (.prod (.int .i64) (.int .i64))))) code3), (15, vI (ilen code3)), (16, vI t7)], [], 0⟩
def Zks (code3 : List (Int × Int × Int × Int)) : St := ⟨[(2, vB false)], [], 0⟩
def Zkt (code3 : List (Int × Int × Int × Int)) (forks14 : Int) (t15 : Int) (t16 : Bool) : St := ⟨[(0, vV (.slice (.prod (.int .i64) (.prod (.int .i64) (.prod (.int .i64) (.int .i64))))) code3), (3, vI forks14), (14, vV (.slice (.prod (.int .i64) (.prod (.int .i64) (.prod (.int .i64) (.int .i64))))) code3), (15, vI (ilen code3)), (16, vI t15), (17, vB t16)], [], 0⟩
theorem Zmf (N : Nat) {R : Type} (K : Ex → St → Option R) {code3 : List (Int × Int × Int × Int)} {K0 : Option R} {K1 : Int → Int → Bool → Option R} (h0 : K0 = K .ret (Zks code3)) (h1 : K1 = fun forks14 t15 t16 => K (.exit 0) (Zkt code3 forks14 t15 t16)) (n : Nat) (forks4 : Int) (t7 : Int) : Zaw N code3 K0 K1 n forks4 t7 = LM Zfi N 0 100005 n (Zme code3 forks4 t7) K := by
  subst h0 h1
  induction n generalizing forks4 t7 with
  | zero => kernel_rfl
  | succ n ih => rw [Zaw]; simp (disch := exact id (by kernel_rfl)) only [ih]; kernel_rfl
theorem Zpv : Callable Try.prog 122 := callable_of Try.func122 (show chkFn Try.f122 = true by kernel_rfl)
theorem Zpw (N : Nat) (code1 : List (Int × Int × Int × Int)) : DN Zfi N (code1, ()) = Zb5 N code1 := by
  have h : Zb5 N code1 = Zb5 N code1 := rfl
  conv at h => rhs; rw [Zb5]
  simp (disch := exact id (by kernel_rfl)) only [Zmf (R := Unit × (Bool × Unit)) N (CF Zfi N [1, 1, 1, 0, 1, 0])] at h
  exact Eq.trans (by kernel_rfl) h.symm
theorem Zpx (N : Nat) : Good Try.prog 122 (Zg9 N) := GF Zfi N Try.func122 (ctx_cons (Zmd N) Zmb (ctx_cons (Zij N) Zii (ctx_cons (Zo9 N) Zo7 ctx_nil))) (by kernel_rfl) (fun d => Zpw N d.1)
noncomputable def Zev (N : Nat) : Sig := Sig.of [.v (.slice (.prod (.int .i64) (.prod (.int .i64) (.prod (.int .i64) (.int .i64))))) false] [.v (.bool) false] (fun d => Zb4 N d.1)
noncomputable def Zf4 : Fn := ⟨Try.f97, fun | 2 => [.canon [0, 5, 6, 7, 8]] | 3 => [.canon [0, 4, 5, 6, 7]] | 4 => [.canon [0, 5, 6, 7, 18]] | 5 => [.canon [2]] | 6 => [.canon [0, 5, 6, 7]] | 100002 => [.canon [0, 5, 6, 7]] | _ => [], Zev, fun N => [(121, Zgu N), (122, Zg9 N)]⟩
def Znp (code2 : List (Int × Int × Int × Int)) (t5 : Int) : St := ⟨[(0, vV (.slice (.prod (.int .i64) (.prod (.int .i64) (.prod (.int .i64) (.int .i64))))) code2), (5, vV (.slice (.prod (.int .i64) (.prod (.int .i64) (.prod (.int .i64) (.int .i64))))) code2), (6, vI (ilen code2)), (7, vI t5)], [], 0⟩
def Zmg (code2 : List (Int × Int × Int × Int)) : St := ⟨[(2, vB false)], [], 0⟩
def Zmh (code2 : List (Int × Int × Int × Int)) (t8 : Int) (t9 : Bool) : St := ⟨[(0, vV (.slice (.prod (.int .i64) (.prod (.int .i64) (.prod (.int .i64) (.int .i64))))) code2), (5, vV (.slice (.prod (.int .i64) (.prod (.int .i64) (.prod (.int .i64) (.int .i64))))) code2), (6, vI (ilen code2)), (7, vI t8), (8, vB t9)], [], 0⟩
theorem Znq (N : Nat) {R : Type} (K : Ex → St → Option R) {code2 : List (Int × Int × Int × Int)} {K0 : Option R} {K1 : Int → Bool → Option R} (h0 : K0 = K .ret (Zmg code2)) (h1 : K1 = fun t8 t9 => K (.exit 0) (Zmh code2 t8 t9)) (n : Nat) (t5 : Int) : Zb8 N code2 K0 K1 n t5 = LM Zf4 N 0 100002 n (Znp code2 t5) K := by
  subst h0 h1
  induction n generalizing t5 with
  | zero => kernel_rfl
  | succ n ih => rw [Zb8]; simp (disch := exact id (by kernel_rfl)) only [ih]; kernel_rfl
theorem Zh0 : Callable Try.prog 97 := callable_of Try.func97 (show chkFn Try.f97 = true by kernel_rfl)
theorem Zq4 (N : Nat) (code1 : List (Int × Int × Int × Int)) : DN Zf4 N (code1, ()) = Zb4 N code1 := by
  have h : Zb4 N code1 = Zb4 N code1 := rfl
  conv at h => rhs; rw [Zb4]
  simp (disch := exact id (by kernel_rfl)) only [Znq (R := Unit × (Bool × Unit)) N (CF Zf4 N [1, 0, 1, 0])] at h
  exact Eq.trans (by kernel_rfl) h.symm
theorem Zh1 (N : Nat) : Good Try.prog 97 (Zev N) := GF Zf4 N Try.func97 (ctx_cons (Zo6 N) Zo5 (ctx_cons (Zpx N) Zpv ctx_nil)) (by kernel_rfl) (fun d => Zq4 N d.1)
noncomputable def Zga (N : Nat) : Sig := Sig.of [.v (.slice (.prod (.int .i64) (.prod (.int .i64) (.prod (.int .i64) (.int .i64))))) true] [.v (.bool) false] (fun d => Zg4 N d.1)
noncomputable def Zoc : Fn := ⟨Try.f107, noAnn, Zga, fun N => [(97, Zev N)]⟩
theorem Zod : Callable Try.prog 107 := callable_of Try.func107 (show chkFn Try.f107 = true by kernel_rfl)
theorem Zoe (N : Nat) : Good Try.prog 107 (Zga N) := GF Zoc N Try.func107 (ctx_cons (Zh1 N) Zh0 ctx_nil) (by kernel_rfl) (fun d => by kernel_rfl)
noncomputable def Zaa (N : Nat) : Sig := Sig.of [.v (.slice (.slice (.prod (.int .i64) (.prod (.int .i64) (.prod (.int .i64) (.int .i64)))))) false, .clos 107 0] [.v (.int .i64) false] (fun d => Zo N d.1)
noncomputable def Z1 : Fn := ⟨Try.f139, fun | 2 => [.canon [0, 1, 7, 8, 9]] | 3 => [.canon [0, 1, 5, 7, 8]] | 4 => [.canon [0, 1, 5, 7, 8, 16]] | 5 => [.canon [1, 4]] | 6 => [.canon [0, 1, 7, 8]] | 100002 => [.canon [0, 1, 7, 8]] | _ => [], Zaa, fun N => [(107, Zga N)]⟩
def Zcn (s2 : List (List (Int × Int × Int × Int))) (t4 : Int) : St := ⟨[(0, vV (.slice (.slice (.prod (.int .i64) (.prod (.int .i64) (.prod (.int .i64) (.int .i64)))))) s2), (1, .s (.one (.clos 107 []))), (7, vI (ilen s2)), (8, vI t4)], [], 0⟩
def Zcj (s2 : List (List (Int × Int × Int × Int))) (t7 : Int) : St := ⟨[(1, .s (.one (.clos 107 []))), (4, vI t7)], [], 0⟩
def Zck (s2 : List (List (Int × Int × Int × Int))) (t8 : Int) (t9 : Bool) : St := ⟨[(0, vV (.slice (.slice (.prod (.int .i64) (.prod (.int .i64) (.prod (.int .i64) (.int .i64)))))) s2), (1, .s (.one (.clos 107 []))), (7, vI (ilen s2)), (8, vI t8), (9, vB t9)], [], 0⟩
theorem Zco (N : Nat) {R : Type} (K : Ex → St → Option R) {s2 : List (List (Int × Int × Int × Int))} {K0 : Int → Option R} {K1 : Int → Bool → Option R} (h0 : K0 = fun t7 => K .ret (Zcj s2 t7)) (h1 : K1 = fun t8 t9 => K (.exit 0) (Zck s2 t8 t9)) (n : Nat) (t4 : Int) : Zm N s2 K0 K1 n t4 = LM Z1 N 0 100002 n (Zcn s2 t4) K := by
  subst h0 h1
  induction n generalizing t4 with
  | zero => kernel_rfl
  | succ n ih => rw [Zm]; simp (disch := exact id (by kernel_rfl)) only [ih]; kernel_rfl
theorem Zc5 : Callable Try.prog 139 := callable_of Try.func139 (show chkFn Try.f139 = true by kernel_rfl)
theorem Zc6 (N : Nat) (s1 : List (List (Int × Int × Int × Int))) : DN Z1 N (s1, ()) = Zo N s1 := by
  have h : Zo N s1 = Zo N s1 := rfl
  conv at h => rhs; rw [Zo]
  simp (disch := exact id (by kernel_rfl)) only [Zco (R := Unit × (Int × Unit)) N (CF Z1 N [1, 0, 1, 0])] at h
  exact Eq.trans (by kernel_rfl) h.symm
theorem Zc7 (N : Nat) : Good Try.prog 139 (Zaa N) := GF Z1 N Try.func139 (ctx_cons (Zoe N) Zod ctx_nil) (by kernel_rfl) (fun d => Zc6 N d.1)
noncomputable def Z7 (N : Nat) : Sig := Sig.of [.v (.slice (.slice (.prod (.int .i64) (.prod (.int .i64) (.prod (.int .i64) (.int .i64)))))) false, .clos 107 0] [.v (.bool) false] (fun d => Zz N d.1)
noncomputable def Zcs : Fn := ⟨Try.f106, noAnn, Z7, fun N => [(139, Zaa N)]⟩
theorem Zct : Callable Try.prog 106 := callable_of Try.func106 (show chkFn Try.f106 = true by kernel_rfl)
theorem Zcu (N : Nat) : Good Try.prog 106 (Z7 N) := GF Zcs N Try.func106 (ctx_cons (Zc7 N) Zc5 ctx_nil) (by kernel_rfl) (fun d => by kernel_rfl)
noncomputable def Zha (N : Nat) : Sig := Sig.of [.v (.slice (.slice (.prod (.int .i64) (.prod (.int .i64) (.prod (.int .i64) (.int .i64)))))) false, .v (.slice (.int .i64)) false, .v (.slice (.int .i64)) false] [.v (.bool) false] (fun d => Ze5 N d.1 d.2.1 d.2.2.1)
noncomputable def Zpy : Fn := ⟨Try.f67, noAnn, Zha, fun N => [(48, Zbq N), (106, Z7 N)]⟩
theorem Zpz : Callable Try.prog 67 := callable_of Try.func67 (show chkFn Try.f67 = true by kernel_rfl)
theorem Zp0 (N : Nat) : Good Try.prog 67 (Zha N) := GF Zpy N Try.func67 (ctx_cons (Zdd N) Zdc (ctx_cons (Zcu N) Zct ctx_nil)) (by kernel_rfl) (fun d => by kernel_rfl)
noncomputable def Zar (N : Nat) : Sig := Sig.of [.v (.slice (.int .i64)) false] [.v (.own (.int .i64)) false] (fun d => Zl N d.1)
noncomputable def Zof : Fn := ⟨Try.f49, noAnn, Zar, noCtx⟩
theorem Zbc : Callable Try.prog 49 := callable_of Try.func49 (show chkFn Try.f49 = true by kernel_rfl)
theorem Zbd (N : Nat) : Good Try.prog 49 (Zar N) := GF Zof N Try.func49 ctx_nil (by kernel_rfl) (fun d => by kernel_rfl)
noncomputable def Zfe (N : Nat) : Sig := Sig.of [.v (.prod (.slice (.int .i64)) (.prod (.slice (.int .i64)) (.int .i64))) true] [.v (.prod (.own (.int .i64)) (.prod (.own (.int .i64)) (.int .i64))) true] (fun d => Zab N d.1)
noncomputable def Zmi : Fn := ⟨Try.f140, noAnn, Zfe, fun N => [(49, Zar N)]⟩
theorem Zmj : Callable Try.prog 140 := callable_of Try.func140 (show chkFn Try.f140 = true by kernel_rfl)
theorem Zmk (N : Nat) : Good Try.prog 140 (Zfe N) := GF Zmi N Try.func140 (ctx_cons (Zbd N) Zbc ctx_nil) (by kernel_rfl) (fun d => by kernel_rfl)
noncomputable def Zgl (N : Nat) : Sig := Sig.of [.v (.prod (.int .i64) (.prod (.int .i64) (.prod (.int .i64) (.int .i64)))) true, .v (.slice (.int .i64)) false] [.v (.own (.int .i64)) false, .v (.bool) false] (fun d => Zdw N d.1 d.2.1)
noncomputable def Zrl : Fn := ⟨Try.f102, noAnn, Zgl, fun N => [(49, Zar N), (126, Ze6 N), (48, Zbq N)]⟩
theorem Zlw : Callable Try.prog 102 := callable_of Try.func102 (show chkFn Try.f102 = true by kernel_rfl)
theorem Zlx (N : Nat) : Good Try.prog 102 (Zgl N) := GF Zrl N Try.func102 (ctx_cons (Zbd N) Zbc (ctx_cons (Zij N) Zii (ctx_cons (Zdd N) Zdc ctx_nil))) (by kernel_rfl) (fun d => by kernel_rfl)
noncomputable def Zf5 (N : Nat) : Sig := Sig.of [.v (.slice (.prod (.int .i64) (.prod (.int .i64) (.prod (.int .i64) (.int .i64))))) false, .v (.int .i64) false] [.v (.int .i64) false] (fun d => Za6 N d.1 d.2.1)
noncomputable def Zf6 : Fn := ⟨Try.f101, fun | 5 => [.canon [0, 5, 6, 25]] | 6 => [.canon [0, 5, 6]] | 7 => [.canon [0, 5, 6]] | 8 => [.canon [0, 5, 6, 36]] | 9 => [.canon [4]] | 100005 => [.canon [0, 5, 6]] | _ => [], Zf5, fun N => [(82, Zb1 N), (125, Zeu N)]⟩
def Znr (code4 : List (Int × Int × Int × Int)) (n5 : Int) (k6 : Int) : St := ⟨[(0, vV (.slice (.prod (.int .i64) (.prod (.int .i64) (.prod (.int .i64) (.int .i64))))) code4), (5, vI n5), (6, vI k6)], [], 0⟩
def Zml (code4 : List (Int × Int × Int × Int)) (t8 : Int) : St := ⟨[(4, vI t8)], [], 0⟩
def Zmm (code4 : List (Int × Int × Int × Int)) (n9 : Int) (k10 : Int) (t11 : Bool) : St := ⟨[(0, vV (.slice (.prod (.int .i64) (.prod (.int .i64) (.prod (.int .i64) (.int .i64))))) code4), (5, vI n9), (6, vI k10), (25, vB t11)], [], 0⟩
theorem Zns (N : Nat) {R : Type} (K : Ex → St → Option R) {code4 : List (Int × Int × Int × Int)} {K0 : Int → Option R} {K1 : Int → Int → Bool → Option R} (h0 : K0 = fun t8 => K .ret (Zml code4 t8)) (h1 : K1 = fun n9 k10 t11 => K (.exit 0) (Zmm code4 n9 k10 t11)) (n : Nat) (n5 : Int) (k6 : Int) : Zb9 N code4 K0 K1 n n5 k6 = LM Zf6 N 0 100005 n (Znr code4 n5 k6) K := by
  subst h0 h1
  induction n generalizing n5 k6 with
  | zero => kernel_rfl
  | succ n ih => rw [Zb9]; simp (disch := exact id (by kernel_rfl)) only [ih]; kernel_rfl
theorem Zj6 : Callable Try.prog 101 := callable_of Try.func101 (show chkFn Try.f101 = true by kernel_rfl)
theorem Zq5 (N : Nat) (code1 : List (Int × Int × Int × Int)) (i2 : Int) : DN Zf6 N (code1, i2, ()) = Za6 N code1 i2 := by
  have h : Za6 N code1 i2 = Za6 N code1 i2 := rfl
  conv at h => rhs; rw [Za6]
  simp (disch := exact id (by kernel_rfl)) only [Zns (R := Unit × (Int × Unit)) N (CF Zf6 N [1, 1, 1, 0, 1, 0])] at h
  exact Eq.trans (by kernel_rfl) h.symm
theorem Zj7 (N : Nat) : Good Try.prog 101 (Zf5 N) := GF Zf6 N Try.func101 (ctx_cons (Zdj N) Zdi (ctx_cons (Zhz N) Zhy ctx_nil)) (by kernel_rfl) (fun d => Zq5 N d.1 d.2.1)
noncomputable def Zde (N : Nat) : Sig := Sig.of [.v (.slice (.int .i64)) false, .v (.int .i64) false] [.v (.int .i64) false] (fun d => Zau N d.1 d.2.1)
noncomputable def Zb2 : Fn := ⟨Try.f162, fun | 2 => [.canon [0, 1, 7, 8, 9]] | 3 => [.canon [0, 1, 5, 7, 8]] | 4 => [.canon [0, 1, 5, 7, 8, 16]] | 5 => [.canon [4]] | 6 => [.canon [0, 1, 7, 8]] | 100002 => [.canon [0, 1, 7, 8]] | _ => [], Zde, noCtx⟩
def Zg1 (s3 : List Int) (v4 : Int) (t6 : Int) : St := ⟨[(0, vV (.slice (.int .i64)) s3), (1, vI v4), (7, vI (ilen s3)), (8, vI t6)], [], 0⟩
def Zgw (s3 : List Int) (v4 : Int) (t7 : Int) : St := ⟨[(4, vI t7)], [], 0⟩
def Zgx (s3 : List Int) (v4 : Int) (t8 : Int) (t9 : Bool) : St := ⟨[(0, vV (.slice (.int .i64)) s3), (1, vI v4), (7, vI (ilen s3)), (8, vI t8), (9, vB t9)], [], 0⟩
theorem Zg2 (N : Nat) {R : Type} (K : Ex → St → Option R) {s3 : List Int} {v4 : Int} {K0 : Int → Option R} {K1 : Int → Bool → Option R} (h0 : K0 = fun t7 => K .ret (Zgw s3 v4 t7)) (h1 : K1 = fun t8 t9 => K (.exit 0) (Zgx s3 v4 t8 t9)) (n : Nat) (t6 : Int) : Zbi N s3 v4 K0 K1 n t6 = LM Zb2 N 0 100002 n (Zg1 s3 v4 t6) K := by
  subst h0 h1
  induction n generalizing t6 with
  | zero => kernel_rfl
  | succ n ih => rw [Zbi]; simp (disch := exact id (by kernel_rfl)) only [ih]; kernel_rfl
theorem Zic : Callable Try.prog 162 := callable_of Try.func162 (show chkFn Try.f162 = true by kernel_rfl)
theorem Zid (N : Nat) (s1 : List Int) (v2 : Int) : DN Zb2 N (s1, v2, ()) = Zau N s1 v2 := by
  have h : Zau N s1 v2 = Zau N s1 v2 := rfl
  conv at h => rhs; rw [Zau]
  simp (disch := exact id (by kernel_rfl)) only [Zg2 (R := Unit × (Int × Unit)) N (CF Zb2 N [1, 0, 1, 0])] at h
  exact Eq.trans (by kernel_rfl) h.symm
theorem Zie (N : Nat) : Good Try.prog 162 (Zde N) := GF Zb2 N Try.func162 ctx_nil (by kernel_rfl) (fun d => Zid N d.1 d.2.1)
noncomputable def Zcp (N : Nat) : Sig := Sig.of [.v (.slice (.int .i64)) false, .v (.int .i64) false] [.v (.bool) false] (fun d => Zer N d.1 d.2.1)
noncomputable def Zhb : Fn := ⟨Try.f158, noAnn, Zcp, fun N => [(162, Zde N)]⟩
theorem Zhc : Callable Try.prog 158 := callable_of Try.func158 (show chkFn Try.f158 = true by kernel_rfl)
theorem Zhd (N : Nat) : Good Try.prog 158 (Zcp N) := GF Zhb N Try.func158 (ctx_cons (Zie N) Zic ctx_nil) (by kernel_rfl) (fun d => by kernel_rfl)
noncomputable def Zfv (N : Nat) : Sig := Sig.of [.v (.slice (.int .i64)) false, .v (.int .i64) false] [.v (.own (.int .i64)) false] (fun d => Za4 N d.1 d.2.1)
noncomputable def Zeg : Fn := ⟨Try.f141, fun | 3 => [.canon [0, 5, 9, 10, 11]] | 4 => [.canon [0, 5, 6, 9, 10]] | 5 => [.canon [0, 5, 6, 9, 10, 16]] | 6 => [.canon [0, 5, 9, 10]] | 7 => [.canon [0, 5, 9, 10]] | 100003 => [.canon [0, 5, 9, 10]] | _ => [], Zfv, fun N => [(49, Zar N), (158, Zcp N)]⟩
def Zjr (order4 : List Int) (t5 : Int) (t6 : Int) (l7 : List Int) : St := ⟨[(0, vV (.slice (.int .i64)) order4), (5, vO 0), (9, vI t5), (10, vI t6)], [(0, .arr (.int .i64) l7)], 1⟩
def Zi8 (order4 : List Int) (t5 : Int) (t9 : Int) (t10 : Bool) (l11 : List Int) : St := ⟨[(0, vV (.slice (.int .i64)) order4), (5, vO 0), (9, vI t5), (10, vI t9), (11, vB t10)], [(0, .arr (.int .i64) l11)], 1⟩
theorem Zjs (N : Nat) {R : Type} (K : Ex → St → Option R) {order4 : List Int} {t5 : Int} {K0 : Int → Bool → (List Int) → Option R} (h0 : K0 = fun t9 t10 l11 => K (.exit 0) (Zi8 order4 t5 t9 t10 l11)) (n : Nat) (t6 : Int) (l7 : List Int) : Zcm N order4 t5 K0 n t6 l7 = LM Zeg N 0 100003 n (Zjr order4 t5 t6 l7) K := by
  subst h0
  induction n generalizing t6 l7 with
  | zero => kernel_rfl
  | succ n ih => rw [Zcm]; simp (disch := exact id (by kernel_rfl)) only [ih]; kernel_rfl
theorem Znt : Callable Try.prog 141 := callable_of Try.func141 (show chkFn Try.f141 = true by kernel_rfl)
theorem Znu (N : Nat) (order1 : List Int) (kids2 : Int) : DN Zeg N (order1, kids2, ()) = Za4 N order1 kids2 := by
  have h : Za4 N order1 kids2 = Za4 N order1 kids2 := rfl
  conv at h => rhs; rw [Za4]
  simp (disch := exact id (by kernel_rfl)) only [Zjs (R := Unit × ((List Int) × Unit)) N (CF Zeg N [1, 1, 0, 1, 0])] at h
  exact Eq.trans (by kernel_rfl) h.symm
theorem Znv (N : Nat) : Good Try.prog 141 (Zfv N) := GF Zeg N Try.func141 (ctx_cons (Zbd N) Zbc (ctx_cons (Zhd N) Zhc ctx_nil)) (by kernel_rfl) (fun d => Znu N d.1 d.2.1)
noncomputable def Zh2 (N : Nat) : Sig := Sig.of [.v (.prod (.int .i64) (.prod (.int .i64) (.prod (.int .i64) (.int .i64)))) true, .mut (.int .i64), .box (.prod (.own (.int .i64)) (.prod (.own (.int .i64)) (.int .i64)))] [] (fun d => Zd0 N d.1 d.2.1 d.2.2.1)
noncomputable def Zq6 : Fn := ⟨Try.f142, noAnn, Zh2, noCtx⟩
theorem Zq7 : Callable Try.prog 142 := callable_of Try.func142 (show chkFn Try.f142 = true by kernel_rfl)
theorem Zq8 (N : Nat) : Good Try.prog 142 (Zh2 N) := GF Zq6 N Try.func142 ctx_nil (by kernel_rfl) (fun d => by kernel_rfl)
noncomputable def Ze0 (N m : Nat) : Sig := Sig.of [.v (.slice (.prod (.int .i64) (.prod (.int .i64) (.prod (.int .i64) (.int .i64))))) false, .v (.slice (.slice (.prod (.int .i64) (.prod (.int .i64) (.prod (.int .i64) (.int .i64)))))) false, .v (.slice (.int .i64)) false, .v (.slice (.int .i64)) false, .v (.prod (.slice (.int .i64)) (.prod (.slice (.int .i64)) (.int .i64))) true] [.v (.prod (.int .i64) (.prod (.own (.int .i64)) (.prod (.own (.int .i64)) (.prod (.own (.int .i64)) (.int .i64))))) true] (fun d => Zaj N m d.1 d.2.1 d.2.2.1 d.2.2.2.1 d.2.2.2.2.1)
noncomputable def Zjh (N : Nat) : Sig := Ze0 N N
noncomputable def Zdk (m : Nat) : Fn := ⟨Try.f108, fun | 3 => [.empt 25 (.prod (.int .i64) (.prod (.own (.int .i64)) (.prod (.own (.int .i64)) (.prod (.own (.int .i64)) (.int .i64)))))] | 5 => [.canon [0, 1, 2, 3, 9, 10, 11, 12, 13, 29]] | 6 => [.canon [0, 1, 2, 3, 9, 10, 11, 12, 13]] | 7 => [.canon [0, 1, 2, 3, 9, 10, 11, 12, 13, 14]] | 8 => [.canon [0, 1, 2, 3, 9, 10, 11, 12, 13, 14, 37]] | 9 => [.canon [0, 1, 2, 3, 9, 10, 11, 12, 13]] | 10 => [.canon [0, 1, 2, 3, 9, 10, 11, 12, 13, 14, 37, 41]] | 11 => [.canon [0, 1, 2, 3, 9, 10, 11, 12, 13, 14, 37, 41]] | 12 => [.canon [0, 1, 2, 3, 9, 10, 11, 12, 13, 14, 37, 41]] | 13 => [.canon [0, 1, 2, 3, 9, 10, 11, 12, 13, 14, 37, 41]] | 14 => [.canon [0, 1, 2, 3, 9, 10, 11, 12, 13]] | 15 => [.canon [0, 1, 2, 3, 9, 10, 11, 12, 13, 14, 37, 52]] | 16 => [.canon [0, 1, 2, 3, 9, 10, 11, 12, 13, 14, 59]] | 17 => [.canon [0, 1, 2, 3, 9, 10, 11, 12, 13]] | 18 => [.canon [0, 1, 2, 3, 9, 10, 11, 12, 13, 14, 37, 64]] | 19 => [.nest 73 (.prod (.int .i64) (.prod (.own (.int .i64)) (.prod (.own (.int .i64)) (.prod (.own (.int .i64)) (.int .i64))))), .canon [0, 1, 2, 3, 9, 10, 11, 12, 13]] | 20 => [.canon [0, 1, 2, 3, 9, 10, 11, 12, 13, 14, 37, 75]] | 21 => [.opn 81, .canon [0, 1, 2, 3, 9, 10, 11, 12, 13, 15]] | 22 => [.canon [0, 1, 2, 3, 9, 10, 11, 12, 13, 15]] | 23 => [.canon [0, 1, 2, 3, 9, 10, 11, 12, 13]] | 24 => [.canon [0, 1, 2, 3, 9, 10, 11, 12, 13, 14, 37, 96]] | 25 => [.canon [0, 1, 2, 3, 9, 10, 11, 12, 100]] | 26 => [.canon [10]] | 27 => [.opn 109, .canon [0, 1, 2, 9, 10, 11, 12, 16]] | 28 => [.canon [0, 1, 2, 9, 10, 11, 12, 16]] | 29 => [.canon [0, 1, 2, 3, 9, 10, 11, 12, 16]] | 30 => [.canon [0, 1, 2, 3, 9, 10, 11, 12, 16]] | 31 => [.canon [0, 1, 2, 3, 9, 10, 11, 12, 13]] | 32 => [.canon [0, 1, 2, 3, 9, 10, 11, 12, 13, 14, 132]] | 33 => [.canon [0, 1, 2, 3, 9, 10, 11, 12, 13, 17]] | 34 => [.canon [0, 1, 2, 3, 9, 10, 11, 12, 13, 17, 139, 140, 141]] | 35 => [.canon [0, 1, 2, 3, 9, 10, 11, 12, 13, 17, 139, 140, 141, 142]] | 36 => [.canon [0, 1, 2, 3, 9, 10, 11, 12, 13, 17, 19, 139, 140, 141]] | 37 => [.canon [0, 1, 2, 3, 9, 10, 11, 12, 13, 17, 19, 20, 139, 140, 141]] | 38 => [.canon [0, 1, 2, 3, 9, 10, 11, 12, 13, 17, 19, 20, 139, 140, 141]] | 39 => [.canon [0, 1, 2, 3, 9, 10, 11, 12, 13, 17, 19, 20, 139, 140, 141]] | 40 => [.canon [0, 1, 2, 3, 9, 10, 11, 12, 13, 17, 19, 20, 139, 140, 141, 165]] | 41 => [.canon [0, 1, 2, 3, 9, 10, 11, 12, 13, 17, 139, 140, 141]] | 42 => [.canon [0, 1, 2, 3, 9, 10, 11, 12, 13, 17, 139, 140, 141]] | 100005 => [.canon [0, 1, 2, 3, 9, 10, 11, 12, 13]] | 100035 => [.canon [0, 1, 2, 3, 9, 10, 11, 12, 13, 17, 139, 140, 141]] | _ => [], fun N => Ze0 N (m + 1), fun N => [(49, Zar N), (140, Zfe N), (102, Zgl N), (101, Zf5 N), (141, Zfv N), (108, Ze0 N m), (142, Zh2 N)]⟩
def Zmn (code27 : List (Int × Int × Int × Int)) (kids28 : List (List (Int × Int × Int × Int))) (order29 : List Int) (i30 : Int) (t31 : Int) (t32 : Int) (l33 : List Int) (b34 : List Int × List Int × Int) (b35 : Int) (b36 : Int) (b37 : Int) (l38 : List (Int × List Int × List Int × List Int × Int)) (l39 : List Int) (l40 : List Int) (l41 : List Int) (l42 : List Int) : St := ⟨[(0, vV (.slice (.prod (.int .i64) (.prod (.int .i64) (.prod (.int .i64) (.int .i64))))) code27), (1, vV (.slice (.slice (.prod (.int .i64) (.prod (.int .i64) (.prod (.int .i64) (.int .i64)))))) kids28), (2, vV (.slice (.int .i64)) order29), (3, vO 0), (9, vP 1 0), (10, vP 2 0), (11, vP 3 0), (12, vO 4), (13, vI i30), (17, vO 5), (139, vO 6), (140, vI t31), (141, vI t32)], [(0, .arr (.int .i64) l33), (1, .box [.val (.slice (.int .i64)) b34.1, .val (.slice (.int .i64)) b34.2.1, .val (.int .i64) b34.2.2]), (2, .box [.val (.int .i64) b35, .nils, .nils, .nils, .val (.int .i64) b36]), (3, .box [.own 7, .own 8, .val (.int .i64) b37]), (4, .arr (.prod (.int .i64) (.prod (.own (.int .i64)) (.prod (.own (.int .i64)) (.prod (.own (.int .i64)) (.int .i64))))) l38), (5, .arr (.int .i64) l39), (6, .arr (.int .i64) l40), (7, .arr (.int .i64) l41), (8, .arr (.int .i64) l42)], 9⟩
def Zku (code27 : List (Int × Int × Int × Int)) (kids28 : List (List (Int × Int × Int × Int))) (order29 : List Int) (i30 : Int) (t31 : Int) (b34 : List Int × List Int × Int) (b35 : Int) (b36 : Int) (b37 : Int) (l38 : List (Int × List Int × List Int × List Int × Int)) (l39 : List Int) (l40 : List Int) (l42 : List Int) (t49 : Int) (t50 : Bool) (l51 : List Int) (l52 : List Int) : St := ⟨[(0, vV (.slice (.prod (.int .i64) (.prod (.int .i64) (.prod (.int .i64) (.int .i64))))) code27), (1, vV (.slice (.slice (.prod (.int .i64) (.prod (.int .i64) (.prod (.int .i64) (.int .i64)))))) kids28), (2, vV (.slice (.int .i64)) order29), (3, vO 0), (9, vP 1 0), (10, vP 2 0), (11, vP 3 0), (12, vO 4), (13, vI i30), (17, vO 5), (139, vO 6), (140, vI t31), (141, vI t49), (142, vB t50)], [(0, .arr (.int .i64) l51), (1, .box [.val (.slice (.int .i64)) b34.1, .val (.slice (.int .i64)) b34.2.1, .val (.int .i64) b34.2.2]), (2, .box [.val (.int .i64) b35, .nils, .nils, .nils, .val (.int .i64) b36]), (3, .box [.own 7, .own 8, .val (.int .i64) b37]), (4, .arr (.prod (.int .i64) (.prod (.own (.int .i64)) (.prod (.own (.int .i64)) (.prod (.own (.int .i64)) (.int .i64))))) l38), (5, .arr (.int .i64) l39), (6, .arr (.int .i64) l40), (7, .arr (.int .i64) l52), (8, .arr (.int .i64) l42)], 9⟩
theorem Zmo (N m : Nat) {R : Type} (K : Ex → St → Option R) {code27 : List (Int × Int × Int × Int)} {kids28 : List (List (Int × Int × Int × Int))} {order29 : List Int} {i30 : Int} {t31 : Int} {b34 : List Int × List Int × Int} {b35 : Int} {b36 : Int} {b37 : Int} {l38 : List (Int × List Int × List Int × List Int × Int)} {l39 : List Int} {l40 : List Int} {l42 : List Int} {K0 : Int → Bool → (List Int) → (List Int) → Option R} (h0 : K0 = fun t49 t50 l51 l52 => K (.exit 3) (Zku code27 kids28 order29 i30 t31 b34 b35 b36 b37 l38 l39 l40 l42 t49 t50 l51 l52)) (n : Nat) (t32 : Int) (l33 : List Int) (l41 : List Int) : Zac N (Zaj N m) code27 kids28 order29 i30 t31 b34 b35 b36 b37 l38 l39 l40 l42 K0 n t32 l33 l41 = LM (Zdk m) N 1 100035 n (Zmn code27 kids28 order29 i30 t31 t32 l33 b34 b35 b36 b37 l38 l39 l40 l41 l42) K := by
  subst h0
  induction n generalizing t32 l33 l41 with
  | zero => kernel_rfl
  | succ n ih => rw [Zac]; simp (disch := exact id (by kernel_rfl)) only [ih]; kernel_rfl
def Zmp (code8 : List (Int × Int × Int × Int)) (kids9 : List (List (Int × Int × Int × Int))) (order10 : List Int) (i11 : Int) (l12 : List Int) (b13 : List Int × List Int × Int) (b16 : Int) (l17 : List (Int × List Int × List Int × List Int × Int)) (l18 : List Int) (l19 : List Int) : St := ⟨[(0, vV (.slice (.prod (.int .i64) (.prod (.int .i64) (.prod (.int .i64) (.int .i64))))) code8), (1, vV (.slice (.slice (.prod (.int .i64) (.prod (.int .i64) (.prod (.int .i64) (.int .i64)))))) kids9), (2, vV (.slice (.int .i64)) order10), (3, vO 0), (9, vP 1 0), (10, vP 2 0), (11, vP 3 0), (12, vO 4), (13, vI i11)], [(0, .arr (.int .i64) l12), (1, .box [.val (.slice (.int .i64)) b13.1, .val (.slice (.int .i64)) b13.2.1, .val (.int .i64) b13.2.2]), (2, .box [.val (.int .i64) (0 : Int), .nils, .nils, .nils, .val (.int .i64) (0 : Int)]), (3, .box [.own 5, .own 6, .val (.int .i64) b16]), (4, .arr (.prod (.int .i64) (.prod (.own (.int .i64)) (.prod (.own (.int .i64)) (.prod (.own (.int .i64)) (.int .i64))))) l17), (5, .arr (.int .i64) l18), (6, .arr (.int .i64) l19)], 7⟩
def Zkv (code8 : List (Int × Int × Int × Int)) (kids9 : List (List (Int × Int × Int × Int))) (order10 : List Int) (b13 : List Int × List Int × Int) (b148 : Int) (l149 : List Int) (l150 : List Int) (l151 : List Int) : St := ⟨[(10, vP 0 0)], [(0, .box [.val (.int .i64) (2 : Int), .own 1, .own 2, .own 3, .val (.int .i64) b148]), (1, .arr (.int .i64) l149), (2, .arr (.int .i64) l150), (3, .arr (.int .i64) l151)], 4⟩
def Zkw (code8 : List (Int × Int × Int × Int)) (kids9 : List (List (Int × Int × Int × Int))) (order10 : List Int) (b13 : List Int × List Int × Int) (i152 : Int) (t153 : Bool) (l154 : List Int) (b155 : Int) (l156 : List (Int × List Int × List Int × List Int × Int)) (l157 : List Int) (l158 : List Int) : St := ⟨[(0, vV (.slice (.prod (.int .i64) (.prod (.int .i64) (.prod (.int .i64) (.int .i64))))) code8), (1, vV (.slice (.slice (.prod (.int .i64) (.prod (.int .i64) (.prod (.int .i64) (.int .i64)))))) kids9), (2, vV (.slice (.int .i64)) order10), (3, vO 0), (9, vP 1 0), (10, vP 2 0), (11, vP 3 0), (12, vO 4), (13, vI i152), (29, vB t153)], [(0, .arr (.int .i64) l154), (1, .box [.val (.slice (.int .i64)) b13.1, .val (.slice (.int .i64)) b13.2.1, .val (.int .i64) b13.2.2]), (2, .box [.val (.int .i64) (0 : Int), .nils, .nils, .nils, .val (.int .i64) (0 : Int)]), (3, .box [.own 5, .own 6, .val (.int .i64) b155]), (4, .arr (.prod (.int .i64) (.prod (.own (.int .i64)) (.prod (.own (.int .i64)) (.prod (.own (.int .i64)) (.int .i64))))) l156), (5, .arr (.int .i64) l157), (6, .arr (.int .i64) l158)], 7⟩
theorem Zmq (N m : Nat) {R : Type} (K : Ex → St → Option R) {code8 : List (Int × Int × Int × Int)} {kids9 : List (List (Int × Int × Int × Int))} {order10 : List Int} {b13 : List Int × List Int × Int} {K0 : Int → (List Int) → (List Int) → (List Int) → Option R} {K1 : Int → Bool → (List Int) → Int → (List (Int × List Int × List Int × List Int × Int)) → (List Int) → (List Int) → Option R} (h0 : K0 = fun b148 l149 l150 l151 => K .ret (Zkv code8 kids9 order10 b13 b148 l149 l150 l151)) (h1 : K1 = fun i152 t153 l154 b155 l156 l157 l158 => K (.exit 0) (Zkw code8 kids9 order10 b13 i152 t153 l154 b155 l156 l157 l158)) (n : Nat) (i11 : Int) (l12 : List Int) (b16 : Int) (l17 : List (Int × List Int × List Int × List Int × Int)) (l18 : List Int) (l19 : List Int) : Zh N (Zaj N m) code8 kids9 order10 b13 K0 K1 n i11 l12 b16 l17 l18 l19 = LM (Zdk m) N 0 100005 n (Zmp code8 kids9 order10 i11 l12 b13 b16 l17 l18 l19) K := by
  subst h0 h1
  induction n generalizing i11 l12 b16 l17 l18 l19 with
  | zero => kernel_rfl
  | succ n ih => rw [Zh]; simp (disch := exact id (by kernel_rfl)) only [ih, Zmo N m (CL (Zdk m) N 0 100005 [1, 0, 0, 1, 1, 0, 1, 1, 1, 1, 1, 1, 1, 1, 1, 1, 1, 0, 1, 1, 0] n K)]; kernel_rfl
theorem Zji : Callable Try.prog 108 := callable_of Try.func108 (show chkFn Try.f108 = true by kernel_rfl)
theorem Zp1 (N m : Nat) (code1 : List (Int × Int × Int × Int)) (kids2 : List (List (Int × Int × Int × Int))) (order3 : List Int) (regs4 : List Int) (first5 : List Int × List Int × Int) : DN (Zdk m) N (code1, kids2, order3, regs4, first5, ()) = Zaj N (m + 1) code1 kids2 order3 regs4 first5 := by
  have h : Zaj N (m + 1) code1 kids2 order3 regs4 first5 = Zaj N (m + 1) code1 kids2 order3 regs4 first5 := rfl
  conv at h => rhs; rw [Zaj]
  simp (disch := exact id (by kernel_rfl)) only [Zmq (R := Unit × ((Int × List Int × List Int × List Int × Int) × Unit)) N m (CF (Zdk m) N [1, 1, 1, 1, 0, 1, 0])] at h
  exact Eq.trans (by kernel_rfl) h.symm
theorem Ziz (N : Nat) : ∀ m, Good Try.prog 108 (Ze0 N m)
  | 0 => fun d o h => nomatch (show none = some o from h)
  | m + 1 => GF (Zdk m) N Try.func108 (ctx_cons (Zbd N) Zbc (ctx_cons (Zmk N) Zmj (ctx_cons (Zlx N) Zlw (ctx_cons (Zj7 N) Zj6 (ctx_cons (Znv N) Znt (ctx_cons (Ziz N m) Zji (ctx_cons (Zq8 N) Zq7 ctx_nil))))))) (by kernel_rfl) (fun d => Zp1 N m d.1 d.2.1 d.2.2.1 d.2.2.2.1 d.2.2.2.2.1)
theorem Zp2 (N : Nat) : Good Try.prog 108 (Zjh N) := Ziz N N
noncomputable def Zfw (N : Nat) : Sig := Sig.of [.v (.slice (.prod (.int .i64) (.prod (.int .i64) (.prod (.int .i64) (.int .i64))))) false, .v (.slice (.int .i64)) false, .v (.slice (.int .i64)) false] [.v (.int .i64) false, .v (.own (.int .i64)) false, .v (.own (.int .i64)) false] (fun d => Zex N d.1 d.2.1 d.2.2.1)
noncomputable def Znw : Fn := ⟨Try.f68, noAnn, Zfw, fun N => [(97, Zev N), (48, Zbq N), (108, Zjh N)]⟩
theorem Znx : Callable Try.prog 68 := callable_of Try.func68 (show chkFn Try.f68 = true by kernel_rfl)
theorem Zny (N : Nat) : Good Try.prog 68 (Zfw N) := GF Znw N Try.func68 (ctx_cons (Zh1 N) Zh0 (ctx_cons (Zdd N) Zdc (ctx_cons (Zp2 N) Zji ctx_nil))) (by kernel_rfl) (fun d => by kernel_rfl)
noncomputable def Zh3 (N : Nat) : Sig := Sig.of [.v (.slice (.prod (.int .i64) (.prod (.int .i64) (.prod (.int .i64) (.int .i64))))) false, .v (.slice (.int .i64)) false, .v (.slice (.int .i64)) false] [.box (.prod (.own (.int .i64)) (.prod (.own (.int .i64)) (.prod (.own (.prod (.int .i64) (.int .i64))) (.prod (.int .i64) (.prod (.own (.prod (.int .i64) (.prod (.int .i64) (.own (.int .i64))))) (.own (.int .i64))))))), .v (.bool) false] (fun d => Zfs N d.1 d.2.1 d.2.2.1)
noncomputable def Zq9 : Fn := ⟨Try.f61, noAnn, Zh3, fun N => [(97, Zev N), (48, Zbq N), (49, Zar N)]⟩
theorem Zra : Callable Try.prog 61 := callable_of Try.func61 (show chkFn Try.f61 = true by kernel_rfl)
theorem Zrb (N : Nat) : Good Try.prog 61 (Zh3 N) := GF Zq9 N Try.func61 (ctx_cons (Zh1 N) Zh0 (ctx_cons (Zdd N) Zdc (ctx_cons (Zbd N) Zbc ctx_nil))) (by kernel_rfl) (fun d => by kernel_rfl)
noncomputable def Ze1 (N : Nat) : Sig := Sig.of [.v (.prod (.int .i64) (.int .i64)) true, .box (.prod (.int .i64) (.prod (.int .i64) (.prod (.int .i64) (.int .i64))))] [.v (.bool) false] (fun d => Zft N d.1 d.2.1)
noncomputable def Zkx : Fn := ⟨Try.f99, noAnn, Ze1, noCtx⟩
theorem Zky : Callable Try.prog 99 := callable_of Try.func99 (show chkFn Try.f99 = true by kernel_rfl)
theorem Zkz (N : Nat) : Good Try.prog 99 (Ze1 N) := GF Zkx N Try.func99 ctx_nil (by kernel_rfl) (fun d => by kernel_rfl)
noncomputable def Z8 (N : Nat) : Sig := Sig.of [.v (.slice (.prod (.int .i64) (.int .i64))) false, .clos 99 1, .box (.prod (.int .i64) (.prod (.int .i64) (.prod (.int .i64) (.int .i64))))] [.v (.int .i64) false] (fun d => Zn N d.1 d.2.1)
noncomputable def Zx : Fn := ⟨Try.f123, fun | 2 => [.canon [0, 1, 7, 8, 9]] | 3 => [.canon [0, 1, 5, 7, 8]] | 4 => [.canon [0, 1, 5, 7, 8, 16]] | 5 => [.canon [1, 4]] | 6 => [.canon [0, 1, 7, 8]] | 100002 => [.canon [0, 1, 7, 8]] | _ => [], Z8, fun N => [(99, Ze1 N)]⟩
def Zce (s3 : List (Int × Int)) (t5 : Int) (b6 : Int × Int × Int × Int) : St := ⟨[(0, vV (.slice (.prod (.int .i64) (.int .i64))) s3), (1, .s (.one (.clos 99 [0]))), (7, vI (ilen s3)), (8, vI t5)], [(0, .box [.val (.int .i64) b6.1, .val (.int .i64) b6.2.1, .val (.int .i64) b6.2.2.1, .val (.int .i64) b6.2.2.2])], 1⟩
def Zca (s3 : List (Int × Int)) (t9 : Int) (b10 : Int × Int × Int × Int) : St := ⟨[(1, .s (.one (.clos 99 [0]))), (4, vI t9)], [(0, .box [.val (.int .i64) b10.1, .val (.int .i64) b10.2.1, .val (.int .i64) b10.2.2.1, .val (.int .i64) b10.2.2.2])], 1⟩
def Zcb (s3 : List (Int × Int)) (t11 : Int) (t12 : Bool) (b13 : Int × Int × Int × Int) : St := ⟨[(0, vV (.slice (.prod (.int .i64) (.int .i64))) s3), (1, .s (.one (.clos 99 [0]))), (7, vI (ilen s3)), (8, vI t11), (9, vB t12)], [(0, .box [.val (.int .i64) b13.1, .val (.int .i64) b13.2.1, .val (.int .i64) b13.2.2.1, .val (.int .i64) b13.2.2.2])], 1⟩
theorem Zcf (N : Nat) {R : Type} (K : Ex → St → Option R) {s3 : List (Int × Int)} {K0 : Int → (Int × Int × Int × Int) → Option R} {K1 : Int → Bool → (Int × Int × Int × Int) → Option R} (h0 : K0 = fun t9 b10 => K .ret (Zca s3 t9 b10)) (h1 : K1 = fun t11 t12 b13 => K (.exit 0) (Zcb s3 t11 t12 b13)) (n : Nat) (t5 : Int) (b6 : Int × Int × Int × Int) : Zk N s3 K0 K1 n t5 b6 = LM Zx N 0 100002 n (Zce s3 t5 b6) K := by
  subst h0 h1
  induction n generalizing t5 b6 with
  | zero => kernel_rfl
  | succ n ih => rw [Zk]; simp (disch := exact id (by kernel_rfl)) only [ih]; kernel_rfl
theorem Zcv : Callable Try.prog 123 := callable_of Try.func123 (show chkFn Try.f123 = true by kernel_rfl)
theorem Zcw (N : Nat) (s1 : List (Int × Int)) (cap2 : Int × Int × Int × Int) : DN Zx N (s1, cap2, ()) = Zn N s1 cap2 := by
  have h : Zn N s1 cap2 = Zn N s1 cap2 := rfl
  conv at h => rhs; rw [Zn]
  simp (disch := exact id (by kernel_rfl)) only [Zcf (R := ((Int × Int × Int × Int) × Unit) × (Int × Unit)) N (CF Zx N [1, 0, 1, 0])] at h
  exact Eq.trans (by kernel_rfl) h.symm
theorem Zcx (N : Nat) : Good Try.prog 123 (Z8 N) := GF Zx N Try.func123 (ctx_cons (Zkz N) Zky ctx_nil) (by kernel_rfl) (fun d => Zcw N d.1 d.2.1)
noncomputable def Z5 (N : Nat) : Sig := Sig.of [.v (.slice (.prod (.int .i64) (.int .i64))) false, .clos 99 1, .box (.prod (.int .i64) (.prod (.int .i64) (.prod (.int .i64) (.int .i64))))] [.v (.bool) false] (fun d => Zw N d.1 d.2.1)
noncomputable def Zcg : Fn := ⟨Try.f98, noAnn, Z5, fun N => [(123, Z8 N)]⟩
theorem Zch : Callable Try.prog 98 := callable_of Try.func98 (show chkFn Try.f98 = true by kernel_rfl)
theorem Zci (N : Nat) : Good Try.prog 98 (Z5 N) := GF Zcg N Try.func98 (ctx_cons (Zcx N) Zcv ctx_nil) (by kernel_rfl) (fun d => by kernel_rfl)
noncomputable def Zhe (N : Nat) : Sig := Sig.of [.v (.slice (.prod (.int .i64) (.int .i64))) false] [.v (.bool) false] (fun d => Za5 N d.1)
noncomputable def Zfj : Fn := ⟨Try.f92, fun | 2 => [.canon [0, 5, 6, 7, 8]] | 3 => [.canon [0, 4, 5, 6, 7]] | 4 => [.canon [0, 5, 6, 7, 20]] | 5 => [.canon [2]] | 6 => [.canon [0, 5, 6, 7]] | 100002 => [.canon [0, 5, 6, 7]] | _ => [], Zhe, fun N => [(118, Zfh N), (91, Zd1 N)]⟩
def Zmr (l2 : List (Int × Int)) (t5 : Int) : St := ⟨[(0, vV (.slice (.prod (.int .i64) (.int .i64))) l2), (5, vV (.slice (.prod (.int .i64) (.int .i64))) l2), (6, vI (ilen l2)), (7, vI t5)], [], 0⟩
def Zk0 (l2 : List (Int × Int)) : St := ⟨[(2, vB false)], [], 0⟩
def Zk1 (l2 : List (Int × Int)) (t10 : Int) (t11 : Bool) : St := ⟨[(0, vV (.slice (.prod (.int .i64) (.int .i64))) l2), (5, vV (.slice (.prod (.int .i64) (.int .i64))) l2), (6, vI (ilen l2)), (7, vI t10), (8, vB t11)], [], 0⟩
theorem Zms (N : Nat) {R : Type} (K : Ex → St → Option R) {l2 : List (Int × Int)} {K0 : Option R} {K1 : Int → Bool → Option R} (h0 : K0 = K .ret (Zk0 l2)) (h1 : K1 = fun t10 t11 => K (.exit 0) (Zk1 l2 t10 t11)) (n : Nat) (t5 : Int) : Zbt N l2 K0 K1 n t5 = LM Zfj N 0 100002 n (Zmr l2 t5) K := by
  subst h0 h1
  induction n generalizing t5 with
  | zero => kernel_rfl
  | succ n ih => rw [Zbt]; simp (disch := exact id (by kernel_rfl)) only [ih]; kernel_rfl
theorem Zp3 : Callable Try.prog 92 := callable_of Try.func92 (show chkFn Try.f92 = true by kernel_rfl)
theorem Zp4 (N : Nat) (l1 : List (Int × Int)) : DN Zfj N (l1, ()) = Za5 N l1 := by
  have h : Za5 N l1 = Za5 N l1 := rfl
  conv at h => rhs; rw [Za5]
  simp (disch := exact id (by kernel_rfl)) only [Zms (R := Unit × (Bool × Unit)) N (CF Zfj N [1, 0, 1, 0])] at h
  exact Eq.trans (by kernel_rfl) h.symm
theorem Zp5 (N : Nat) : Good Try.prog 92 (Zhe N) := GF Zfj N Try.func92 (ctx_cons (Zjg N) Zjf (ctx_cons (Zgt N) Zgs ctx_nil)) (by kernel_rfl) (fun d => Zp4 N d.1)
noncomputable def Zgb (N : Nat) : Sig := Sig.of [.v (.slice (.prod (.int .i64) (.int .i64))) false] [.v (.own (.prod (.int .i64) (.int .i64))) false] (fun d => Zg3 N d.1)
noncomputable def Zog : Fn := ⟨Try.f159, noAnn, Zgb, noCtx⟩
theorem Zoh : Callable Try.prog 159 := callable_of Try.func159 (show chkFn Try.f159 = true by kernel_rfl)
theorem Zoi (N : Nat) : Good Try.prog 159 (Zgb N) := GF Zog N Try.func159 ctx_nil (by kernel_rfl) (fun d => by kernel_rfl)
noncomputable def Zgc (N : Nat) : Sig := Sig.of [.v (.slice (.int .i64)) false, .v (.slice (.prod (.int .i64) (.int .i64))) false, .v (.int .i64) false] [.v (.own (.int .i64)) false, .v (.own (.prod (.int .i64) (.int .i64))) false] (fun d => Zbf N d.1 d.2.1 d.2.2.1)
noncomputable def Zep : Fn := ⟨Try.f147, fun | 5 => [.canon [1, 2, 8, 9, 29]] | 6 => [.canon [1, 2, 8, 9]] | 7 => [.canon [1, 2, 8, 9]] | 100005 => [.canon [1, 2, 8, 9]] | _ => [], Zgc, fun N => [(48, Zbq N), (92, Zhe N), (49, Zar N), (159, Zgb N)]⟩
def Zj8 (log7 : List (Int × Int)) (n8 : Int) (i9 : Int) (l10 : List Int) : St := ⟨[(1, vV (.slice (.prod (.int .i64) (.int .i64))) log7), (2, vI n8), (8, vO 0), (9, vI i9)], [(0, .arr (.int .i64) l10)], 1⟩
def Zjt (log7 : List (Int × Int)) (n8 : Int) (i11 : Int) (t12 : Bool) (l13 : List Int) : St := ⟨[(1, vV (.slice (.prod (.int .i64) (.int .i64))) log7), (2, vI n8), (8, vO 0), (9, vI i11), (29, vB t12)], [(0, .arr (.int .i64) l13)], 1⟩
theorem Zj9 (N : Nat) {R : Type} (K : Ex → St → Option R) {log7 : List (Int × Int)} {n8 : Int} {K0 : Int → Bool → (List Int) → Option R} (h0 : K0 = fun i11 t12 l13 => K (.exit 0) (Zjt log7 n8 i11 t12 l13)) (n : Nat) (i9 : Int) (l10 : List Int) : Zao N log7 n8 K0 n i9 l10 = LM Zep N 0 100005 n (Zj8 log7 n8 i9 l10) K := by
  subst h0
  induction n generalizing i9 l10 with
  | zero => kernel_rfl
  | succ n ih => rw [Zao]; simp (disch := exact id (by kernel_rfl)) only [ih]; kernel_rfl
theorem Zoj : Callable Try.prog 147 := callable_of Try.func147 (show chkFn Try.f147 = true by kernel_rfl)
theorem Zok (N : Nat) (cells1 : List Int) (log2 : List (Int × Int)) (n3 : Int) : DN Zep N (cells1, log2, n3, ()) = Zbf N cells1 log2 n3 := by
  have h : Zbf N cells1 log2 n3 = Zbf N cells1 log2 n3 := rfl
  conv at h => rhs; rw [Zbf]
  simp (disch := exact id (by kernel_rfl)) only [Zj9 (R := Unit × ((List Int) × ((List (Int × Int)) × Unit))) N (CF Zep N [1, 1, 1, 0, 1, 0])] at h
  exact Eq.trans (by kernel_rfl) h.symm
theorem Zol (N : Nat) : Good Try.prog 147 (Zgc N) := GF Zep N Try.func147 (ctx_cons (Zdd N) Zdc (ctx_cons (Zp5 N) Zp3 (ctx_cons (Zbd N) Zbc (ctx_cons (Zoi N) Zoh ctx_nil)))) (by kernel_rfl) (fun d => Zok N d.1 d.2.1 d.2.2.1)
noncomputable def Zfx (N : Nat) : Sig := Sig.of [.box (.prod (.own (.int .i64)) (.prod (.own (.int .i64)) (.prod (.own (.prod (.int .i64) (.int .i64))) (.prod (.int .i64) (.prod (.own (.prod (.int .i64) (.prod (.int .i64) (.own (.int .i64))))) (.own (.int .i64))))))), .v (.int .i64) false] [] (fun d => Zdz N d.1 d.2.1)
noncomputable def Znz : Fn := ⟨Try.f124, noAnn, Zfx, fun N => [(147, Zgc N)]⟩
theorem Zn0 : Callable Try.prog 124 := callable_of Try.func124 (show chkFn Try.f124 = true by kernel_rfl)
theorem Zn1 (N : Nat) : Good Try.prog 124 (Zfx N) := GF Znz N Try.func124 (ctx_cons (Zol N) Zoj ctx_nil) (by kernel_rfl) (fun d => by kernel_rfl)
noncomputable def Ze2 (N : Nat) : Sig := Sig.of [.box (.prod (.own (.int .i64)) (.prod (.own (.int .i64)) (.prod (.own (.prod (.int .i64) (.int .i64))) (.prod (.int .i64) (.prod (.own (.prod (.int .i64) (.prod (.int .i64) (.own (.int .i64))))) (.own (.int .i64))))))), .v (.slice (.prod (.int .i64) (.prod (.int .i64) (.prod (.int .i64) (.int .i64))))) false] [.v (.int .i64) false] (fun d => Zea N d.1 d.2.1)
noncomputable def Zk2 : Fn := ⟨Try.f100, fun | 5 => [.opn 22] | _ => [], Ze2, fun N => [(124, Zfx N)]⟩
theorem Zk3 : Callable Try.prog 100 := callable_of Try.func100 (show chkFn Try.f100 = true by kernel_rfl)
theorem Zk4 (N : Nat) : Good Try.prog 100 (Ze2 N) := GF Zk2 N Try.func100 (ctx_cons (Zn1 N) Zn0 ctx_nil) (by kernel_rfl) (fun d => by kernel_rfl)
noncomputable def Zfy (N : Nat) : Sig := Sig.of [.box (.prod (.own (.int .i64)) (.prod (.own (.int .i64)) (.prod (.own (.prod (.int .i64) (.int .i64))) (.prod (.int .i64) (.prod (.own (.prod (.int .i64) (.prod (.int .i64) (.own (.int .i64))))) (.own (.int .i64))))))), .v (.slice (.prod (.int .i64) (.prod (.int .i64) (.prod (.int .i64) (.int .i64))))) false] [.v (.int .i64) false] (fun d => Za3 N d.1 d.2.1)
noncomputable def Zeh : Fn := ⟨Try.f62, fun | 2 => [.canon [0, 1, 5, 12]] | 3 => [.canon [0, 1, 5]] | 4 => [.canon [0, 1, 5, 6]] | 5 => [.canon [0, 1, 5, 6, 20]] | 6 => [.canon [0, 1, 5]] | 7 => [.canon [0, 1, 5, 6, 20, 33]] | 8 => [.canon [0, 1, 5, 6, 41]] | 9 => [.canon [0, 1, 5, 6]] | 10 => [.canon [0, 1, 5]] | 11 => [.canon [0, 1, 5, 6, 20, 68]] | 12 => [.canon [0, 1, 5, 6]] | 13 => [.canon [0, 1, 5]] | 14 => [.canon [0, 1, 5, 6, 20, 105]] | 15 => [.canon [0, 1, 5, 6, 115]] | 16 => [.canon [0, 1, 5]] | 17 => [.canon [0, 1, 5, 6, 20, 120]] | 18 => [.nest 139 (.prod (.int .i64) (.prod (.int .i64) (.own (.int .i64)))), .canon [0, 1, 5]] | 19 => [.canon [0, 1, 5, 6, 20, 143]] | 20 => [.canon [0, 1, 5, 7]] | 21 => [.canon [0, 1, 5, 7]] | 22 => [.canon [0, 1, 5]] | 23 => [.canon [0, 1, 5, 6, 182]] | 24 => [.canon [0, 1, 8]] | 25 => [.canon [0, 1, 8, 188]] | 26 => [.canon [0, 4]] | 27 => [.canon [0, 1, 5]] | 100002 => [.canon [0, 1, 5]] | _ => [], Zfy, fun N => [(98, Z5 N), (49, Zar N), (100, Ze2 N), (101, Zf5 N), (102, Zgl N)]⟩
def Zju (code3 : List (Int × Int × Int × Int)) (i4 : Int) (b5 : Int) (l6 : List Int) (l7 : List Int) (l8 : List (Int × Int)) (l9 : List (Int × Int × List Int)) (l10 : List Int) : St := ⟨[(0, vP 0 0), (1, vV (.slice (.prod (.int .i64) (.prod (.int .i64) (.prod (.int .i64) (.int .i64))))) code3), (5, vI i4)], [(0, .box [.own 1, .own 2, .own 3, .val (.int .i64) b5, .own 4, .own 5]), (1, .arr (.int .i64) l6), (2, .arr (.int .i64) l7), (3, .arr (.prod (.int .i64) (.int .i64)) l8), (4, .arr (.prod (.int .i64) (.prod (.int .i64) (.own (.int .i64)))) l9), (5, .arr (.int .i64) l10)], 6⟩
def Zi9 (code3 : List (Int × Int × Int × Int)) (b16 : Int) (l17 : List Int) (l18 : List Int) (l19 : List (Int × Int)) (l20 : List (Int × Int × List Int)) (l21 : List Int) : St := ⟨[(0, vP 0 0), (4, vI 2)], [(0, .box [.own 1, .own 2, .own 3, .val (.int .i64) b16, .own 4, .own 5]), (1, .arr (.int .i64) l17), (2, .arr (.int .i64) l18), (3, .arr (.prod (.int .i64) (.int .i64)) l19), (4, .arr (.prod (.int .i64) (.prod (.int .i64) (.own (.int .i64)))) l20), (5, .arr (.int .i64) l21)], 6⟩
def Zja (code3 : List (Int × Int × Int × Int)) (i22 : Int) (t23 : Bool) (b24 : Int) (l25 : List Int) (l26 : List Int) (l27 : List (Int × Int)) (l28 : List (Int × Int × List Int)) (l29 : List Int) : St := ⟨[(0, vP 0 0), (1, vV (.slice (.prod (.int .i64) (.prod (.int .i64) (.prod (.int .i64) (.int .i64))))) code3), (5, vI i22), (12, vB t23)], [(0, .box [.own 1, .own 2, .own 3, .val (.int .i64) b24, .own 4, .own 5]), (1, .arr (.int .i64) l25), (2, .arr (.int .i64) l26), (3, .arr (.prod (.int .i64) (.int .i64)) l27), (4, .arr (.prod (.int .i64) (.prod (.int .i64) (.own (.int .i64)))) l28), (5, .arr (.int .i64) l29)], 6⟩
theorem Zjv (N : Nat) {R : Type} (K : Ex → St → Option R) {code3 : List (Int × Int × Int × Int)} {K0 : Int → (List Int) → (List Int) → (List (Int × Int)) → (List (Int × Int × List Int)) → (List Int) → Option R} {K1 : Int → Bool → Int → (List Int) → (List Int) → (List (Int × Int)) → (List (Int × Int × List Int)) → (List Int) → Option R} (h0 : K0 = fun b16 l17 l18 l19 l20 l21 => K .ret (Zi9 code3 b16 l17 l18 l19 l20 l21)) (h1 : K1 = fun i22 t23 b24 l25 l26 l27 l28 l29 => K (.exit 0) (Zja code3 i22 t23 b24 l25 l26 l27 l28 l29)) (n : Nat) (i4 : Int) (b5 : Int) (l6 : List Int) (l7 : List Int) (l8 : List (Int × Int)) (l9 : List (Int × Int × List Int)) (l10 : List Int) : Zs N code3 K0 K1 n i4 b5 l6 l7 l8 l9 l10 = LM Zeh N 0 100002 n (Zju code3 i4 b5 l6 l7 l8 l9 l10) K := by
  subst h0 h1
  induction n generalizing i4 b5 l6 l7 l8 l9 l10 with
  | zero => kernel_rfl
  | succ n ih => rw [Zs]; simp (disch := exact id (by kernel_rfl)) only [ih]; kernel_rfl
theorem Zn2 : Callable Try.prog 62 := callable_of Try.func62 (show chkFn Try.f62 = true by kernel_rfl)
theorem Zn3 (N : Nat) (e1 : List Int × List Int × List (Int × Int) × Int × List (Int × Int × List Int) × List Int) (code2 : List (Int × Int × Int × Int)) : DN Zeh N (e1, code2, ()) = Za3 N e1 code2 := by
  have h : Za3 N e1 code2 = Za3 N e1 code2 := rfl
  conv at h => rhs; rw [Za3]
  simp (disch := exact id (by kernel_rfl)) only [Zjv (R := ((List Int × List Int × List (Int × Int) × Int × List (Int × Int × List Int) × List Int) × Unit) × (Int × Unit)) N (CF Zeh N [1, 0, 1, 0])] at h
  exact Eq.trans (by kernel_rfl) h.symm
theorem Zn4 (N : Nat) : Good Try.prog 62 (Zfy N) := GF Zeh N Try.func62 (ctx_cons (Zci N) Zch (ctx_cons (Zbd N) Zbc (ctx_cons (Zk4 N) Zk3 (ctx_cons (Zj7 N) Zj6 (ctx_cons (Zlx N) Zlw ctx_nil))))) (by kernel_rfl) (fun d => Zn3 N d.1 d.2.1)
noncomputable def Zdm (N : Nat) : Sig := Sig.of [.mut (.int .i64)] [] (fun d => Zal N d.1)
theorem Ze7 : Callable Try.prog 63 := callable_of Try.func63 (show chkFn Try.f63 = true by kernel_rfl)
theorem Ze8 (N : Nat) : Good Try.prog 63 (Zdm N) := good_sortL sortL N
noncomputable def Zbj (N : Nat) : Sig := Sig.of [.v (.own (.int .i64)) false] [.v (.own (.int .i64)) false] (fun d => Zt N d.1)
noncomputable def Zai : Fn := ⟨Try.f64, fun | 4 => [.canon [0, 3, 13]] | 5 => [.canon [0, 3]] | 6 => [.canon [0, 3, 25]] | 7 => [.view 28, .canon [0, 3, 4]] | 8 => [.canon [0, 3, 4, 5]] | 9 => [.canon [0, 3, 4, 5, 32]] | 10 => [.canon [0, 3, 4, 5]] | 11 => [.canon [0, 3, 4, 5, 44]] | 12 => [.canon [0, 3, 4, 5]] | 13 => [.canon [0, 3, 4, 5]] | 14 => [.view 56, .canon [0, 3]] | 15 => [.canon [2]] | 100004 => [.canon [0, 3]] | 100009 => [.canon [0, 3, 4, 5]] | _ => [], Zbj, noCtx⟩
def Zgh (k4 : Int) (s5 : Nat) (s6 : Nat) (k7 : Int) (l8 : List Int) : St := ⟨[(0, vO 0), (3, vI k4), (4, .s (.one (.vw 0 s5 s6))), (5, vI k7)], [(0, .arr (.int .i64) l8)], 1⟩
def Zgd (s5 : Nat) (s6 : Nat) (k9 : Int) (k10 : Int) (t11 : Bool) (l12 : List Int) : St := ⟨[(0, vO 0), (3, vI k9), (4, .s (.one (.vw 0 s5 s6))), (5, vI k10), (32, vB t11)], [(0, .arr (.int .i64) l12)], 1⟩
theorem Zgi (N : Nat) {R : Type} (K : Ex → St → Option R) {s5 : Nat} {s6 : Nat} {K0 : Int → Int → Bool → (List Int) → Option R} (h0 : K0 = fun k9 k10 t11 l12 => K (.exit 2) (Zgd s5 s6 k9 k10 t11 l12)) (n : Nat) (k4 : Int) (k7 : Int) (l8 : List Int) : Z4 N s5 s6 K0 n k4 k7 l8 = LM Zai N 1 100009 n (Zgh k4 s5 s6 k7 l8) K := by
  subst h0
  induction n generalizing k4 k7 l8 with
  | zero => kernel_rfl
  | succ n ih => rw [Z4]; simp (disch := exact id (by kernel_rfl)) only [ih]; kernel_rfl
def Zgj (k2 : Int) (l3 : List Int) : St := ⟨[(0, vO 0), (3, vI k2)], [(0, .arr (.int .i64) l3)], 1⟩
def Zge (l3 : List Int) (l17 : List Int) : St := ⟨[(2, vO 0)], [(0, .arr (.int .i64) l17)], 1⟩
def Zgf (l3 : List Int) (k18 : Int) (t19 : Bool) : St := ⟨[(0, vO 0), (3, vI k18), (13, vB t19)], [(0, .arr (.int .i64) l3)], 1⟩
theorem Zgk (N : Nat) {R : Type} (K : Ex → St → Option R) {l3 : List Int} {K0 : (List Int) → Option R} {K1 : Int → Bool → Option R} (h0 : K0 = fun l17 => K .ret (Zge l3 l17)) (h1 : K1 = fun k18 t19 => K (.exit 0) (Zgf l3 k18 t19)) (n : Nat) (k2 : Int) : Zae N l3 K0 K1 n k2 = LM Zai N 0 100004 n (Zgj k2 l3) K := by
  subst h0 h1
  induction n generalizing k2 with
  | zero => kernel_rfl
  | succ n ih => rw [Zae]; simp (disch := exact id (by kernel_rfl)) only [ih, Zgi N (CL Zai N 0 100004 [1, 0, 0, 1, 0, 1, 0, 1, 0] n K)]; kernel_rfl
theorem Zej : Callable Try.prog 64 := callable_of Try.func64 (show chkFn Try.f64 = true by kernel_rfl)
theorem Zho (N : Nat) (s1 : List Int) : DN Zai N (s1, ()) = Zt N s1 := by
  have h : Zt N s1 = Zt N s1 := rfl
  conv at h => rhs; rw [Zt]
  simp (disch := exact id (by kernel_rfl)) only [Zgk (R := Unit × ((List Int) × Unit)) N (CF Zai N [1, 1, 0, 1, 0])] at h
  exact Eq.trans (by kernel_rfl) h.symm
theorem Zek (N : Nat) : Good Try.prog 64 (Zbj N) := GF Zai N Try.func64 ctx_nil (by kernel_rfl) (fun d => Zho N d.1)
noncomputable def Zgy (N : Nat) : Sig := Sig.of [.v (.slice (.prod (.int .i64) (.prod (.int .i64) (.prod (.int .i64) (.int .i64))))) false, .v (.slice (.int .i64)) false, .v (.slice (.int .i64)) false] [.v (.own (.int .i64)) false] (fun d => Zf1 N d.1 d.2.1 d.2.2.1)
noncomputable def Zpa : Fn := ⟨Try.f22, noAnn, Zgy, fun N => [(61, Zh3 N), (62, Zfy N), (63, Zdm N), (64, Zbj N)]⟩
theorem Zpb : Callable Try.prog 22 := callable_of Try.func22 (show chkFn Try.f22 = true by kernel_rfl)
theorem Zpc (N : Nat) : Good Try.prog 22 (Zgy N) := GF Zpa N Try.func22 (ctx_cons (Zrb N) Zra (ctx_cons (Zn4 N) Zn2 (ctx_cons (Ze8 N) Ze7 (ctx_cons (Zek N) Zej ctx_nil)))) (by kernel_rfl) (fun d => by kernel_rfl)
noncomputable def Zhf (N : Nat) : Sig := Sig.of [.v (.slice (.slice (.prod (.int .i64) (.prod (.int .i64) (.prod (.int .i64) (.int .i64)))))) false, .v (.slice (.int .i64)) false, .v (.slice (.int .i64)) false] [.v (.prod (.int .i64) (.prod (.own (.int .i64)) (.prod (.own (.int .i64)) (.own (.int .i64))))) true] (fun d => Za7 N d.1 d.2.1 d.2.2.1)
noncomputable def Zfk : Fn := ⟨Try.f29, fun | 5 => [.canon [1, 2, 6, 7, 20, 21, 22, 23]] | 6 => [.canon [1, 2, 6, 7, 8, 9, 20, 21, 22]] | 7 => [.canon [1, 2, 6, 7, 8, 9, 10, 11, 12, 20, 21, 22]] | 8 => [.canon [1, 2, 6, 7, 8, 9, 11, 12, 20, 21, 22, 37]] | 9 => [.canon [6]] | 10 => [.canon [1, 2, 6, 7, 20, 21, 22]] | 11 => [.canon [1, 2, 6, 7, 20, 21, 22]] | 100005 => [.canon [1, 2, 6, 7, 20, 21, 22]] | _ => [], Zhf, fun N => [(67, Zha N), (68, Zfw N), (22, Zgy N), (63, Zdm N), (49, Zar N), (64, Zbj N)]⟩
def Zmt (regs5 : List Int) (cells6 : List Int) (t7 : List (List (Int × Int × Int × Int))) (t9 : Int) (l11 : List Int) : St := ⟨[(1, vV (.slice (.int .i64)) regs5), (2, vV (.slice (.int .i64)) cells6), (6, vP 0 0), (7, vO 1), (20, vV (.slice (.slice (.prod (.int .i64) (.prod (.int .i64) (.prod (.int .i64) (.int .i64)))))) t7), (21, vI (ilen t7)), (22, vI t9)], [(0, .box [.val (.int .i64) (0 : Int), .nils, .nils, .nils]), (1, .arr (.int .i64) l11)], 2⟩
def Zk5 (regs5 : List Int) (cells6 : List Int) (t7 : List (List (Int × Int × Int × Int))) (b16 : Int) (l17 : List Int) (l18 : List Int) : St := ⟨[(6, vP 0 0)], [(0, .box [.val (.int .i64) b16, .own 1, .own 2, .nils]), (1, .arr (.int .i64) l17), (2, .arr (.int .i64) l18)], 3⟩
def Zk6 (regs5 : List Int) (cells6 : List Int) (t7 : List (List (Int × Int × Int × Int))) (t19 : Int) (t20 : Bool) (l21 : List Int) : St := ⟨[(1, vV (.slice (.int .i64)) regs5), (2, vV (.slice (.int .i64)) cells6), (6, vP 0 0), (7, vO 1), (20, vV (.slice (.slice (.prod (.int .i64) (.prod (.int .i64) (.prod (.int .i64) (.int .i64)))))) t7), (21, vI (ilen t7)), (22, vI t19), (23, vB t20)], [(0, .box [.val (.int .i64) (0 : Int), .nils, .nils, .nils]), (1, .arr (.int .i64) l21)], 2⟩
theorem Zmu (N : Nat) {R : Type} (K : Ex → St → Option R) {regs5 : List Int} {cells6 : List Int} {t7 : List (List (Int × Int × Int × Int))} {K0 : Int → (List Int) → (List Int) → Option R} {K1 : Int → Bool → (List Int) → Option R} (h0 : K0 = fun b16 l17 l18 => K .ret (Zk5 regs5 cells6 t7 b16 l17 l18)) (h1 : K1 = fun t19 t20 l21 => K (.exit 0) (Zk6 regs5 cells6 t7 t19 t20 l21)) (n : Nat) (t9 : Int) (l11 : List Int) : Zbz N regs5 cells6 t7 K0 K1 n t9 l11 = LM Zfk N 0 100005 n (Zmt regs5 cells6 t7 t9 l11) K := by
  subst h0 h1
  induction n generalizing t9 l11 with
  | zero => kernel_rfl
  | succ n ih => rw [Zbz]; simp (disch := exact id (by kernel_rfl)) only [ih]; kernel_rfl
theorem Zp6 : Callable Try.prog 29 := callable_of Try.func29 (show chkFn Try.f29 = true by kernel_rfl)
theorem Zp7 (N : Nat) (l1 : List (List (Int × Int × Int × Int))) (regs2 : List Int) (cells3 : List Int) : DN Zfk N (l1, regs2, cells3, ()) = Za7 N l1 regs2 cells3 := by
  have h : Za7 N l1 regs2 cells3 = Za7 N l1 regs2 cells3 := rfl
  conv at h => rhs; rw [Za7]
  simp (disch := exact id (by kernel_rfl)) only [Zmu (R := Unit × ((Int × List Int × List Int × List Int) × Unit)) N (CF Zfk N [1, 1, 1, 0, 1, 0])] at h
  exact Eq.trans (by kernel_rfl) h.symm
theorem Zp8 (N : Nat) : Good Try.prog 29 (Zhf N) := GF Zfk N Try.func29 (ctx_cons (Zp0 N) Zpz (ctx_cons (Zny N) Znx (ctx_cons (Zpc N) Zpb (ctx_cons (Ze8 N) Ze7 (ctx_cons (Zbd N) Zbc (ctx_cons (Zek N) Zej ctx_nil)))))) (by kernel_rfl) (fun d => Zp7 N d.1 d.2.1 d.2.2.1)
noncomputable def Zd8 (N : Nat) : Sig := Sig.of [.v (.int .i64) false, .v (.int .i64) false, .v (.int .i64) false] [.v (.bool) false] (fun d => Ze N d.1 d.2.1 d.2.2.1)
noncomputable def Zrm : Fn := ⟨Try.f40, noAnn, Zd8, noCtx⟩
theorem Zgm : Callable Try.prog 40 := callable_of Try.func40 (show chkFn Try.f40 = true by kernel_rfl)
theorem Zgn (N : Nat) : Good Try.prog 40 (Zd8 N) := GF Zrm N Try.func40 ctx_nil (by kernel_rfl) (fun d => by kernel_rfl)
noncomputable def Zew (N : Nat) : Sig := Sig.of [.v (.int .i64) false] [.v (.bool) false] (fun d => Zc8 N d.1)
noncomputable def Zrc : Fn := ⟨Try.f81, noAnn, Zew, fun N => [(40, Zd8 N)]⟩
theorem Zh4 : Callable Try.prog 81 := callable_of Try.func81 (show chkFn Try.f81 = true by kernel_rfl)
theorem Zh5 (N : Nat) : Good Try.prog 81 (Zew N) := GF Zrc N Try.func81 (ctx_cons (Zgn N) Zgm ctx_nil) (by kernel_rfl) (fun d => by kernel_rfl)
noncomputable def Zei (N : Nat) : Sig := Sig.of [.v (.slice (.int .i64)) false] [.v (.bool) false] (fun d => Za0 N d.1)
noncomputable def Zfl : Fn := ⟨Try.f55, fun | 4 => [.canon [0, 3, 10]] | 5 => [.canon [0, 3]] | 6 => [.canon [0, 3, 18]] | 7 => [.canon [2]] | 100004 => [.canon [0, 3]] | _ => [], Zei, fun N => [(81, Zew N)]⟩
def Zmv (l2 : List Int) (i3 : Int) : St := ⟨[(0, vV (.slice (.int .i64)) l2), (3, vI i3)], [], 0⟩
def Zk7 (l2 : List Int) : St := ⟨[(2, vB false)], [], 0⟩
def Zk8 (l2 : List Int) (i5 : Int) (t6 : Bool) : St := ⟨[(0, vV (.slice (.int .i64)) l2), (3, vI i5), (10, vB t6)], [], 0⟩
theorem Zmw (N : Nat) {R : Type} (K : Ex → St → Option R) {l2 : List Int} {K0 : Option R} {K1 : Int → Bool → Option R} (h0 : K0 = K .ret (Zk7 l2)) (h1 : K1 = fun i5 t6 => K (.exit 0) (Zk8 l2 i5 t6)) (n : Nat) (i3 : Int) : Zbu N l2 K0 K1 n i3 = LM Zfl N 0 100004 n (Zmv l2 i3) K := by
  subst h0 h1
  induction n generalizing i3 with
  | zero => kernel_rfl
  | succ n ih => rw [Zbu]; simp (disch := exact id (by kernel_rfl)) only [ih]; kernel_rfl
theorem Zhg : Callable Try.prog 55 := callable_of Try.func55 (show chkFn Try.f55 = true by kernel_rfl)
theorem Zp9 (N : Nat) (l1 : List Int) : DN Zfl N (l1, ()) = Za0 N l1 := by
  have h : Za0 N l1 = Za0 N l1 := rfl
  conv at h => rhs; rw [Za0]
  simp (disch := exact id (by kernel_rfl)) only [Zmw (R := Unit × (Bool × Unit)) N (CF Zfl N [1, 1, 0, 1, 0])] at h
  exact Eq.trans (by kernel_rfl) h.symm
theorem Zhh (N : Nat) : Good Try.prog 55 (Zei N) := GF Zfl N Try.func55 (ctx_cons (Zh5 N) Zh4 ctx_nil) (by kernel_rfl) (fun d => Zp9 N d.1)
noncomputable def Zfm (N : Nat) : Sig := Sig.of [.v (.slice (.int .i64)) false] [.v (.bool) false] (fun d => Zas N d.1)
noncomputable def Zfn : Fn := ⟨Try.f51, fun | 4 => [.canon [0, 3, 10]] | 5 => [.canon [0, 3]] | 6 => [.canon [0, 3, 18]] | 7 => [.canon [2]] | 100004 => [.canon [0, 3]] | _ => [], Zfm, fun N => [(81, Zew N)]⟩
def Zmx (l2 : List Int) (i3 : Int) : St := ⟨[(0, vV (.slice (.int .i64)) l2), (3, vI i3)], [], 0⟩
def Zk9 (l2 : List Int) : St := ⟨[(2, vB false)], [], 0⟩
def Zla (l2 : List Int) (i5 : Int) (t6 : Bool) : St := ⟨[(0, vV (.slice (.int .i64)) l2), (3, vI i5), (10, vB t6)], [], 0⟩
theorem Zmy (N : Nat) {R : Type} (K : Ex → St → Option R) {l2 : List Int} {K0 : Option R} {K1 : Int → Bool → Option R} (h0 : K0 = K .ret (Zk9 l2)) (h1 : K1 = fun i5 t6 => K (.exit 0) (Zla l2 i5 t6)) (n : Nat) (i3 : Int) : Zbs N l2 K0 K1 n i3 = LM Zfn N 0 100004 n (Zmx l2 i3) K := by
  subst h0 h1
  induction n generalizing i3 with
  | zero => kernel_rfl
  | succ n ih => rw [Zbs]; simp (disch := exact id (by kernel_rfl)) only [ih]; kernel_rfl
theorem Zjj : Callable Try.prog 51 := callable_of Try.func51 (show chkFn Try.f51 = true by kernel_rfl)
theorem Zqa (N : Nat) (l1 : List Int) : DN Zfn N (l1, ()) = Zas N l1 := by
  have h : Zas N l1 = Zas N l1 := rfl
  conv at h => rhs; rw [Zas]
  simp (disch := exact id (by kernel_rfl)) only [Zmy (R := Unit × (Bool × Unit)) N (CF Zfn N [1, 1, 0, 1, 0])] at h
  exact Eq.trans (by kernel_rfl) h.symm
theorem Zjk (N : Nat) : Good Try.prog 51 (Zfm N) := GF Zfn N Try.func51 (ctx_cons (Zh5 N) Zh4 ctx_nil) (by kernel_rfl) (fun d => Zqa N d.1)
noncomputable def Zh6 (N : Nat) : Sig := Sig.of [.v (.int .i64) false] [.v (.bool) false] (fun d => Za N d.1)
noncomputable def Zrd : Fn := ⟨Try.f120, noAnn, Zh6, fun N => [(40, Zd8 N)]⟩
theorem Zre : Callable Try.prog 120 := callable_of Try.func120 (show chkFn Try.f120 = true by kernel_rfl)
theorem Zrf (N : Nat) : Good Try.prog 120 (Zh6 N) := GF Zrd N Try.func120 (ctx_cons (Zgn N) Zgm ctx_nil) (by kernel_rfl) (fun d => by kernel_rfl)
noncomputable def Zhi (N : Nat) : Sig := Sig.of [.v (.int .i64) false] [.v (.bool) false] (fun d => Zay N d.1)
noncomputable def Zqb : Fn := ⟨Try.f80, noAnn, Zhi, fun N => [(40, Zd8 N)]⟩
theorem Zqc : Callable Try.prog 80 := callable_of Try.func80 (show chkFn Try.f80 = true by kernel_rfl)
theorem Zqd (N : Nat) : Good Try.prog 80 (Zhi N) := GF Zqb N Try.func80 (ctx_cons (Zgn N) Zgm ctx_nil) (by kernel_rfl) (fun d => by kernel_rfl)
noncomputable def Ze9 (N : Nat) : Sig := Sig.of [.v (.prod (.int .i64) (.prod (.int .i64) (.prod (.int .i64) (.int .i64)))) true] [.v (.bool) false] (fun d => Zp N d.1)
noncomputable def Zrn : Fn := ⟨Try.f96, noAnn, Ze9, fun N => [(120, Zh6 N), (81, Zew N), (80, Zhi N), (40, Zd8 N)]⟩
theorem Zik : Callable Try.prog 96 := callable_of Try.func96 (show chkFn Try.f96 = true by kernel_rfl)
theorem Zil (N : Nat) : Good Try.prog 96 (Ze9 N) := GF Zrn N Try.func96 (ctx_cons (Zrf N) Zre (ctx_cons (Zh5 N) Zh4 (ctx_cons (Zqd N) Zqc (ctx_cons (Zgn N) Zgm ctx_nil)))) (by kernel_rfl) (fun d => by kernel_rfl)
noncomputable def Zhj (N : Nat) : Sig := Sig.of [.v (.slice (.prod (.int .i64) (.prod (.int .i64) (.prod (.int .i64) (.int .i64))))) false, .v (.int .i64) false] [.v (.bool) false] (fun d => Zcz N d.1 d.2.1)
noncomputable def Zfo : Fn := ⟨Try.f119, fun | 6 => [.canon [0, 5, 6, 7, 24]] | 7 => [.canon [0, 5, 6, 7]] | 8 => [.canon [0, 5, 6, 7, 32]] | 9 => [.canon [0, 5, 6, 7]] | 10 => [.canon [0, 5, 6, 7, 40]] | 11 => [.canon [0, 5, 6, 7]] | 12 => [.canon [0, 5, 6, 7, 44]] | 13 => [.canon [4]] | 100006 => [.canon [0, 5, 6, 7]] | _ => [], Zhj, noCtx⟩
def Zmz (code3 : List (Int × Int × Int × Int)) (to4 : Int) (d5 : Int) (k6 : Int) : St := ⟨[(0, vV (.slice (.prod (.int .i64) (.prod (.int .i64) (.prod (.int .i64) (.int .i64))))) code3), (5, vI to4), (6, vI d5), (7, vI k6)], [], 0⟩
def Zlb (code3 : List (Int × Int × Int × Int)) (to4 : Int) : St := ⟨[(4, vB false)], [], 0⟩
def Zlc (code3 : List (Int × Int × Int × Int)) (to4 : Int) (d7 : Int) (k8 : Int) (t9 : Bool) : St := ⟨[(0, vV (.slice (.prod (.int .i64) (.prod (.int .i64) (.prod (.int .i64) (.int .i64))))) code3), (5, vI to4), (6, vI d7), (7, vI k8), (24, vB t9)], [], 0⟩
theorem Zm0 (N : Nat) {R : Type} (K : Ex → St → Option R) {code3 : List (Int × Int × Int × Int)} {to4 : Int} {K0 : Option R} {K1 : Int → Int → Bool → Option R} (h0 : K0 = K .ret (Zlb code3 to4)) (h1 : K1 = fun d7 k8 t9 => K (.exit 0) (Zlc code3 to4 d7 k8 t9)) (n : Nat) (d5 : Int) (k6 : Int) : Zag N code3 to4 K0 K1 n d5 k6 = LM Zfo N 0 100006 n (Zmz code3 to4 d5 k6) K := by
  subst h0 h1
  induction n generalizing d5 k6 with
  | zero => kernel_rfl
  | succ n ih => rw [Zag]; simp (disch := exact id (by kernel_rfl)) only [ih]; kernel_rfl
theorem Zqe : Callable Try.prog 119 := callable_of Try.func119 (show chkFn Try.f119 = true by kernel_rfl)
theorem Zqf (N : Nat) (code1 : List (Int × Int × Int × Int)) (i2 : Int) : DN Zfo N (code1, i2, ()) = Zcz N code1 i2 := by
  have h : Zcz N code1 i2 = Zcz N code1 i2 := rfl
  conv at h => rhs; rw [Zcz]
  simp (disch := exact id (by kernel_rfl)) only [Zm0 (R := Unit × (Bool × Unit)) N (CF Zfo N [1, 1, 1, 1, 0, 1, 0])] at h
  exact Eq.trans (by kernel_rfl) h.symm
theorem Zqg (N : Nat) : Good Try.prog 119 (Zhj N) := GF Zfo N Try.func119 ctx_nil (by kernel_rfl) (fun d => Zqf N d.1 d.2.1)
noncomputable def Zhk (N : Nat) : Sig := Sig.of [.v (.slice (.prod (.int .i64) (.prod (.int .i64) (.prod (.int .i64) (.int .i64))))) false] [.v (.bool) false] (fun d => Zc0 N d.1)
noncomputable def Zfp : Fn := ⟨Try.f93, fun | 6 => [.canon [0, 3, 4, 5, 12]] | 7 => [.canon [0, 3, 4, 5]] | 8 => [.canon [0, 3, 4, 5, 20]] | 9 => [.canon [2]] | 10 => [.canon [0, 3, 4, 5, 25]] | 11 => [.canon [0, 3, 4, 5, 25, 26]] | 12 => [.canon [0, 3, 4, 5]] | 13 => [.canon [0, 3, 4, 5, 25, 30]] | 14 => [.canon [0, 3, 4, 5]] | 15 => [.canon [0, 3, 4, 5, 25, 34]] | 16 => [.canon [0, 3, 4, 5, 39]] | 17 => [.canon [2]] | 18 => [.canon [0, 3, 4, 5, 40]] | 19 => [.canon [0, 3, 4, 5]] | 20 => [.canon [0, 3, 4, 5, 49]] | 21 => [.canon [2]] | 22 => [.canon [0, 3, 4, 5, 51]] | 23 => [.canon [2]] | 100006 => [.canon [0, 3, 4, 5]] | _ => [], Zhk, fun N => [(96, Ze9 N), (119, Zhj N)]⟩
def Zm1 (code2 : List (Int × Int × Int × Int)) (d3 : Int) (forks4 : Int) (i5 : Int) : St := ⟨[(0, vV (.slice (.prod (.int .i64) (.prod (.int .i64) (.prod (.int .i64) (.int .i64))))) code2), (3, vI d3), (4, vI forks4), (5, vI i5)], [], 0⟩
def Zld (code2 : List (Int × Int × Int × Int)) : St := ⟨[(2, vB false)], [], 0⟩
def Zle (code2 : List (Int × Int × Int × Int)) (d8 : Int) (forks9 : Int) (i10 : Int) (t11 : Bool) : St := ⟨[(0, vV (.slice (.prod (.int .i64) (.prod (.int .i64) (.prod (.int .i64) (.int .i64))))) code2), (3, vI d8), (4, vI forks9), (5, vI i10), (12, vB t11)], [], 0⟩
theorem Zm2 (N : Nat) {R : Type} (K : Ex → St → Option R) {code2 : List (Int × Int × Int × Int)} {K0 : Option R} {K1 : Int → Int → Int → Bool → Option R} (h0 : K0 = K .ret (Zld code2)) (h1 : K1 = fun d8 forks9 i10 t11 => K (.exit 0) (Zle code2 d8 forks9 i10 t11)) (n : Nat) (d3 : Int) (forks4 : Int) (i5 : Int) : Zah N code2 K0 K1 n d3 forks4 i5 = LM Zfp N 0 100006 n (Zm1 code2 d3 forks4 i5) K := by
  subst h0 h1
  induction n generalizing d3 forks4 i5 with
  | zero => kernel_rfl
  | succ n ih => rw [Zah]; simp (disch := exact id (by kernel_rfl)) only [ih]; kernel_rfl
theorem Zqh : Callable Try.prog 93 := callable_of Try.func93 (show chkFn Try.f93 = true by kernel_rfl)
theorem Zqi (N : Nat) (code1 : List (Int × Int × Int × Int)) : DN Zfp N (code1, ()) = Zc0 N code1 := by
  have h : Zc0 N code1 = Zc0 N code1 := rfl
  conv at h => rhs; rw [Zc0]
  simp (disch := exact id (by kernel_rfl)) only [Zm2 (R := Unit × (Bool × Unit)) N (CF Zfp N [1, 1, 1, 1, 0, 1, 0])] at h
  exact Eq.trans (by kernel_rfl) h.symm
theorem Zqj (N : Nat) : Good Try.prog 93 (Zhk N) := GF Zfp N Try.func93 (ctx_cons (Zil N) Zik (ctx_cons (Zqg N) Zqe ctx_nil)) (by kernel_rfl) (fun d => Zqi N d.1)
noncomputable def Zgz (N : Nat) : Sig := Sig.of [.v (.slice (.prod (.int .i64) (.prod (.int .i64) (.prod (.int .i64) (.int .i64))))) false] [.v (.bool) false] (fun d => Zcc N d.1)
noncomputable def Ze3 : Fn := ⟨Try.f94, fun | 2 => [.canon [0, 3, 7]] | 3 => [.canon [0, 3]] | 4 => [.canon [0, 3, 15]] | 5 => [.canon [2]] | 100002 => [.canon [0, 3]] | _ => [], Zgz, noCtx⟩
def Zlf (code2 : List (Int × Int × Int × Int)) (i3 : Int) : St := ⟨[(0, vV (.slice (.prod (.int .i64) (.prod (.int .i64) (.prod (.int .i64) (.int .i64))))) code2), (3, vI i3)], [], 0⟩
def Zka (code2 : List (Int × Int × Int × Int)) : St := ⟨[(2, vB true)], [], 0⟩
def Zkb (code2 : List (Int × Int × Int × Int)) (i4 : Int) (t5 : Bool) : St := ⟨[(0, vV (.slice (.prod (.int .i64) (.prod (.int .i64) (.prod (.int .i64) (.int .i64))))) code2), (3, vI i4), (7, vB t5)], [], 0⟩
theorem Zlg (N : Nat) {R : Type} (K : Ex → St → Option R) {code2 : List (Int × Int × Int × Int)} {K0 : Option R} {K1 : Int → Bool → Option R} (h0 : K0 = K .ret (Zka code2)) (h1 : K1 = fun i4 t5 => K (.exit 0) (Zkb code2 i4 t5)) (n : Nat) (i3 : Int) : Zbl N code2 K0 K1 n i3 = LM Ze3 N 0 100002 n (Zlf code2 i3) K := by
  subst h0 h1
  induction n generalizing i3 with
  | zero => kernel_rfl
  | succ n ih => rw [Zbl]; simp (disch := exact id (by kernel_rfl)) only [ih]; kernel_rfl
theorem Zpd : Callable Try.prog 94 := callable_of Try.func94 (show chkFn Try.f94 = true by kernel_rfl)
theorem Zpe (N : Nat) (code1 : List (Int × Int × Int × Int)) : DN Ze3 N (code1, ()) = Zcc N code1 := by
  have h : Zcc N code1 = Zcc N code1 := rfl
  conv at h => rhs; rw [Zcc]
  simp (disch := exact id (by kernel_rfl)) only [Zlg (R := Unit × (Bool × Unit)) N (CF Ze3 N [1, 0, 1, 0])] at h
  exact Eq.trans (by kernel_rfl) h.symm
theorem Zpf (N : Nat) : Good Try.prog 94 (Zgz N) := GF Ze3 N Try.func94 ctx_nil (by kernel_rfl) (fun d => Zpe N d.1)
noncomputable def Zg0 (N : Nat) : Sig := Sig.of [.v (.prod (.int .i64) (.prod (.int .i64) (.prod (.int .i64) (.int .i64)))) true] [.v (.int .i64) false] (fun d => Za8 N d.1)
noncomputable def Zpg : Fn := ⟨Try.f95, noAnn, Zg0, fun N => [(96, Ze9 N)]⟩
theorem Zph : Callable Try.prog 95 := callable_of Try.func95 (show chkFn Try.f95 = true by kernel_rfl)
theorem Zpi (N : Nat) : Good Try.prog 95 (Zg0 N) := GF Zpg N Try.func95 (ctx_cons (Zil N) Zik ctx_nil) (by kernel_rfl) (fun d => by kernel_rfl)
noncomputable def Zf7 (N : Nat) : Sig := Sig.of [.v (.slice (.prod (.int .i64) (.prod (.int .i64) (.prod (.int .i64) (.int .i64))))) false] [.v (.bool) false] (fun d => Zbm N d.1)
noncomputable def Zf8 : Fn := ⟨Try.f54, fun | 4 => [.canon [0, 3, 14]] | 5 => [.canon [0, 3]] | 6 => [.canon [0, 3, 22]] | 7 => [.canon [2]] | 100004 => [.canon [0, 3]] | _ => [], Zf7, fun N => [(93, Zhk N), (94, Zgz N), (95, Zg0 N)]⟩
def Zn5 (code4 : List (Int × Int × Int × Int)) (i5 : Int) : St := ⟨[(0, vV (.slice (.prod (.int .i64) (.prod (.int .i64) (.prod (.int .i64) (.int .i64))))) code4), (3, vI i5)], [], 0⟩
def Zm3 (code4 : List (Int × Int × Int × Int)) : St := ⟨[(2, vB false)], [], 0⟩
def Zm4 (code4 : List (Int × Int × Int × Int)) (i7 : Int) (t8 : Bool) : St := ⟨[(0, vV (.slice (.prod (.int .i64) (.prod (.int .i64) (.prod (.int .i64) (.int .i64))))) code4), (3, vI i7), (14, vB t8)], [], 0⟩
theorem Zn6 (N : Nat) {R : Type} (K : Ex → St → Option R) {code4 : List (Int × Int × Int × Int)} {K0 : Option R} {K1 : Int → Bool → Option R} (h0 : K0 = K .ret (Zm3 code4)) (h1 : K1 = fun i7 t8 => K (.exit 0) (Zm4 code4 i7 t8)) (n : Nat) (i5 : Int) : Zb7 N code4 K0 K1 n i5 = LM Zf8 N 0 100004 n (Zn5 code4 i5) K := by
  subst h0 h1
  induction n generalizing i5 with
  | zero => kernel_rfl
  | succ n ih => rw [Zb7]; simp (disch := exact id (by kernel_rfl)) only [ih]; kernel_rfl
theorem Zkc : Callable Try.prog 54 := callable_of Try.func54 (show chkFn Try.f54 = true by kernel_rfl)
theorem Zrg (N : Nat) (code1 : List (Int × Int × Int × Int)) : DN Zf8 N (code1, ()) = Zbm N code1 := by
  have h : Zbm N code1 = Zbm N code1 := rfl
  conv at h => rhs; rw [Zbm]
  simp (disch := exact id (by kernel_rfl)) only [Zn6 (R := Unit × (Bool × Unit)) N (CF Zf8 N [1, 1, 0, 1, 0])] at h
  exact Eq.trans (by kernel_rfl) h.symm
theorem Zkd (N : Nat) : Good Try.prog 54 (Zf7 N) := GF Zf8 N Try.func54 (ctx_cons (Zqj N) Zqh (ctx_cons (Zpf N) Zpd (ctx_cons (Zpi N) Zph ctx_nil))) (by kernel_rfl) (fun d => Zrg N d.1)
noncomputable def Zhl (N : Nat) : Sig := Sig.of [.v (.slice (.slice (.prod (.int .i64) (.prod (.int .i64) (.prod (.int .i64) (.int .i64)))))) false, .v (.slice (.int .i64)) false, .v (.slice (.int .i64)) false] [.v (.bool) false] (fun d => Zbr N d.1 d.2.1 d.2.2.1)
noncomputable def Zfq : Fn := ⟨Try.f30, fun | 4 => [.canon [0, 7, 24]] | 5 => [.canon [0, 7]] | 6 => [.canon [0, 7, 33]] | 7 => [.canon [6]] | 100004 => [.canon [0, 7]] | _ => [], Zhl, fun N => [(55, Zei N), (51, Zfm N), (54, Zf7 N)]⟩
def Zm5 (l6 : List (List (Int × Int × Int × Int))) (i7 : Int) : St := ⟨[(0, vV (.slice (.slice (.prod (.int .i64) (.prod (.int .i64) (.prod (.int .i64) (.int .i64)))))) l6), (7, vI i7)], [], 0⟩
def Zlh (l6 : List (List (Int × Int × Int × Int))) : St := ⟨[(6, vB false)], [], 0⟩
def Zli (l6 : List (List (Int × Int × Int × Int))) (i9 : Int) (t10 : Bool) : St := ⟨[(0, vV (.slice (.slice (.prod (.int .i64) (.prod (.int .i64) (.prod (.int .i64) (.int .i64)))))) l6), (7, vI i9), (24, vB t10)], [], 0⟩
theorem Zm6 (N : Nat) {R : Type} (K : Ex → St → Option R) {l6 : List (List (Int × Int × Int × Int))} {K0 : Option R} {K1 : Int → Bool → Option R} (h0 : K0 = K .ret (Zlh l6)) (h1 : K1 = fun i9 t10 => K (.exit 0) (Zli l6 i9 t10)) (n : Nat) (i7 : Int) : Zbv N l6 K0 K1 n i7 = LM Zfq N 0 100004 n (Zm5 l6 i7) K := by
  subst h0 h1
  induction n generalizing i7 with
  | zero => kernel_rfl
  | succ n ih => rw [Zbv]; simp (disch := exact id (by kernel_rfl)) only [ih]; kernel_rfl
theorem Zqk : Callable Try.prog 30 := callable_of Try.func30 (show chkFn Try.f30 = true by kernel_rfl)
theorem Zql (N : Nat) (l1 : List (List (Int × Int × Int × Int))) (regs2 : List Int) (cells3 : List Int) : DN Zfq N (l1, regs2, cells3, ()) = Zbr N l1 regs2 cells3 := by
  have h : Zbr N l1 regs2 cells3 = Zbr N l1 regs2 cells3 := rfl
  conv at h => rhs; rw [Zbr]
  simp (disch := exact id (by kernel_rfl)) only [Zm6 (R := Unit × (Bool × Unit)) N (CF Zfq N [1, 1, 0, 1, 0])] at h
  exact Eq.trans (by kernel_rfl) h.symm
theorem Zqm (N : Nat) : Good Try.prog 30 (Zhl N) := GF Zfq N Try.func30 (ctx_cons (Zhh N) Zhg (ctx_cons (Zjk N) Zjj (ctx_cons (Zkd N) Zkc ctx_nil))) (by kernel_rfl) (fun d => Zql N d.1 d.2.1 d.2.2.1)
noncomputable def Zhm (N : Nat) : Sig := Sig.of [.v (.prod (.slice (.int .i64)) (.prod (.slice (.int .i64)) (.int .i64))) true] [.v (.prod (.own (.int .i64)) (.prod (.own (.int .i64)) (.int .i64))) true] (fun d => Zdl N d.1)
noncomputable def Zqn : Fn := ⟨Try.f109, noAnn, Zhm, noCtx⟩
theorem Zqo : Callable Try.prog 109 := callable_of Try.func109 (show chkFn Try.f109 = true by kernel_rfl)
theorem Zqp (N : Nat) : Good Try.prog 109 (Zhm N) := GF Zqn N Try.func109 ctx_nil (by kernel_rfl) (fun d => by kernel_rfl)
noncomputable def Zh7 (N : Nat) : Sig := Sig.of [.v (.slice (.prod (.int .i64) (.prod (.int .i64) (.prod (.int .i64) (.int .i64))))) false, .v (.int .i64) false] [.v (.int .i64) false] (fun d => Zbn N d.1 d.2.1)
noncomputable def Zf9 : Fn := ⟨Try.f58, fun | 5 => [.canon [0, 5, 6, 27]] | 6 => [.canon [0, 5, 6]] | 7 => [.canon [0, 5, 6, 35]] | 8 => [.canon [0, 5, 6]] | 9 => [.canon [0, 5, 6, 43]] | 10 => [.canon [0, 5, 6]] | 11 => [.canon [0, 5, 6, 47]] | 12 => [.canon [4]] | 100005 => [.canon [0, 5, 6]] | _ => [], Zh7, noCtx⟩
def Zn7 (code3 : List (Int × Int × Int × Int)) (d4 : Int) (k5 : Int) : St := ⟨[(0, vV (.slice (.prod (.int .i64) (.prod (.int .i64) (.prod (.int .i64) (.int .i64))))) code3), (5, vI d4), (6, vI k5)], [], 0⟩
def Zm7 (code3 : List (Int × Int × Int × Int)) (t6 : Int) : St := ⟨[(4, vI t6)], [], 0⟩
def Zm8 (code3 : List (Int × Int × Int × Int)) (d7 : Int) (k8 : Int) (t9 : Bool) : St := ⟨[(0, vV (.slice (.prod (.int .i64) (.prod (.int .i64) (.prod (.int .i64) (.int .i64))))) code3), (5, vI d7), (6, vI k8), (27, vB t9)], [], 0⟩
theorem Zn8 (N : Nat) {R : Type} (K : Ex → St → Option R) {code3 : List (Int × Int × Int × Int)} {K0 : Int → Option R} {K1 : Int → Int → Bool → Option R} (h0 : K0 = fun t6 => K .ret (Zm7 code3 t6)) (h1 : K1 = fun d7 k8 t9 => K (.exit 0) (Zm8 code3 d7 k8 t9)) (n : Nat) (d4 : Int) (k5 : Int) : Zak N code3 K0 K1 n d4 k5 = LM Zf9 N 0 100005 n (Zn7 code3 d4 k5) K := by
  subst h0 h1
  induction n generalizing d4 k5 with
  | zero => kernel_rfl
  | succ n ih => rw [Zak]; simp (disch := exact id (by kernel_rfl)) only [ih]; kernel_rfl
theorem Zrh : Callable Try.prog 58 := callable_of Try.func58 (show chkFn Try.f58 = true by kernel_rfl)
theorem Zri (N : Nat) (code1 : List (Int × Int × Int × Int)) (i2 : Int) : DN Zf9 N (code1, i2, ()) = Zbn N code1 i2 := by
  have h : Zbn N code1 i2 = Zbn N code1 i2 := rfl
  conv at h => rhs; rw [Zbn]
  simp (disch := exact id (by kernel_rfl)) only [Zn8 (R := Unit × (Int × Unit)) N (CF Zf9 N [1, 1, 1, 0, 1, 0])] at h
  exact Eq.trans (by kernel_rfl) h.symm
theorem Zrj (N : Nat) : Good Try.prog 58 (Zh7 N) := GF Zf9 N Try.func58 ctx_nil (by kernel_rfl) (fun d => Zri N d.1 d.2.1)
noncomputable def Zim (N : Nat) : Sig := Sig.of [.v (.prod (.int .i64) (.prod (.int .i64) (.prod (.int .i64) (.int .i64)))) true, .v (.slice (.int .i64)) false] [.v (.own (.int .i64)) false, .v (.bool) false] (fun d => Zfa N d.1 d.2.1)
noncomputable def Zro : Fn := ⟨Try.f59, noAnn, Zim, fun N => [(96, Ze9 N), (55, Zei N)]⟩
theorem Zrp : Callable Try.prog 59 := callable_of Try.func59 (show chkFn Try.f59 = true by kernel_rfl)
theorem Zrq (N : Nat) : Good Try.prog 59 (Zim N) := GF Zro N Try.func59 (ctx_cons (Zil N) Zik (ctx_cons (Zhh N) Zhg ctx_nil)) (by kernel_rfl) (fun d => by kernel_rfl)
noncomputable def Ze4 (N m : Nat) : Sig := Sig.of [.v (.slice (.prod (.int .i64) (.prod (.int .i64) (.prod (.int .i64) (.int .i64))))) false, .v (.slice (.slice (.prod (.int .i64) (.prod (.int .i64) (.prod (.int .i64) (.int .i64)))))) false, .v (.slice (.int .i64)) false, .v (.slice (.int .i64)) false, .v (.prod (.slice (.int .i64)) (.prod (.slice (.int .i64)) (.int .i64))) true] [.v (.prod (.int .i64) (.prod (.own (.int .i64)) (.prod (.own (.int .i64)) (.prod (.own (.int .i64)) (.int .i64))))) true] (fun d => Zaf N m d.1 d.2.1 d.2.2.1 d.2.2.2.1 d.2.2.2.2.1)
noncomputable def Zjl (N : Nat) : Sig := Ze4 N N
noncomputable def Zb3 (m : Nat) : Fn := ⟨Try.f69, fun | 6 => [.canon [0, 1, 2, 3, 9, 10, 11, 12, 13, 37]] | 7 => [.canon [0, 1, 2, 3, 9, 10, 11, 12, 13, 14]] | 8 => [.canon [0, 1, 2, 3, 9, 10, 11, 12, 13, 14, 15]] | 9 => [.canon [0, 1, 2, 3, 9, 10, 11, 12, 13, 14, 15, 45]] | 10 => [.canon [0, 1, 2, 9, 10, 11, 12, 15, 24]] | 11 => [.canon [0, 1, 2, 3, 9, 10, 11, 12, 15]] | 12 => [.canon [0, 1, 2, 3, 9, 10, 11, 12, 13, 14, 15, 45, 53]] | 13 => [.canon [0, 1, 2, 3, 9, 10, 11, 12, 15]] | 14 => [.canon [0, 1, 2, 3, 9, 10, 11, 12, 13, 14, 15, 45, 65]] | 15 => [.canon [0, 1, 2, 3, 9, 10, 11, 12, 15]] | 16 => [.canon [0, 1, 2, 3, 9, 10, 11, 12, 13, 14, 15, 45, 77]] | 17 => [.canon [0, 1, 2, 3, 9, 10, 11, 12, 14, 15, 84]] | 18 => [.canon [0, 1, 2, 3, 9, 10, 11, 12, 15]] | 19 => [.canon [0, 1, 2, 3, 9, 10, 11, 12, 13, 14, 15, 45, 89]] | 20 => [.canon [0, 1, 2, 3, 9, 10, 11, 12, 15]] | 21 => [.canon [0, 1, 2, 3, 9, 10, 11, 12, 14, 15, 45, 101]] | 22 => [.canon [0, 1, 2, 3, 9, 10, 11, 12, 15, 16]] | 23 => [.canon [0, 1, 2, 3, 9, 10, 11, 12, 15, 16]] | 24 => [.canon [0, 1, 2, 3, 9, 10, 11, 12, 15]] | 25 => [.canon [0, 1, 2, 3, 9, 10, 11, 12, 14, 15, 45, 122]] | 26 => [.canon [0, 1, 2, 3, 9, 10, 11, 12, 126]] | 27 => [.canon [10]] | 28 => [.canon [0, 1, 2, 9, 10, 11, 12, 17]] | 29 => [.canon [0, 1, 2, 9, 10, 11, 12, 17]] | 30 => [.canon [0, 1, 2, 3, 9, 10, 11, 12, 17]] | 31 => [.canon [0, 1, 2, 3, 9, 10, 11, 12, 17]] | 32 => [.canon [0, 1, 2, 3, 9, 10, 11, 12, 17]] | 33 => [.canon [0, 1, 2, 3, 9, 10, 11, 12, 15]] | 34 => [.canon [0, 1, 2, 3, 9, 10, 11, 12, 14, 15, 45, 161]] | 35 => [.canon [0, 1, 2, 3, 9, 10, 11, 12, 15, 18]] | 36 => [.canon [0, 1, 2, 3, 9, 10, 11, 12, 15, 18, 19]] | 37 => [.canon [0, 1, 2, 3, 9, 10, 11, 12, 15, 18, 19, 169]] | 38 => [.canon [0, 1, 2, 3, 9, 10, 11, 12, 15, 18, 19]] | 39 => [.canon [0, 1, 2, 3, 9, 10, 11, 12, 15, 18, 19, 20]] | 40 => [.canon [0, 1, 2, 3, 9, 10, 11, 12, 15, 18, 19, 20]] | 41 => [.canon [0, 1, 2, 3, 9, 10, 11, 12, 15, 18, 19, 20, 187]] | 42 => [.canon [0, 1, 2, 3, 9, 10, 11, 12, 15, 18, 19]] | 43 => [.canon [0, 1, 2, 3, 9, 10, 11, 12, 15, 18, 21]] | 44 => [.canon [0, 1, 2, 3, 9, 10, 11, 12, 15, 18, 21, 201]] | 45 => [.canon [0, 1, 2, 3, 9, 10, 11, 12, 15, 18, 21]] | 46 => [.canon [0, 1, 2, 3, 9, 10, 11, 12, 15, 18, 21]] | 47 => [.canon [0, 1, 2, 3, 9, 10, 11, 12, 14, 15, 45, 211]] | 48 => [.canon [0, 1, 2, 3, 9, 10, 11, 12, 14, 15, 22]] | 49 => [.canon [0, 1, 2, 3, 9, 10, 11, 12, 14, 15, 22]] | 50 => [.canon [0, 1, 2, 3, 9, 10, 11, 12, 15]] | 51 => [.canon [0, 1, 2, 3, 9, 10, 11, 12, 14, 15, 45, 236]] | 52 => [.canon [0, 1, 2, 3, 9, 10, 11, 12, 15]] | 53 => [.canon [0, 1, 2, 3, 9, 10, 11, 12, 14, 15, 45, 249]] | 54 => [.canon [0, 1, 2, 3, 9, 10, 11, 12, 14, 15, 23]] | 55 => [.canon [0, 1, 2, 3, 9, 10, 11, 12, 14, 15, 23]] | 56 => [.canon [0, 1, 2, 3, 9, 10, 11, 12, 15]] | 57 => [.canon [0, 1, 2, 3, 9, 10, 11, 12, 14, 15, 45, 268]] | 58 => [.canon [0, 1, 2, 3, 9, 10, 11, 12, 15]] | 59 => [.canon [0, 1, 2, 3, 9, 10, 11, 12, 14, 15, 280]] | 60 => [.canon [0, 1, 2, 3, 9, 10, 11, 12, 15]] | 61 => [.canon [0, 1, 2, 3, 9, 10, 11, 12, 13]] | 100006 => [.canon [0, 1, 2, 3, 9, 10, 11, 12, 13]] | 100037 => [.canon [0, 1, 2, 3, 9, 10, 11, 12, 15, 18, 19]] | 100044 => [.canon [0, 1, 2, 3, 9, 10, 11, 12, 15, 18, 21]] | _ => [], fun N => Ze4 N (m + 1), fun N => [(109, Zhm N), (58, Zh7 N), (69, Ze4 N m), (59, Zim N)]⟩
def Zm9 (code25 : List (Int × Int × Int × Int)) (kids26 : List (List (Int × Int × Int × Int))) (order27 : List Int) (next28 : Int) (i29 : Int) (l30 : List Int) (b31 : Int) (b32 : Int) (b33 : Int) (b34 : Int) (l35 : List (Int × List Int × List Int × List Int × Int)) (l36 : List Int) (l37 : List Int) (l38 : List Int) (l39 : List Int) (l40 : List Int) : St := ⟨[(0, vV (.slice (.prod (.int .i64) (.prod (.int .i64) (.prod (.int .i64) (.int .i64))))) code25), (1, vV (.slice (.slice (.prod (.int .i64) (.prod (.int .i64) (.prod (.int .i64) (.int .i64)))))) kids26), (2, vV (.slice (.int .i64)) order27), (3, vO 0), (9, vP 1 0), (10, vP 2 0), (11, vP 3 0), (12, vO 4), (15, vI next28), (18, vO 5), (19, vI i29)], [(0, .arr (.int .i64) l30), (1, .box [.own 6, .own 7, .val (.int .i64) b31]), (2, .box [.val (.int .i64) b32, .nils, .nils, .nils, .val (.int .i64) b33]), (3, .box [.own 8, .own 9, .val (.int .i64) b34]), (4, .arr (.prod (.int .i64) (.prod (.slice (.int .i64)) (.prod (.slice (.int .i64)) (.prod (.slice (.int .i64)) (.int .i64))))) l35), (5, .arr (.int .i64) l36), (6, .arr (.int .i64) l37), (7, .arr (.int .i64) l38), (8, .arr (.int .i64) l39), (9, .arr (.int .i64) l40)], 10⟩
def Zlj (code25 : List (Int × Int × Int × Int)) (kids26 : List (List (Int × Int × Int × Int))) (order27 : List Int) (next28 : Int) (l30 : List Int) (b32 : Int) (b33 : Int) (b34 : Int) (l35 : List (Int × List Int × List Int × List Int × Int)) (l39 : List Int) (l40 : List Int) (i43 : Int) (t44 : Bool) (b45 : Int) (l46 : List Int) (l47 : List Int) (l48 : List Int) : St := ⟨[(0, vV (.slice (.prod (.int .i64) (.prod (.int .i64) (.prod (.int .i64) (.int .i64))))) code25), (1, vV (.slice (.slice (.prod (.int .i64) (.prod (.int .i64) (.prod (.int .i64) (.int .i64)))))) kids26), (2, vV (.slice (.int .i64)) order27), (3, vO 0), (9, vP 1 0), (10, vP 2 0), (11, vP 3 0), (12, vO 4), (15, vI next28), (18, vO 5), (19, vI i43), (169, vB t44)], [(0, .arr (.int .i64) l30), (1, .box [.own 6, .own 7, .val (.int .i64) b45]), (2, .box [.val (.int .i64) b32, .nils, .nils, .nils, .val (.int .i64) b33]), (3, .box [.own 8, .own 9, .val (.int .i64) b34]), (4, .arr (.prod (.int .i64) (.prod (.slice (.int .i64)) (.prod (.slice (.int .i64)) (.prod (.slice (.int .i64)) (.int .i64))))) l35), (5, .arr (.int .i64) l46), (6, .arr (.int .i64) l47), (7, .arr (.int .i64) l48), (8, .arr (.int .i64) l39), (9, .arr (.int .i64) l40)], 10⟩
theorem Zna (N m : Nat) {R : Type} (K : Ex → St → Option R) {code25 : List (Int × Int × Int × Int)} {kids26 : List (List (Int × Int × Int × Int))} {order27 : List Int} {next28 : Int} {l30 : List Int} {b32 : Int} {b33 : Int} {b34 : Int} {l35 : List (Int × List Int × List Int × List Int × Int)} {l39 : List Int} {l40 : List Int} {K0 : Int → Bool → Int → (List Int) → (List Int) → (List Int) → Option R} (h0 : K0 = fun i43 t44 b45 l46 l47 l48 => K (.exit 3) (Zlj code25 kids26 order27 next28 l30 b32 b33 b34 l35 l39 l40 i43 t44 b45 l46 l47 l48)) (n : Nat) (i29 : Int) (b31 : Int) (l36 : List Int) (l37 : List Int) (l38 : List Int) : Zby N (Zaf N m) code25 kids26 order27 next28 l30 b32 b33 b34 l35 l39 l40 K0 n i29 b31 l36 l37 l38 = LM (Zb3 m) N 1 100037 n (Zm9 code25 kids26 order27 next28 i29 l30 b31 b32 b33 b34 l35 l36 l37 l38 l39 l40) K := by
  subst h0
  induction n generalizing i29 b31 l36 l37 l38 with
  | zero => kernel_rfl
  | succ n ih => rw [Zby]; simp (disch := exact id (by kernel_rfl)) only [ih]; kernel_rfl
def Znb (code57 : List (Int × Int × Int × Int)) (kids58 : List (List (Int × Int × Int × Int))) (order59 : List Int) (next60 : Int) (i61 : Int) (l62 : List Int) (b63 : Int) (b64 : Int) (b65 : Int) (b66 : Int) (l67 : List (Int × List Int × List Int × List Int × Int)) (l68 : List Int) (l69 : List Int) (l70 : List Int) (l71 : List Int) (l72 : List Int) : St := ⟨[(0, vV (.slice (.prod (.int .i64) (.prod (.int .i64) (.prod (.int .i64) (.int .i64))))) code57), (1, vV (.slice (.slice (.prod (.int .i64) (.prod (.int .i64) (.prod (.int .i64) (.int .i64)))))) kids58), (2, vV (.slice (.int .i64)) order59), (3, vO 0), (9, vP 1 0), (10, vP 2 0), (11, vP 3 0), (12, vO 4), (15, vI next60), (18, vO 5), (21, vI i61)], [(0, .arr (.int .i64) l62), (1, .box [.own 6, .own 7, .val (.int .i64) b63]), (2, .box [.val (.int .i64) b64, .nils, .nils, .nils, .val (.int .i64) b65]), (3, .box [.own 8, .own 9, .val (.int .i64) b66]), (4, .arr (.prod (.int .i64) (.prod (.slice (.int .i64)) (.prod (.slice (.int .i64)) (.prod (.slice (.int .i64)) (.int .i64))))) l67), (5, .arr (.int .i64) l68), (6, .arr (.int .i64) l69), (7, .arr (.int .i64) l70), (8, .arr (.int .i64) l71), (9, .arr (.int .i64) l72)], 10⟩
def Zlk (code57 : List (Int × Int × Int × Int)) (kids58 : List (List (Int × Int × Int × Int))) (order59 : List Int) (next60 : Int) (b63 : Int) (b64 : Int) (b65 : Int) (b66 : Int) (l67 : List (Int × List Int × List Int × List Int × Int)) (l68 : List Int) (l69 : List Int) (l70 : List Int) (l71 : List Int) (l72 : List Int) (i73 : Int) (t74 : Bool) (l75 : List Int) : St := ⟨[(0, vV (.slice (.prod (.int .i64) (.prod (.int .i64) (.prod (.int .i64) (.int .i64))))) code57), (1, vV (.slice (.slice (.prod (.int .i64) (.prod (.int .i64) (.prod (.int .i64) (.int .i64)))))) kids58), (2, vV (.slice (.int .i64)) order59), (3, vO 0), (9, vP 1 0), (10, vP 2 0), (11, vP 3 0), (12, vO 4), (15, vI next60), (18, vO 5), (21, vI i73), (201, vB t74)], [(0, .arr (.int .i64) l75), (1, .box [.own 6, .own 7, .val (.int .i64) b63]), (2, .box [.val (.int .i64) b64, .nils, .nils, .nils, .val (.int .i64) b65]), (3, .box [.own 8, .own 9, .val (.int .i64) b66]), (4, .arr (.prod (.int .i64) (.prod (.slice (.int .i64)) (.prod (.slice (.int .i64)) (.prod (.slice (.int .i64)) (.int .i64))))) l67), (5, .arr (.int .i64) l68), (6, .arr (.int .i64) l69), (7, .arr (.int .i64) l70), (8, .arr (.int .i64) l71), (9, .arr (.int .i64) l72)], 10⟩
theorem Znc (N m : Nat) {R : Type} (K : Ex → St → Option R) {code57 : List (Int × Int × Int × Int)} {kids58 : List (List (Int × Int × Int × Int))} {order59 : List Int} {next60 : Int} {b63 : Int} {b64 : Int} {b65 : Int} {b66 : Int} {l67 : List (Int × List Int × List Int × List Int × Int)} {l68 : List Int} {l69 : List Int} {l70 : List Int} {l71 : List Int} {l72 : List Int} {K0 : Int → Bool → (List Int) → Option R} (h0 : K0 = fun i73 t74 l75 => K (.exit 5) (Zlk code57 kids58 order59 next60 b63 b64 b65 b66 l67 l68 l69 l70 l71 l72 i73 t74 l75)) (n : Nat) (i61 : Int) (l62 : List Int) : Zen N (Zaf N m) code57 kids58 order59 next60 b63 b64 b65 b66 l67 l68 l69 l70 l71 l72 K0 n i61 l62 = LM (Zb3 m) N 2 100044 n (Znb code57 kids58 order59 next60 i61 l62 b63 b64 b65 b66 l67 l68 l69 l70 l71 l72) K := by
  subst h0
  induction n generalizing i61 l62 with
  | zero => kernel_rfl
  | succ n ih => rw [Zen]; simp (disch := exact id (by kernel_rfl)) only [ih]; kernel_rfl
def Znd (code8 : List (Int × Int × Int × Int)) (kids9 : List (List (Int × Int × Int × Int))) (order10 : List Int) (pc11 : Int) (l12 : List Int) (b13 : Int) (b16 : Int) (l17 : List (Int × List Int × List Int × List Int × Int)) (l18 : List Int) (l19 : List Int) (l20 : List Int) (l21 : List Int) : St := ⟨[(0, vV (.slice (.prod (.int .i64) (.prod (.int .i64) (.prod (.int .i64) (.int .i64))))) code8), (1, vV (.slice (.slice (.prod (.int .i64) (.prod (.int .i64) (.prod (.int .i64) (.int .i64)))))) kids9), (2, vV (.slice (.int .i64)) order10), (3, vO 0), (9, vP 1 0), (10, vP 2 0), (11, vP 3 0), (12, vO 4), (13, vI pc11)], [(0, .arr (.int .i64) l12), (1, .box [.own 5, .own 6, .val (.int .i64) b13]), (2, .box [.val (.int .i64) (0 : Int), .nils, .nils, .nils, .val (.int .i64) (0 : Int)]), (3, .box [.own 7, .own 8, .val (.int .i64) b16]), (4, .arr (.prod (.int .i64) (.prod (.slice (.int .i64)) (.prod (.slice (.int .i64)) (.prod (.slice (.int .i64)) (.int .i64))))) l17), (5, .arr (.int .i64) l18), (6, .arr (.int .i64) l19), (7, .arr (.int .i64) l20), (8, .arr (.int .i64) l21)], 9⟩
def Zll (code8 : List (Int × Int × Int × Int)) (kids9 : List (List (Int × Int × Int × Int))) (order10 : List Int) (b16 : Int) (l20 : List Int) (l21 : List Int) (l93 : List Int) : St := ⟨[(10, vP 0 0)], [(0, .box [.val (.int .i64) (2 : Int), .own 1, .own 2, .own 3, .val (.int .i64) b16]), (1, .arr (.int .i64) l93), (2, .arr (.int .i64) l20), (3, .arr (.int .i64) l21)], 4⟩
def Zlm (code8 : List (Int × Int × Int × Int)) (kids9 : List (List (Int × Int × Int × Int))) (order10 : List Int) (b16 : Int) (l20 : List Int) (l21 : List Int) (pc94 : Int) (t95 : Bool) (l96 : List Int) (b97 : Int) (l98 : List (Int × List Int × List Int × List Int × Int)) (l99 : List Int) (l100 : List Int) : St := ⟨[(0, vV (.slice (.prod (.int .i64) (.prod (.int .i64) (.prod (.int .i64) (.int .i64))))) code8), (1, vV (.slice (.slice (.prod (.int .i64) (.prod (.int .i64) (.prod (.int .i64) (.int .i64)))))) kids9), (2, vV (.slice (.int .i64)) order10), (3, vO 0), (9, vP 1 0), (10, vP 2 0), (11, vP 3 0), (12, vO 4), (13, vI pc94), (37, vB t95)], [(0, .arr (.int .i64) l96), (1, .box [.own 5, .own 6, .val (.int .i64) b97]), (2, .box [.val (.int .i64) (0 : Int), .nils, .nils, .nils, .val (.int .i64) (0 : Int)]), (3, .box [.own 7, .own 8, .val (.int .i64) b16]), (4, .arr (.prod (.int .i64) (.prod (.slice (.int .i64)) (.prod (.slice (.int .i64)) (.prod (.slice (.int .i64)) (.int .i64))))) l98), (5, .arr (.int .i64) l99), (6, .arr (.int .i64) l100), (7, .arr (.int .i64) l20), (8, .arr (.int .i64) l21)], 9⟩
theorem Zne (N m : Nat) {R : Type} (K : Ex → St → Option R) {code8 : List (Int × Int × Int × Int)} {kids9 : List (List (Int × Int × Int × Int))} {order10 : List Int} {b16 : Int} {l20 : List Int} {l21 : List Int} {K0 : (List Int) → Option R} {K1 : Int → Bool → (List Int) → Int → (List (Int × List Int × List Int × List Int × Int)) → (List Int) → (List Int) → Option R} (h0 : K0 = fun l93 => K .ret (Zll code8 kids9 order10 b16 l20 l21 l93)) (h1 : K1 = fun pc94 t95 l96 b97 l98 l99 l100 => K (.exit 0) (Zlm code8 kids9 order10 b16 l20 l21 pc94 t95 l96 b97 l98 l99 l100)) (n : Nat) (pc11 : Int) (l12 : List Int) (b13 : Int) (l17 : List (Int × List Int × List Int × List Int × Int)) (l18 : List Int) (l19 : List Int) : Zr N (Zaf N m) code8 kids9 order10 b16 l20 l21 K0 K1 n pc11 l12 b13 l17 l18 l19 = LM (Zb3 m) N 0 100006 n (Znd code8 kids9 order10 pc11 l12 b13 b16 l17 l18 l19 l20 l21) K := by
  subst h0 h1
  induction n generalizing pc11 l12 b13 l17 l18 l19 with
  | zero => kernel_rfl
  | succ n ih => rw [Zr]; simp (disch := exact id (by kernel_rfl)) only [ih, Zna N m (CL (Zb3 m) N 0 100006 [1, 0, 1, 1, 0, 1, 0, 1, 1, 1, 1, 1, 1, 1, 1, 1, 1, 1, 1, 1, 0, 1, 0, 1, 0] n K), Znc N m (CL (Zb3 m) N 0 100006 [1, 0, 1, 1, 0, 1, 0, 1, 1, 1, 1, 1, 1, 1, 1, 1, 1, 1, 1, 1, 0, 1, 1, 1, 0] n K)]; kernel_rfl
theorem Zjm : Callable Try.prog 69 := callable_of Try.func69 (show chkFn Try.f69 = true by kernel_rfl)
theorem Zqq (N m : Nat) (code1 : List (Int × Int × Int × Int)) (kids2 : List (List (Int × Int × Int × Int))) (order3 : List Int) (regs4 : List Int) (s5 : List Int × List Int × Int) : DN (Zb3 m) N (code1, kids2, order3, regs4, s5, ()) = Zaf N (m + 1) code1 kids2 order3 regs4 s5 := by
  have h : Zaf N (m + 1) code1 kids2 order3 regs4 s5 = Zaf N (m + 1) code1 kids2 order3 regs4 s5 := rfl
  conv at h => rhs; rw [Zaf]
  simp (disch := exact id (by kernel_rfl)) only [Zne (R := Unit × ((Int × List Int × List Int × List Int × Int) × Unit)) N m (CF (Zb3 m) N [1, 1, 1, 1, 1, 1, 0, 0])] at h
  exact Eq.trans (by kernel_rfl) h.symm
theorem Zi0 (N : Nat) : ∀ m, Good Try.prog 69 (Ze4 N m)
  | 0 => fun d o h => nomatch (show none = some o from h)
  | m + 1 => GF (Zb3 m) N Try.func69 (ctx_cons (Zqp N) Zqo (ctx_cons (Zrj N) Zrh (ctx_cons (Zi0 N m) Zjm (ctx_cons (Zrq N) Zrp ctx_nil)))) (by kernel_rfl) (fun d => Zqq N m d.1 d.2.1 d.2.2.1 d.2.2.2.1 d.2.2.2.2.1)
theorem Zqr (N : Nat) : Good Try.prog 69 (Zjl N) := Zi0 N N
noncomputable def Zfz (N : Nat) : Sig := Sig.of [.v (.slice (.prod (.int .i64) (.prod (.int .i64) (.prod (.int .i64) (.int .i64))))) false, .v (.slice (.int .i64)) false, .v (.slice (.int .i64)) false] [.v (.int .i64) false, .v (.own (.int .i64)) false, .v (.own (.int .i64)) false] (fun d => Zc3 N d.1 d.2.1 d.2.2.1)
noncomputable def Zn9 : Fn := ⟨Try.f31, noAnn, Zfz, fun N => [(54, Zf7 N), (55, Zei N), (51, Zfm N), (69, Zjl N)]⟩
theorem Zoa : Callable Try.prog 31 := callable_of Try.func31 (show chkFn Try.f31 = true by kernel_rfl)
theorem Zob (N : Nat) : Good Try.prog 31 (Zfz N) := GF Zn9 N Try.func31 (ctx_cons (Zkd N) Zkc (ctx_cons (Zhh N) Zhg (ctx_cons (Zjk N) Zjj (ctx_cons (Zqr N) Zjm ctx_nil)))) (by kernel_rfl) (fun d => by kernel_rfl)
noncomputable def Zgg (N : Nat) : Sig := Sig.of [.v (.slice (.int .i64)) false, .v (.slice (.int .i64)) false] [.v (.bool) false] (fun d => Z3 N d.1 d.2.1)
noncomputable def Zeq : Fn := ⟨Try.f16, fun | 4 => [.canon [0, 1, 5, 14]] | 5 => [.canon [0, 1, 5]] | 6 => [.canon [0, 1, 5, 25]] | 7 => [.canon [4]] | 100004 => [.canon [0, 1, 5]] | _ => [], Zgg, noCtx⟩
def Zke (a3 : List Int) (b4 : List Int) (i5 : Int) : St := ⟨[(0, vV (.slice (.int .i64)) a3), (1, vV (.slice (.int .i64)) b4), (5, vI i5)], [], 0⟩
def Zjw (a3 : List Int) (b4 : List Int) : St := ⟨[(4, vB false)], [], 0⟩
def Zjx (a3 : List Int) (b4 : List Int) (i6 : Int) (t7 : Bool) : St := ⟨[(0, vV (.slice (.int .i64)) a3), (1, vV (.slice (.int .i64)) b4), (5, vI i6), (14, vB t7)], [], 0⟩
theorem Zkf (N : Nat) {R : Type} (K : Ex → St → Option R) {a3 : List Int} {b4 : List Int} {K0 : Option R} {K1 : Int → Bool → Option R} (h0 : K0 = K .ret (Zjw a3 b4)) (h1 : K1 = fun i6 t7 => K (.exit 0) (Zjx a3 b4 i6 t7)) (n : Nat) (i5 : Int) : Zbe N a3 b4 K0 K1 n i5 = LM Zeq N 0 100004 n (Zke a3 b4 i5) K := by
  subst h0 h1
  induction n generalizing i5 with
  | zero => kernel_rfl
  | succ n ih => rw [Zbe]; simp (disch := exact id (by kernel_rfl)) only [ih]; kernel_rfl
theorem Zom : Callable Try.prog 16 := callable_of Try.func16 (show chkFn Try.f16 = true by kernel_rfl)
theorem Zon (N : Nat) (a1 : List Int) (b2 : List Int) : DN Zeq N (a1, b2, ()) = Z3 N a1 b2 := by
  have h : Z3 N a1 b2 = Z3 N a1 b2 := rfl
  conv at h => rhs; rw [Z3]
  simp (disch := exact id (by kernel_rfl)) only [Zkf (R := Unit × (Bool × Unit)) N (CF Zeq N [1, 1, 0, 1, 0])] at h
  exact Eq.trans (by kernel_rfl) h.symm
theorem Zoo (N : Nat) : Good Try.prog 16 (Zgg N) := GF Zeq N Try.func16 ctx_nil (by kernel_rfl) (fun d => Zon N d.1 d.2.1)
noncomputable def Zi1 (N : Nat) : Sig := Sig.of [.v (.slice (.int .i64)) false, .v (.int .i64) false] [.v (.bool) false] (fun d => Zeb N d.1 d.2.1)
noncomputable def Zhn : Fn := ⟨Try.f32, fun | 2 => [.canon [0, 1, 5, 9]] | 3 => [.canon [0, 1, 5]] | 4 => [.canon [0, 1, 5, 17]] | 5 => [.canon [4]] | 100002 => [.canon [0, 1, 5]] | _ => [], Zi1, noCtx⟩
def Zpj (l3 : List Int) (x4 : Int) (i5 : Int) : St := ⟨[(0, vV (.slice (.int .i64)) l3), (1, vI x4), (5, vI i5)], [], 0⟩
def Zop (l3 : List Int) (x4 : Int) : St := ⟨[(4, vB true)], [], 0⟩
def Zoq (l3 : List Int) (x4 : Int) (i6 : Int) (t7 : Bool) : St := ⟨[(0, vV (.slice (.int .i64)) l3), (1, vI x4), (5, vI i6), (9, vB t7)], [], 0⟩
theorem Zpk (N : Nat) {R : Type} (K : Ex → St → Option R) {l3 : List Int} {x4 : Int} {K0 : Option R} {K1 : Int → Bool → Option R} (h0 : K0 = K .ret (Zop l3 x4)) (h1 : K1 = fun i6 t7 => K (.exit 0) (Zoq l3 x4 i6 t7)) (n : Nat) (i5 : Int) : Zc4 N l3 x4 K0 K1 n i5 = LM Zhn N 0 100002 n (Zpj l3 x4 i5) K := by
  subst h0 h1
  induction n generalizing i5 with
  | zero => kernel_rfl
  | succ n ih => rw [Zc4]; simp (disch := exact id (by kernel_rfl)) only [ih]; kernel_rfl
theorem Zru : Callable Try.prog 32 := callable_of Try.func32 (show chkFn Try.f32 = true by kernel_rfl)
theorem Zrv (N : Nat) (l1 : List Int) (x2 : Int) : DN Zhn N (l1, x2, ()) = Zeb N l1 x2 := by
  have h : Zeb N l1 x2 = Zeb N l1 x2 := rfl
  conv at h => rhs; rw [Zeb]
  simp (disch := exact id (by kernel_rfl)) only [Zpk (R := Unit × (Bool × Unit)) N (CF Zhn N [1, 0, 1, 0])] at h
  exact Eq.trans (by kernel_rfl) h.symm
theorem Zrw (N : Nat) : Good Try.prog 32 (Zi1 N) := GF Zhn N Try.func32 ctx_nil (by kernel_rfl) (fun d => Zrv N d.1 d.2.1)
noncomputable def Zjy (N : Nat) : Sig := Sig.of [.v (.slice (.int .u8)) false, .v (.int .i64) false] [.v (.int .i64) false] (fun d => Zjb N d.1 d.2.1)
noncomputable def Zrx : Fn := ⟨Try.f12, noAnn, Zjy, noCtx⟩
theorem Zry : Callable Try.prog 12 := callable_of Try.func12 (show chkFn Try.f12 = true by kernel_rfl)
theorem Zrz (N : Nat) : Good Try.prog 12 (Zjy N) := GF Zrx N Try.func12 ctx_nil (by kernel_rfl) (fun d => by kernel_rfl)
noncomputable def Zin (N : Nat) : Sig := Sig.of [.v (.slice (.int .u8)) false] [.v (.bool) false] (fun d => Zbg N d.1)
noncomputable def Zcr : Fn := ⟨Try.f5, fun | 8 => [.canon [0, 3, 4, 5, 6, 7, 54]] | 9 => [.canon [0, 3, 4, 5, 6, 7]] | 10 => [.canon [0, 3, 4, 5, 6, 7, 8, 9, 10]] | 11 => [.canon [0, 3, 4, 5, 6, 7, 95]] | 12 => [.canon [2]] | 17 => [.canon [0, 3, 4, 5, 6, 11, 12, 116]] | 18 => [.canon [0, 3, 4, 5, 6, 11, 12]] | 19 => [.canon [0, 3, 4, 5, 6, 11, 12, 123]] | 20 => [.canon [0, 3, 4, 5, 6, 11, 12]] | 100008 => [.canon [0, 3, 4, 5, 6, 7]] | 100017 => [.canon [0, 3, 4, 5, 6, 11, 12]] | _ => [], Zin, fun N => [(6, Ziv N), (28, Zfc N), (29, Zhf N), (30, Zhl N), (31, Zfz N), (16, Zgg N), (32, Zi1 N), (12, Zjy N)]⟩
def Zkg (code6 : List Int) (i7 : Int) (l8 : List (List (Int × Int × Int × Int))) (l9 : List Int) (l10 : List Int) (b11 : Int) (l12 : List Int) (l13 : List Int) (l14 : List Int) : St := ⟨[(0, vV (.slice (.int .u8)) code6), (3, vO 0), (4, vO 1), (5, vO 2), (6, vP 3 0), (7, vI i7)], [(0, .arr (.slice (.prod (.int .i64) (.prod (.int .i64) (.prod (.int .i64) (.int .i64))))) l8), (1, .arr (.int .i64) l9), (2, .arr (.int .i64) l10), (3, .box [.val (.int .i64) b11, .own 4, .own 5, .own 6]), (4, .arr (.int .i64) l12), (5, .arr (.int .i64) l13), (6, .arr (.int .i64) l14)], 7⟩
def Zjz (code6 : List Int) (l8 : List (List (Int × Int × Int × Int))) (l9 : List Int) (l10 : List Int) (b11 : Int) (l12 : List Int) (l13 : List Int) (l14 : List Int) : St := ⟨[(2, vB false)], [], 0⟩
def Zj0 (code6 : List Int) (l8 : List (List (Int × Int × Int × Int))) (l9 : List Int) (l10 : List Int) (b11 : Int) (l12 : List Int) (l13 : List Int) (l14 : List Int) (i21 : Int) (t22 : Bool) : St := ⟨[(0, vV (.slice (.int .u8)) code6), (3, vO 0), (4, vO 1), (5, vO 2), (6, vP 3 0), (7, vI i21), (54, vB t22)], [(0, .arr (.slice (.prod (.int .i64) (.prod (.int .i64) (.prod (.int .i64) (.int .i64))))) l8), (1, .arr (.int .i64) l9), (2, .arr (.int .i64) l10), (3, .box [.val (.int .i64) b11, .own 4, .own 5, .own 6]), (4, .arr (.int .i64) l12), (5, .arr (.int .i64) l13), (6, .arr (.int .i64) l14)], 7⟩
theorem Zkh (N : Nat) {R : Type} (K : Ex → St → Option R) {code6 : List Int} {l8 : List (List (Int × Int × Int × Int))} {l9 : List Int} {l10 : List Int} {b11 : Int} {l12 : List Int} {l13 : List Int} {l14 : List Int} {K0 : Option R} {K1 : Int → Bool → Option R} (h0 : K0 = K .ret (Zjz code6 l8 l9 l10 b11 l12 l13 l14)) (h1 : K1 = fun i21 t22 => K (.exit 0) (Zj0 code6 l8 l9 l10 b11 l12 l13 l14 i21 t22)) (n : Nat) (i7 : Int) : Z6 N code6 l8 l9 l10 b11 l12 l13 l14 K0 K1 n i7 = LM Zcr N 0 100008 n (Zkg code6 i7 l8 l9 l10 b11 l12 l13 l14) K := by
  subst h0 h1
  induction n generalizing i7 with
  | zero => kernel_rfl
  | succ n ih => rw [Z6]; simp (disch := exact id (by kernel_rfl)) only [ih]; kernel_rfl
def Zki (code31 : List Int) (i32 : Int) (l33 : List (List (Int × Int × Int × Int))) (l34 : List Int) (l35 : List Int) (b36 : Int) (l37 : List Int) (l38 : List Int) (l39 : List Int) (l40 : List Int) : St := ⟨[(0, vV (.slice (.int .u8)) code31), (3, vO 0), (4, vO 1), (5, vO 2), (6, vP 3 0), (11, vO 4), (12, vI i32)], [(0, .arr (.slice (.prod (.int .i64) (.prod (.int .i64) (.prod (.int .i64) (.int .i64))))) l33), (1, .arr (.int .i64) l34), (2, .arr (.int .i64) l35), (3, .box [.val (.int .i64) b36, .own 5, .own 6, .own 7]), (4, .arr (.int .i64) l37), (5, .arr (.int .i64) l38), (6, .arr (.int .i64) l39), (7, .arr (.int .i64) l40)], 8⟩
def Zj1 (code31 : List Int) (l33 : List (List (Int × Int × Int × Int))) (l34 : List Int) (l35 : List Int) (b36 : Int) (l38 : List Int) (l39 : List Int) (l40 : List Int) (i43 : Int) (t44 : Bool) (l45 : List Int) : St := ⟨[(0, vV (.slice (.int .u8)) code31), (3, vO 0), (4, vO 1), (5, vO 2), (6, vP 3 0), (11, vO 4), (12, vI i43), (116, vB t44)], [(0, .arr (.slice (.prod (.int .i64) (.prod (.int .i64) (.prod (.int .i64) (.int .i64))))) l33), (1, .arr (.int .i64) l34), (2, .arr (.int .i64) l35), (3, .box [.val (.int .i64) b36, .own 5, .own 6, .own 7]), (4, .arr (.int .i64) l45), (5, .arr (.int .i64) l38), (6, .arr (.int .i64) l39), (7, .arr (.int .i64) l40)], 8⟩
theorem Zkj (N : Nat) {R : Type} (K : Ex → St → Option R) {code31 : List Int} {l33 : List (List (Int × Int × Int × Int))} {l34 : List Int} {l35 : List Int} {b36 : Int} {l38 : List Int} {l39 : List Int} {l40 : List Int} {K0 : Int → Bool → (List Int) → Option R} (h0 : K0 = fun i43 t44 l45 => K (.exit 2) (Zj1 code31 l33 l34 l35 b36 l38 l39 l40 i43 t44 l45)) (n : Nat) (i32 : Int) (l37 : List Int) : Zap N code31 l33 l34 l35 b36 l38 l39 l40 K0 n i32 l37 = LM Zcr N 1 100017 n (Zki code31 i32 l33 l34 l35 b36 l37 l38 l39 l40) K := by
  subst h0
  induction n generalizing i32 l37 with
  | zero => kernel_rfl
  | succ n ih => rw [Zap]; simp (disch := exact id (by kernel_rfl)) only [ih]; kernel_rfl
theorem Zr0 : Callable Try.prog 5 := callable_of Try.func5 (show chkFn Try.f5 = true by kernel_rfl)
theorem Zor (N : Nat) (code1 : List Int) : DN Zcr N (code1, ()) = Zbg N code1 := by
  have h : Zbg N code1 = Zbg N code1 := rfl
  conv at h => rhs; rw [Zbg]
  simp (disch := exact id (by kernel_rfl)) only [Zkh (R := Unit × (Bool × Unit)) N (CF Zcr N [1, 1, 1, 1, 1, 0, 1, 0]), Zkj (R := Unit × (Bool × Unit)) N (CF Zcr N [1, 1, 1, 1, 1, 1, 1, 1, 0, 1, 0])] at h
  exact Eq.trans (by kernel_rfl) h.symm
theorem Zos (N : Nat) : Good Try.prog 5 (Zin N) := GF Zcr N Try.func5 (ctx_cons (Zrt N) Zrs (ctx_cons (Zma N) Zl9 (ctx_cons (Zp8 N) Zp6 (ctx_cons (Zqm N) Zqk (ctx_cons (Zob N) Zoa (ctx_cons (Zoo N) Zom (ctx_cons (Zrw N) Zru (ctx_cons (Zrz N) Zry ctx_nil)))))))) (by kernel_rfl) (fun d => Zor N d.1)
end Go.Sx
