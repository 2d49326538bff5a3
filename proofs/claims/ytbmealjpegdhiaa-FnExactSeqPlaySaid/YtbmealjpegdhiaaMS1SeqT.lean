/- Plain laws of the Lean functions. -/
import Derived.Test.YtbmealjpegdhiaaMFrSeqTrue
/- Plain law: is each read of a sequenced world a value that was there, and do the reads run forward? -/
namespace Go.Sx
set_option linter.unusedVariables false
set_option linter.unusedSimpArgs false

theorem both_self {α : Type} (a : Option α) : both a a = a := by unfold both; simp

/-- does some element fit, told with its index? -/
def anyI {α : Type} (p : Nat → α → Bool) : Nat → List α → Bool
  | _, [] => false
  | j, x :: l => p j x || anyI p (j + 1) l

theorem foldK_anyI {α V R : Type} {body : Int → α → V → (V → Option R) → Option R} {K : Int → V → Option R} {p : Nat → α → Bool} {E : V → Option R} : ∀ (l : List α) (j : Nat) (v : V), (∀ (j : Nat) x v k, x ∈ l → body j x v k = bif p j x then E v else k v) →
    foldK body K l j v = bif anyI p j l then E v else K ((j + l.length : Nat) : Int) v
  | [], j, v, _ => rfl
  | x :: l, j, v, h => by
    rw [foldK, h j x v _ (List.mem_cons_self ..), foldK_anyI l (j + 1) v fun j y v k hy => h j y v k (List.mem_cons_of_mem _ hy), anyI]
    cases p j x
    · simp only [cond_false, Bool.false_or, List.length_cons]
      rw [show j + 1 + l.length = j + (l.length + 1) by omega]
    · rfl

abbrev Sqr := Int × Int × Int × Int × Int

noncomputable def okRead (N : Nat) (s : Tri) (l : List Tri) (x : Sqr) : Bool :=
  match T_spec_SeqValue N s l x.2.1 with
  | some (_, (r, (b, _))) => b && (ieq r.1 x.2.2.1 && (ieq r.2.1 x.2.2.2.1 && (ieq r.2.2 x.2.2.2.2 && true)))
  | none => false

noncomputable def badS (N : Nat) (s : Tri) (l : List Tri) (rs : List Sqr) (j : Nat) (x : Sqr) : Bool := !okRead N s l x || (rs.take j).any fun y => decide (y.2.1 > x.2.1)
noncomputable def badI (N : Nat) (s : Tri) (l : List Tri) (rs : List Sqr) (j : Nat) (x : Sqr) : Bool := !okRead N s l x || (decide (0 < j) && decide (x.2.1 < (rs.getD (j - 1) (0, 0, 0, 0, 0)).2.1))

theorem bad_eq {N : Nat} {s : Tri} {l : List Tri} {rs : List Sqr} : ∀ (r d : List Sqr), rs = d ++ r → (∀ y ∈ d, ∀ z ∈ d.getLast?, y.2.1 ≤ z.2.1) → anyI (badS N s l rs) d.length r = anyI (badI N s l rs) d.length r
  | [], _, _, _ => rfl
  | x :: r, d, hd, hs => by
    have e : (badS N s l rs d.length x) = badI N s l rs d.length x := by
      unfold badS badI
      congr 1
      have e1 : rs.take d.length = d := by rw [hd]; simp
      rw [e1]
      cases hl : d.getLast? with
      | none =>
        have : d = [] := by simpa using hl
        subst this; rfl
      | some z =>
        have hz : z ∈ d := List.mem_of_getLast? hl
        have hpos : 0 < d.length := List.length_pos_of_mem hz
        have e2 : rs.getD (d.length - 1) (0, 0, 0, 0, 0) = z := by
          rw [List.getLast?_eq_getElem?] at hl
          rw [List.getD_eq_getElem?_getD, hd, List.getElem?_append_left (by omega), hl]; rfl
        rw [e2]
        simp only [hpos, decide_true, Bool.true_and]
        by_cases h : x.2.1 < z.2.1
        · rw [decide_eq_true h]
          exact List.any_eq_true.2 ⟨z, hz, by simpa using h⟩
        · rw [decide_eq_false h, List.any_eq_false]
          intro y hy
          have := hs y hy z (by rw [hl]; exact rfl)
          simp; omega
    rw [anyI, anyI, e]
    cases hb : badI N s l rs d.length x with
    | true => rfl
    | false =>
      have := bad_eq (N := N) (s := s) (l := l) (rs := rs) r (d ++ [x]) (by rw [hd]; simp) (by
        intro y hy z hz
        have hz' : z = x := by simpa using hz.symm
        subst hz'
        rcases List.mem_append.1 hy with hy | hy
        · have hb2 : badS N s l rs d.length z = false := e.trans hb
          unfold badS at hb2
          have e1 : rs.take d.length = d := by rw [hd]; simp
          rw [e1, Bool.or_eq_false_iff, List.any_eq_false] at hb2
          have := hb2.2 y hy
          simpa using this
        · rw [List.mem_singleton.1 hy]; exact Int.le_refl _)
      rw [List.length_append] at this
      simpa using this

theorem inner_run {N : Nat} {l : List Tri} {s : Tri} {w : Int × (Int × Int × Int) × Int × Int × List (Int × Int × (Int × Int × Int) × Int) × List (Int × Int × Int × Int × Int)} (hN : 1048576 < N) (hr : w.2.2.2.2.2.length ≤ 1048576) (i : Nat) (hi : i < w.2.2.2.2.2.length) {R : Type} (K0 K1 : Option R) :
    T_spec_SeqTrue_lp1 N l (i : Int) s w K0 (fun k t => K1) N 0 = bif (w.2.2.2.2.2.take i).any (fun y => decide (y.2.1 > w.2.2.2.2.2[i].2.1)) then K0 else K1 := by
  have hlen : (w.2.2.2.2.2.take i).length = i := by simp; omega
  have h1 := loop_ix0 (l := w.2.2.2.2.2.take i) (V := Unit) (R := R) (lp := fun n k v => T_spec_SeqTrue_lp1 N l (i : Int) s w K0 (fun k t => K1) n k) (n := N) (by omega)
    (body := fun k y v c => bif decide (y.2.1 > w.2.2.2.2.2[i].2.1) then K0 else c v) (K := fun k v => K1)
    (fun n k v hk => by
      have hk2 : k < i := by omega
      have e1 : decide ((k : Int) < (i : Int)) = true := by simpa using hk2
      simp only [T_spec_SeqTrue_lp1, e1, ix_inb (show k < w.2.2.2.2.2.length by omega), ix_inb hi, ix_get (show k < w.2.2.2.2.2.length by omega), ix_get hi, ix_succ (show k < 4611686018427387904 by omega), cond_true, List.getElem_take])
    (fun n v => by
      have e1 : decide (((w.2.2.2.2.2.take i).length : Int) < (i : Int)) = false := by rw [hlen]; simp
      simp only [T_spec_SeqTrue_lp1, e1, cond_false]) ()
  refine h1.trans ?_
  rw [foldK_any (p := fun y => decide (y.2.1 > w.2.2.2.2.2[i].2.1)) (E := fun _ => K0) _ 0 () (fun j y v k _ => rfl)]

theorem okRead_spec {N : Nat} {s : Tri} {l : List Tri} {x : Sqr} (hl : l.length ≤ 1048576) (hN : 1048576 < N) (hx : I64 x.2.1) {R : Type} (A B : Option R) :
    ((T_spec_SeqValue N s l x.2.1).bind fun o => bif !o.2.2.1 then A else bif !(ieq o.2.1.1 x.2.2.1 && (ieq o.2.1.2.1 x.2.2.2.1 && (ieq o.2.1.2.2 x.2.2.2.2 && true))) then A else B) = bif !okRead N s l x then A else B := by
  obtain ⟨r, b, h1, h2⟩ := value_eq (s := s) (q := x.2.1) hl hN hx
  unfold okRead
  rw [h1]
  simp only [Option.bind_some]
  cases b <;> rfl

theorem okRead_impl {N : Nat} {s : Tri} {l : List Tri} {x : Sqr} (hl : l.length ≤ 1048576) (hN : 1048576 < N) (hx : I64 x.2.1) : T_impl_SeqValue N s l x.2.1 = T_spec_SeqValue N s l x.2.1 := by
  obtain ⟨r, b, h1, h2⟩ := value_eq (s := s) (q := x.2.1) hl hN hx
  rw [h1, h2]

abbrev Sqw := Int × (Int × Int × Int) × Int × Int × List (Int × Int × (Int × Int × Int) × Int) × List (Int × Int × Int × Int × Int)

theorem specTrue_run {N : Nat} {s : Tri} {l : List Tri} {w : Sqw} (hl : l.length ≤ 1048576) (hr : w.2.2.2.2.2.length ≤ 1048576) (hN : 1048576 < N) (hx : ∀ x ∈ w.2.2.2.2.2, I64 x.2.1) : T_spec_SeqTrue N s l w = ret (!anyI (badS N s l w.2.2.2.2.2) 0 w.2.2.2.2.2) := by
  unfold T_spec_SeqTrue
  have h1 := loop_ix0 (l := w.2.2.2.2.2) (V := Unit) (R := Unit × (Bool × Unit)) (lp := fun n j v => T_spec_SeqTrue_lp0 N l s w (some ((), (false, ()))) (fun i29 t30 => some ((), (true, ()))) n j) (n := N) (by omega)
    (body := fun j x v k => bif badS N s l w.2.2.2.2.2 j.toNat x then some ((), (false, ())) else k v) (K := fun _ v => some ((), (true, ())))
    (fun n i v hi => by
      have hxi : I64 w.2.2.2.2.2[i].2.1 := hx _ (List.getElem_mem hi)
      simp only [T_spec_SeqTrue_lp0, ix_lt hi, both_self, ix_inb hi, ix_get hi, ix_succ (show i < 4611686018427387904 by omega), cond_true, inner_run hN hr i hi]
      rw [okRead_spec hl hN hxi]
      unfold badS
      rw [Int.toNat_natCast]
      cases okRead N s l w.2.2.2.2.2[i] <;> rfl)
    (fun n v => by simp only [T_spec_SeqTrue_lp0, ix_ge (Nat.le_refl w.2.2.2.2.2.length), cond_false]) ()
  refine h1.trans ?_
  rw [foldK_anyI (p := fun j x => badS N s l w.2.2.2.2.2 j x) (E := fun _ => some ((), (false, ()))) _ 0 () (fun j x v k _ => by rw [Int.toNat_natCast])]
  cases anyI (badS N s l w.2.2.2.2.2) 0 w.2.2.2.2.2 <;> rfl

theorem implTrue_run {N : Nat} {s : Tri} {l : List Tri} {w : Sqw} (hl : l.length ≤ 1048576) (hr : w.2.2.2.2.2.length ≤ 1048576) (hN : 1048576 < N) (hx : ∀ x ∈ w.2.2.2.2.2, I64 x.2.1) : T_impl_SeqTrue N s l w = ret (!anyI (badI N s l w.2.2.2.2.2) 0 w.2.2.2.2.2) := by
  unfold T_impl_SeqTrue
  have h1 := loop_ix0 (l := w.2.2.2.2.2) (V := Unit) (R := Unit × (Bool × Unit)) (lp := fun n j v => T_impl_SeqTrue_lp0 N l w.2.2.2.2.2 s w (some ((), (false, ()))) (fun i29 t30 => some ((), (true, ()))) n j) (n := N) (by omega)
    (body := fun j x v k => bif badI N s l w.2.2.2.2.2 j.toNat x then some ((), (false, ())) else k v) (K := fun _ v => some ((), (true, ())))
    (fun n i v hi => by
      have hxi : I64 w.2.2.2.2.2[i].2.1 := hx _ (List.getElem_mem hi)
      simp only [T_impl_SeqTrue_lp0, ix_lt hi, ix_inb hi, ix_get hi, ix_succ (show i < 4611686018427387904 by omega), cond_true]
      rw [okRead_impl hl hN hxi, okRead_spec hl hN hxi]
      unfold badI
      rw [Int.toNat_natCast]
      cases okRead N s l w.2.2.2.2.2[i] with
      | false => rfl
      | true =>
        simp only [Bool.not_true, cond_false, Bool.false_or]
        by_cases h0 : 0 < i
        · have e1 : decide ((i : Int) > 0) = true := by simpa using h0
          have e2 : isub .i64 (i : Int) 1 = ((i - 1 : Nat) : Int) := by rw [isub_eq (by unfold I64; omega)]; omega
          rw [e1, e2]
          simp only [cond_true, ix_inb (show i - 1 < w.2.2.2.2.2.length by omega), h0, decide_true, Bool.true_and, Int.toNat_natCast]
        · have e1 : decide ((i : Int) > 0) = false := by simp; omega
          have e2 : decide (0 < i) = false := by simp; omega
          rw [e1, e2]
          rfl)
    (fun n v => by simp only [T_impl_SeqTrue_lp0, ix_ge (Nat.le_refl w.2.2.2.2.2.length), cond_false]) ()
  refine h1.trans ?_
  rw [foldK_anyI (p := fun j x => badI N s l w.2.2.2.2.2 j x) (E := fun _ => some ((), (false, ()))) _ 0 () (fun j x v k _ => by rw [Int.toNat_natCast])]
  cases anyI (badI N s l w.2.2.2.2.2) 0 w.2.2.2.2.2 <;> rfl

abbrev TSqw : Ty := .prod (.int .i64) (.prod (.prod (.int .i64) (.prod (.int .i64) (.int .i64))) (.prod (.int .i64) (.prod (.int .i64) (.prod (.slice (.prod (.int .i64) (.prod (.int .i64) (.prod (.prod (.int .i64) (.prod (.int .i64) (.int .i64))) (.int .i64))))) (.slice (.prod (.int .i64) (.prod (.int .i64) (.prod (.int .i64) (.prod (.int .i64) (.int .i64))))))))))

theorem law_SeqTrue {s : Tri} {l : List Tri} {w : Sqw} (hl : Wfd (.slice (.prod (.int .i64) (.prod (.int .i64) (.int .i64)))) l) (hw : Wfd TSqw w) : T_laws_FnExactSeqTrue 1048577 s l w = ret true := by
  unfold T_laws_FnExactSeqTrue
  rw [f_szTripleS (by omega) (by omega) (by omega) hl]
  simp only [ret, Option.bind_some]
  by_cases h : (1048576 : Int) < (z_TripleS l : Int)
  · rw [if_pos h]; rfl
  · have e : decide ((1048576 - (z_TripleS l : Int)) < 0) = false := by simp; omega
    rw [if_neg h, e]
    simp only [cond_false]
    rw [f_szSeqWorld (by omega) (by omega) (by omega) hw]
    simp only [ret, Option.bind_some]
    by_cases h' : (1048576 : Int) - (z_TripleS l : Int) < (z_SeqWorld w : Int)
    · rw [if_pos h']; rfl
    · have e : decide ((1048576 : Int) - (z_TripleS l : Int) - (z_SeqWorld w : Int) < 0) = false := by simp; omega
      rw [if_neg h', e]
      have hl2 : z_TripleS l ≤ 1048576 := by omega
      have hw2 : z_SeqWorld w ≤ 1048576 := by omega
      have hN : 1048576 < 1048577 := by omega
      have hr : w.2.2.2.2.2.length ≤ 1048576 := by
        have : z_SeqReadS w.2.2.2.2.2 ≤ 1048576 := by unfold z_SeqWorld at hw2; omega
        exact this
      have hx : ∀ x ∈ w.2.2.2.2.2, I64 x.2.1 := fun x hx => wf_I64 (hw.2.2.2.2.2.2 x hx).2.1
      have hll : l.length ≤ 1048576 := hl2
      have key : anyI (badS 1048577 s l w.2.2.2.2.2) 0 w.2.2.2.2.2 = anyI (badI 1048577 s l w.2.2.2.2.2) 0 w.2.2.2.2.2 := bad_eq w.2.2.2.2.2 [] rfl (by simp)
      simp only [cond_false, f_toTriple hN, f_toTripleS hl2 hN, f_toSeqWorld hw2 hN, ret, Option.bind_some, specTrue_run hll hr hN hx, implTrue_run hll hr hN hx, key, f_eqTripleS hl2 hN, f_eqSeqWorld hw2 hN, beq_same, same_self, Bool.not_true]

theorem law_FnExactSeqTrue (d : PDen [.v (.prod (.int .i64) (.prod (.int .i64) (.int .i64))) true, .v (.slice (.prod (.int .i64) (.prod (.int .i64) (.int .i64)))) false, .v TSqw true])
    (hw : WfArgs [.v (.prod (.int .i64) (.prod (.int .i64) (.int .i64))) true, .v (.slice (.prod (.int .i64) (.prod (.int .i64) (.int .i64)))) false, .v TSqw true] d) : ∃ N o, T_laws_FnExactSeqTrue N d.1 d.2.1 d.2.2.1 = some (o, (true, ())) :=
  ⟨1048577, (), law_SeqTrue hw.2.1 hw.2.2.1⟩
end Go.Sx
