/- Plain laws of the Lean functions. -/
import Derived.Test.YtfbomdanghhgcaaT
/- Plain law: triples; the value that a sequence number stands for. -/
namespace Go.Sx
set_option linter.unusedVariables false
set_option linter.unusedSimpArgs false

abbrev Tri := Int × Int × Int

theorem toTripleS_run {N : Nat} {l : List Tri} (h : l.length ≤ 1048576) (hN : l.length < N) : T_laws_toTripleS N l = ret l := by
  unfold T_laws_toTripleS
  rw [make_ok l (by omega), toNat_ilen]
  simp only [cond_true]
  have h1 := loop_ix0 (l := l) (V := List Tri) (R := Unit × (List Tri × Unit)) (lp := fun n j v => T_laws_toTripleS_lp0 N l (fun i8 t9 l10 => some ((), (l10, ()))) n j v) (n := N) hN
    (body := fun j x v k => bif inb j v.length then k (v.set j.toNat x) else none) (K := fun _ v => some ((), (v, ())))
    (fun n i v hi => by simp only [T_laws_toTripleS_lp0, ix_lt hi, ix_inb hi, ix_get hi, ix_succ (show i < 4611686018427387904 by omega), cond_true, T_laws_toTriple, Option.bind_some])
    (fun n v => by simp only [T_laws_toTripleS_lp0, ix_ge (Nat.le_refl l.length), cond_false]) (List.replicate l.length ((0 : Int), ((0 : Int), (0 : Int))))
  refine h1.trans ?_
  rw [foldK_copy (f := id) l (fun j x v k _ => rfl)]
  simp

theorem eqTriple_run {N : Nat} {a b : Tri} : T_laws_eqTriple N a b = ret (decide (a = b)) := by
  obtain ⟨a1, a2, a3⟩ := a
  obtain ⟨b1, b2, b3⟩ := b
  unfold T_laws_eqTriple
  by_cases h1 : a1 = b1 <;> by_cases h2 : a2 = b2 <;> by_cases h3 : a3 = b3 <;> simp [bne_decide, h1, h2, h3]

theorem eqTripleS_run {N : Nat} {l m : List Tri} (h : l.length ≤ 1048576) (hN : l.length < N) : T_laws_eqTripleS N l m = ret (decide (l = m)) := by
  unfold T_laws_eqTripleS
  by_cases hl : l.length = m.length
  · have e : (ilen l != ilen m) = false := by simp [ilen, hl]
    rw [e]
    simp only [cond_false]
    have h1 := loop_ix0 (l := l) (V := Unit) (R := Unit × (Bool × Unit)) (lp := fun n j v => T_laws_eqTripleS_lp0 N l m (some ((), (false, ()))) (fun i8 t9 => some ((), (true, ()))) n j) (n := N) hN
      (body := fun j x v k => bif inb j m.length then (bif !decide (x = m.getD j.toNat ((0 : Int), ((0 : Int), (0 : Int)))) then some ((), (false, ())) else k v) else none) (K := fun _ v => some ((), (true, ())))
      (fun n i v hi => by simp only [T_laws_eqTripleS_lp0, ix_lt hi, ix_inb hi, ix_get hi, ix_succ (show i < 4611686018427387904 by omega), cond_true, eqTriple_run, ret, Option.bind_some])
      (fun n v => by simp only [T_laws_eqTripleS_lp0, ix_ge (Nat.le_refl l.length), cond_false]) ()
    refine h1.trans ?_
    rw [foldK_eq (E := fun _ => some ((), (false, ()))) (z := ((0 : Int), ((0 : Int), (0 : Int)))) l m 0 () (by omega) (fun j x v k _ => rfl)]
    simp only [List.drop_zero]
    by_cases hlm : l = m <;> simp [hlm]
  · have e : (ilen l != ilen m) = true := by simp [ilen]; omega
    have e2 : l ≠ m := fun h => hl (by rw [h])
    rw [e]
    simp [e2]

theorem szTripleS_run {N : Nat} {l : List Tri} (hl : l.length ≤ 9223372036854775807) : T_laws_szTripleS N l 1048576 = ret (if 1048576 < l.length then -1 else 1048576 - (l.length : Int)) := by
  unfold T_laws_szTripleS
  have e : isub .i64 1048576 (ilen l) = 1048576 - (l.length : Int) := isub_eq (by unfold I64 ilen; omega)
  rw [e]
  by_cases h : 1048576 < l.length
  · have : decide ((1048576 : Int) - (l.length : Int) < 0) = true := by simp; omega
    rw [this, if_pos h]; rfl
  · have : decide ((1048576 : Int) - (l.length : Int) < 0) = false := by simp; omega
    rw [this, if_neg h]; rfl

def isVal (v : Int) : Bool := decide (0 ≤ v) && decide (v ≤ 65535)
def isTri (t : Tri) : Bool := isVal t.1 && isVal t.2.1 && isVal t.2.2

theorem in_eq {N : Nat} {x a b : Int} : T_spec_l1In N x a b = ret (decide (a ≤ x) && decide (x ≤ b)) := by
  unfold T_spec_l1In
  by_cases h : a ≤ x <;> simp [h]

theorem within_eq {N : Nat} {x a b : Int} : T_impl_within N x a b = ret (decide (a ≤ x) && decide (x ≤ b)) := by
  unfold T_impl_within
  by_cases h : a ≤ x <;> simp [h]

theorem specTri_run {N : Nat} {t : Tri} : T_spec_l25Ok N t = ret (isTri t) := by
  unfold T_spec_l25Ok T_spec_l3Val
  simp only [in_eq, ret, Option.bind_some]
  unfold isTri isVal
  cases (decide (0 ≤ t.1) && decide (t.1 ≤ 65535)) <;> cases (decide (0 ≤ t.2.1) && decide (t.2.1 ≤ 65535)) <;> rfl

theorem implTri_run {N : Nat} {t : Tri} : T_impl_isTriple N t = ret (isTri t) := by
  unfold T_impl_isTriple T_impl_isValue
  simp only [within_eq, ret, Option.bind_some]
  unfold isTri isVal
  cases (decide (0 ≤ t.1) && decide (t.1 ≤ 65535)) <;> cases (decide (0 ≤ t.2.1) && decide (t.2.1 ≤ 65535)) <;> rfl

def triOk (l : List Tri) : Bool := decide (l.length ≤ 20) && l.all isTri

theorem any_not {α : Type} {p : α → Bool} (l : List α) : (l.any fun x => !p x) = !l.all p := by
  induction l with
  | nil => rfl
  | cons x l ih => simp [ih, Bool.not_and]

theorem specTris_run {N : Nat} {l : List Tri} (hl : l.length ≤ 1048576) (hN : 1048576 < N) : T_spec_TriplesOk N l = ret (triOk l) := by
  unfold T_spec_TriplesOk triOk
  by_cases h : l.length ≤ 20
  · have e : decide (ilen l > 20) = false := by simp [ilen]; omega
    rw [e]
    simp only [cond_false]
    have h1 := loop_ix0 (l := l) (V := Unit) (R := Unit × (Bool × Unit)) (lp := fun n j v => T_spec_TriplesOk_lp0 N l (some ((), (false, ()))) (fun i8 t9 => some ((), (true, ()))) n j) (n := N) (by omega)
      (body := fun j x v k => bif !isTri x then some ((), (false, ())) else k v) (K := fun _ v => some ((), (true, ())))
      (fun n i v hi => by simp only [T_spec_TriplesOk_lp0, ix_lt hi, ix_inb hi, ix_get hi, ix_succ (show i < 4611686018427387904 by omega), cond_true, specTri_run, ret, Option.bind_some])
      (fun n v => by simp only [T_spec_TriplesOk_lp0, ix_ge (Nat.le_refl l.length), cond_false]) ()
    refine h1.trans ?_
    rw [foldK_any (p := fun x => !isTri x) (E := fun _ => some ((), (false, ()))) l 0 () (fun j x v k _ => rfl), any_not]
    cases l.all isTri <;> simp [h]
  · have e : decide (ilen l > 20) = true := by simp [ilen]; omega
    rw [e]
    simp [h]

theorem implTris_run {N : Nat} {l : List Tri} (hl : l.length ≤ 1048576) (hN : 1048576 < N) : T_impl_TriplesOk N l = ret (triOk l) := by
  unfold T_impl_TriplesOk triOk
  have h1 := loop_ix0 (l := l) (V := Unit) (R := Unit × (Bool × Unit)) (lp := fun n j v => T_impl_TriplesOk_lp0 N l (some ((), (false, ()))) (fun i8 t9 => some ((), (decide ((ilen l) ≤ (20 : Int)), ()))) n j) (n := N) (by omega)
    (body := fun j x v k => bif !isTri x then some ((), (false, ())) else k v) (K := fun _ v => some ((), (decide ((ilen l) ≤ (20 : Int)), ())))
    (fun n i v hi => by simp only [T_impl_TriplesOk_lp0, ix_lt hi, ix_inb hi, ix_get hi, ix_succ (show i < 4611686018427387904 by omega), cond_true, implTri_run, ret, Option.bind_some])
    (fun n v => by simp only [T_impl_TriplesOk_lp0, ix_ge (Nat.le_refl l.length), cond_false]) ()
  refine h1.trans ?_
  rw [foldK_any (p := fun x => !isTri x) (E := fun _ => some ((), (false, ()))) l 0 () (fun j x v k _ => rfl), any_not]
  have e : decide (ilen l ≤ 20) = decide (l.length ≤ 20) := by apply decide_eq_decide.2; simp [ilen]; omega
  rw [e]
  cases l.all isTri <;> simp

theorem law_TriplesOk {l : List Tri} (hl : l.length ≤ 9223372036854775807) : T_laws_FnExactTriplesOk 1048577 l = ret true := by
  unfold T_laws_FnExactTriplesOk
  simp only [szTripleS_run hl, ret, Option.bind_some]
  by_cases h : 1048576 < l.length
  · rw [if_pos h]; rfl
  · have e : decide ((1048576 - (l.length : Int)) < 0) = false := by simp; omega
    have hl2 : l.length ≤ 1048576 := by omega
    rw [if_neg h, e]
    simp only [cond_false, toTripleS_run hl2 (show l.length < 1048577 by omega), ret, Option.bind_some, specTris_run hl2 (show 1048576 < 1048577 by omega), implTris_run hl2 (show 1048576 < 1048577 by omega), eqTripleS_run hl2 (show l.length < 1048577 by omega)]
    simp [beq]

theorem law_FnExactTriplesOk (d : PDen [.v (.slice (.prod (.int .i64) (.prod (.int .i64) (.int .i64)))) false]) (hw : WfArgs [.v (.slice (.prod (.int .i64) (.prod (.int .i64) (.int .i64)))) false] d) : ∃ N o, T_laws_FnExactTriplesOk N d.1 = some (o, (true, ())) :=
  ⟨1048577, (), law_TriplesOk (Nat.le_trans hw.1.1 (by decide))⟩

theorem value_eq {N : Nat} {s : Tri} {l : List Tri} {q : Int} (hl : l.length ≤ 1048576) (hN : 1048576 < N) (hq : I64 q) : ∃ r b, T_spec_SeqValue N s l q = some ((), (r, (b, ()))) ∧ T_impl_SeqValue N s l q = some ((), (r, (b, ()))) := by
  unfold T_spec_SeqValue T_impl_SeqValue
  simp only [specTri_run, implTri_run, specTris_run hl hN, implTris_run hl hN, in_eq, within_eq, ret, Option.bind_some]
  have e1 : imul .i64 2 (ilen l) = 2 * (l.length : Int) := imul_eq (by unfold I64 ilen; omega)
  rw [e1]
  cases isTri s with
  | false => exact ⟨_, _, rfl, rfl⟩
  | true =>
    cases triOk l with
    | false => exact ⟨_, _, rfl, rfl⟩
    | true =>
      by_cases h : 0 ≤ q ∧ q ≤ 2 * (l.length : Int)
      · have e2 : (decide (0 ≤ q) && decide (q ≤ 2 * (l.length : Int))) = true := by simp [h]
        rw [e2]
        simp only [Bool.not_true, cond_false, inz_lit2, cond_true]
        cases h1 : irem q 2 == 1 with
        | true => exact ⟨_, _, rfl, rfl⟩
        | false =>
          cases h2 : q == 0 with
          | true => exact ⟨_, _, rfl, rfl⟩
          | false =>
            simp only [cond_false]
            obtain ⟨n, rfl⟩ := Int.eq_ofNat_of_zero_le h.1
            have hn : n ≠ 0 := by
              intro hn; subst hn; simp at h2
            have h3 : n % 2 ≠ 1 := by
              intro h3
              have : irem (n : Int) 2 = ((n % 2 : Nat) : Int) := by unfold irem; rw [Int.tmod_eq_emod_of_nonneg (Int.natCast_nonneg _)]; rfl
              rw [this, h3] at h1
              simp at h1
            have e3 : iquo .i64 (n : Int) 2 = ((n / 2 : Nat) : Int) := by
              have : (n : Int).tdiv 2 = ((n / 2 : Nat) : Int) := rfl
              unfold iquo
              rw [this]
              exact wrap_i64 (natI64 (by omega))
            have e4 : isub .i64 ((n / 2 : Nat) : Int) 1 = ((n / 2 - 1 : Nat) : Int) := by rw [isub_eq (by unfold I64; omega)]; omega
            rw [e3, e4]
            have e5 : inb ((n / 2 - 1 : Nat) : Int) l.length = true := by rw [inb_nat]; simp; omega
            rw [e5]
            exact ⟨_, _, rfl, rfl⟩
      · have e2 : (decide (0 ≤ q) && decide (q ≤ 2 * (l.length : Int))) = false := by
          rw [Bool.and_eq_false_iff]
          by_cases h0 : 0 ≤ q
          · exact .inr (by simp; omega)
          · exact .inl (by simpa using h0)
        rw [e2]
        exact ⟨_, _, rfl, rfl⟩

theorem law_SeqValue {s : Tri} {l : List Tri} {q : Int} (hl : l.length ≤ 9223372036854775807) (hq : I64 q) : T_laws_FnExactSeqValue 1048577 s l q = ret true := by
  unfold T_laws_FnExactSeqValue
  simp only [szTripleS_run hl, ret, Option.bind_some]
  by_cases h : 1048576 < l.length
  · rw [if_pos h]; rfl
  · have e : decide ((1048576 - (l.length : Int)) < 0) = false := by simp; omega
    have hl2 : l.length ≤ 1048576 := by omega
    obtain ⟨r, b, h1, h2⟩ := value_eq (s := s) (q := q) hl2 (show 1048576 < 1048577 by omega) hq
    rw [if_neg h, e]
    simp only [cond_false, toTripleS_run hl2 (show l.length < 1048577 by omega), ret, Option.bind_some, T_laws_toTriple, h1, h2, eqTriple_run, eqTripleS_run hl2 (show l.length < 1048577 by omega)]
    simp [beq]

theorem law_FnExactSeqValue (d : PDen [.v (.prod (.int .i64) (.prod (.int .i64) (.int .i64))) true, .v (.slice (.prod (.int .i64) (.prod (.int .i64) (.int .i64)))) false, .v (.int .i64) false])
    (hw : WfArgs [.v (.prod (.int .i64) (.prod (.int .i64) (.int .i64))) true, .v (.slice (.prod (.int .i64) (.prod (.int .i64) (.int .i64)))) false, .v (.int .i64) false] d) : ∃ N o, T_laws_FnExactSeqValue N d.1 d.2.1 d.2.2.1 = some (o, (true, ())) :=
  ⟨1048577, (), law_SeqValue (Nat.le_trans hw.2.1.1 (by decide)) (wf_I64 hw.2.2.1)⟩
end Go.Sx
