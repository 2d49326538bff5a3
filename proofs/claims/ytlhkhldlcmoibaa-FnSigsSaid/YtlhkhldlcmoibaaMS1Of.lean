/- Plain laws of the Lean functions. -/
import Derived.Test.YtlhkhldlcmoibaaMS1Sets
/- Plain law: the signature of a list. -/
namespace Go.Sx
set_option linter.unusedVariables false
set_option linter.unusedSimpArgs false

/-- all signatures laid over each other -/
def orS : List Int → Nat
  | [] => 0
  | x :: l => sig1 x ||| orS l

theorem orS_bit : ∀ (l : List Int) (k : Nat), (orS l).testBit k = l.any fun x => (sig1 x).testBit k
  | [], k => by simp [orS]
  | x :: l, k => by rw [orS, Nat.testBit_or, orS_bit l, List.any_cons]

theorem orS_lt : ∀ l, orS l < 2 ^ 60
  | [] => by decide
  | x :: l => Nat.or_lt_two_pow (sig1_lt x) (orS_lt l)

theorem implOf_run {N : Nat} {l : List Int} (hl : l.length ≤ 1048576) (hN : 1048576 < N) (hx : ∀ x ∈ l, I64 x) : T_impl_SigOf N l = ret (orS l : Int) := by
  unfold T_impl_SigOf
  have h0 := loop_ix0 (l := l) (V := { v : Nat // v < 2 ^ 60 }) (R := Unit × (Int × Unit)) (lp := fun n i v => T_impl_SigOf_lp0 N l (fun out12 t13 t14 => some ((), (out12, ()))) n (v.1 : Int) i) (n := N) (by omega)
    (body := fun i x v k => k ⟨v.1 ||| sig1 x, Nat.or_lt_two_pow v.2 (sig1_lt x)⟩) (K := fun i v => some ((), ((v.1 : Int), ())))
    (fun n i v hi => by
      have e := implOne_run (N := N) (hx l[i] (List.getElem_mem hi))
      have hv := v.2
      have hs := sig1_lt l[i]
      simp only [T_impl_SigOf_lp0, ix_lt hi, ix_inb hi, ix_get hi, ix_succ (show i < 4611686018427387904 by omega), cond_true, e, Option.bind_some]
      rw [ior_nat (by omega) (by omega)])
    (fun n v => by simp only [T_impl_SigOf_lp0, ix_ge (Nat.le_refl l.length), cond_false]) ⟨0, by decide⟩
  refine h0.trans ?_
  rw [foldK_fold (f := fun v x => ⟨v.1 ||| sig1 x, Nat.or_lt_two_pow v.2 (sig1_lt x)⟩) l 0 _ (fun j x v k _ => rfl)]
  have key : ∀ (l : List Int) (v : { v : Nat // v < 2 ^ 60 }), (l.foldl (fun (v : { v : Nat // v < 2 ^ 60 }) x => ⟨v.1 ||| sig1 x, Nat.or_lt_two_pow v.2 (sig1_lt x)⟩) v).1 = v.1 ||| orS l := by
    intro l
    induction l with
    | nil => intro v; simp [orS]
    | cons x l ih => intro v; rw [List.foldl_cons, ih, orS, Nat.or_assoc]
  rw [key]
  simp

theorem bit_top {base k : Nat} (hb : base < 2 ^ k) (f : Bool) : (base + f.toNat * 2 ^ k).testBit k = f := by
  have h := Nat.testBit_two_pow_mul_add f.toNat hb k
  rw [if_neg (by omega), Nat.sub_self] at h
  have e : 2 ^ k * f.toNat + base = base + f.toNat * 2 ^ k := by rw [Nat.mul_comm]; omega
  rw [← e, h]
  cases f <;> rfl

theorem specOf_in {N : Nat} {l : List Int} (hl : l.length ≤ 1048576) (hN : 1048576 < N) (hx : ∀ x ∈ l, I64 x) {k base : Nat} (hk : k < 60) (hb : base < 2 ^ k) {R : Type} (K0 : Int → Int → Bool → Option R) :
    T_spec_SigOf_lp1 N l (k : Int) K0 N (base : Int) 0 = K0 ((base + (l.any fun x => (sig1 x).testBit k).toNat * 2 ^ k : Nat) : Int) l.length false := by
  have hp : 2 ^ k ≤ 2 ^ 59 := Nat.pow_le_pow_right (by omega) (by omega)
  have hlt : ∀ v : Bool, base + v.toNat * 2 ^ k < 2 ^ 60 := fun v => by cases v <;> simp <;> omega
  have h0 := loop_ix0 (l := l) (V := Bool) (R := R) (lp := fun n i v => T_spec_SigOf_lp1 N l (k : Int) K0 n ((base + v.toNat * 2 ^ k : Nat) : Int) i) (n := N) (by omega)
    (body := fun i x v c => c (v || (sig1 x).testBit k)) (K := fun i v => K0 ((base + v.toNat * 2 ^ k : Nat) : Int) i false)
    (fun n i v hi => by
      have e := specOne_run (N := N) (hx l[i] (List.getElem_mem hi)) (by omega)
      have hs := sig1_lt l[i]
      have hv := hlt v
      have e2 : T_spec_l27Has N (sig1 l[i] : Int) (k : Int) = ret ((sig1 l[i]).testBit k) := specHas_run (natI64 (by omega)) (by omega) (by omega)
      have e3 : T_spec_l27Has N ((base + v.toNat * 2 ^ k : Nat) : Int) (k : Int) = ret v := by
        rw [specHas_run (natI64 (by omega)) (by omega) (by omega), bitS_nat, bit_top hb]
      simp only [T_spec_SigOf_lp1, ix_lt hi, ix_inb hi, ix_get hi, ix_succ (show i < 4611686018427387904 by omega), cond_true, e, e2, e3, Option.bind_some, ret, bit_run (N := N) (k := k) (by omega) (by omega)]
      cases hbit : (sig1 l[i]).testBit k with
      | false => simp
      | true =>
        cases v with
        | true => rfl
        | false =>
          have e4 : iadd .i64 ((base + false.toNat * 2 ^ k : Nat) : Int) ((2 ^ k : Nat) : Int) = ((base + true.toNat * 2 ^ k : Nat) : Int) := by
            have e5 : ((base + false.toNat * 2 ^ k : Nat) : Int) + ((2 ^ k : Nat) : Int) = ((base + true.toNat * 2 ^ k : Nat) : Int) := by
              rw [← Int.natCast_add]; congr 1; simp
            rw [iadd_eq (by rw [e5]; exact natI64 (by have := hlt true; omega)), e5]
          simp only [cond_true, Bool.not_false, e4, Bool.or_true])
    (fun n v => by simp only [T_spec_SigOf_lp1, ix_ge (Nat.le_refl l.length), cond_false]) false
  have e0 : T_spec_SigOf_lp1 N l (k : Int) K0 N (base : Int) 0 = T_spec_SigOf_lp1 N l (k : Int) K0 N ((base + false.toNat * 2 ^ k : Nat) : Int) 0 := by simp
  rw [e0]
  refine h0.trans ?_
  rw [foldK_fold (f := fun v x => v || (sig1 x).testBit k) l 0 _ (fun j x v k _ => rfl), Nat.zero_add]
  have key : ∀ (l : List Int) (v : Bool), l.foldl (fun v x => v || (sig1 x).testBit k) v = (v || l.any fun x => (sig1 x).testBit k) := by
    intro l
    induction l with
    | nil => intro v; simp
    | cons x l ih => intro v; rw [List.foldl_cons, ih, List.any_cons, Bool.or_assoc]
  rw [key, Bool.false_or]

theorem specOf_lp {N : Nat} {l : List Int} (hl : l.length ≤ 1048576) (hN : 1048576 < N) (hx : ∀ x ∈ l, I64 x) {R : Type} (K0 : Int → Int → Bool → Option R) : ∀ (n k : Nat), k ≤ 60 → 60 - k < n →
    T_spec_SigOf_lp0 N l K0 n ((orS l % 2 ^ k : Nat) : Int) (k : Int) = K0 ((orS l : Nat) : Int) 60 false
  | 0, k, _, h => by omega
  | n + 1, k, h1, h2 => by
    rw [T_spec_SigOf_lp0]
    by_cases hk : k < 60
    · have e1 : decide ((k : Int) < 60) = true := by simp; omega
      rw [e1]
      simp only [cond_true]
      rw [specOf_in hl hN hx hk (Nat.mod_lt _ (Nat.two_pow_pos k)), ix_succ (by omega)]
      have e2 : orS l % 2 ^ k + (l.any fun x => (sig1 x).testBit k).toNat * 2 ^ k = orS l % 2 ^ (k + 1) := by
        rw [← orS_bit, Nat.mod_pow_succ, Nat.testBit_eq_decide_div_mod_eq, Nat.mul_comm]
        congr 2
        have := Nat.mod_two_eq_zero_or_one (orS l / 2 ^ k)
        rcases this with h | h <;> rw [h] <;> rfl
      rw [e2]
      exact specOf_lp hl hN hx K0 n (k + 1) (by omega) (by omega)
    · have : k = 60 := by omega
      subst this
      rw [Nat.mod_eq_of_lt (orS_lt l)]
      rfl

theorem specOf_run {N : Nat} {l : List Int} (hl : l.length ≤ 1048576) (hN : 1048576 < N) (hx : ∀ x ∈ l, I64 x) : T_spec_SigOf N l = ret (orS l : Int) := by
  unfold T_spec_SigOf
  have := specOf_lp hl hN hx (R := Unit × (Int × Unit)) (fun out29 k30 t31 => some ((), (out29, ()))) N 0 (by omega) (by omega)
  rw [Nat.pow_zero, Nat.mod_one] at this
  exact this

theorem law_SigOf {l : List Int} (hx : ∀ x ∈ l, I64 x) : T_laws_FnExactSigOf 1048577 l = ret true := by
  unfold T_laws_FnExactSigOf
  by_cases hl : l.length ≤ 1048576
  · have e1 : decide (ilen l > 1048576) = false := by simp [ilen]; omega
    rw [e1]
    simp only [cond_false, toIntS_run hl (show l.length < 1048577 by omega), ret, Option.bind_some]
    rw [specOf_run hl (by omega) hx]
    simp only [ret, Option.bind_some]
    rw [implOf_run hl (by omega) hx]
    simp only [ret, Option.bind_some]
    rw [eqIntS_run hl (by omega)]
    simp
  · have e1 : decide (ilen l > 1048576) = true := by simp [ilen]; omega
    rw [e1]; rfl

theorem law_FnExactSigOf (d : PDen [.v (.slice (.int .i64)) false]) (hw : WfArgs [.v (.slice (.int .i64)) false] d) : ∃ N o, T_laws_FnExactSigOf N d.1 = some (o, (true, ())) :=
  ⟨1048577, (), law_SigOf fun x hx => wf_I64 (hw.1.2 x hx)⟩
end Go.Sx
