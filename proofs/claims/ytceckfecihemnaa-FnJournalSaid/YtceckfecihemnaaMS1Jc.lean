/- Plain laws of the Lean functions. -/
import Derived.Test.YtceckfecihemnaaMS1Jb

namespace Go.Sx
set_option linter.unusedVariables false
set_option linter.unusedSimpArgs false
abbrev Wr := Int × Int × List Rw
def adj : List Rw → Bool
  | [] => true
  | [_] => true
  | a :: b :: r => decide (a.1 < b.1) && adj (b :: r)
def wOk (w : Wr) : Bool := (decide (1 ≤ w.1) && decide (w.1 ≤ 1000000)) && ((decide (1 ≤ w.2.1) && decide (w.2.1 ≤ 99)) && (rowsOk w.2.2 && adj w.2.2))
def shR (l : List Rw) (s : List UInt8) : List UInt8 := l.foldl (fun s r => (s ++ varI r.1) ++ varI r.2) s
def shW (w : Wr) : List UInt8 := if wOk w = true then shR w.2.2 ((varI w.1 ++ varI w.2.1) ++ varI (w.2.2.length : Int)) else []
theorem varI_len (n : Int) : (varI n).length ≤ 9 := by
  unfold varI
  split
  · exact (var_len _).2
  · simp
theorem adj_drop {l : List Rw} {i : Nat} (h : i + 1 < l.length) : adj (l.drop i) = (decide (l[i].1 < l[i + 1].1) && adj (l.drop (i + 1))) := by
  rw [List.drop_eq_getElem_cons (show i < l.length by omega), List.drop_eq_getElem_cons h, adj]
theorem adj_end {l : List Rw} {i : Nat} (h : l.length ≤ i + 1) : adj (l.drop i) = true := by
  rcases hd : l.drop i with _ | ⟨a, _ | ⟨b, r⟩⟩
  · rfl
  · rfl
  · have := congrArg List.length hd
    simp at this
    omega
theorem isub_nat {i : Nat} (h : i < 4611686018427387904) : isub .i64 ((i + 1 : Nat) : Int) 1 = (i : Int) := by rw [isub_eq (by unfold I64; omega)]; omega
theorem implNet_lp {N : Nat} {R : Type} {l : List Rw} {K0 : Option R} {K1 : Int → Bool → Option R} (hl : l.length ≤ 1048576) (B : Option R) (hB : ∀ i t, K1 i t = B) : ∀ (m i : Nat), l.length - i < m →
    Zb3 N l K0 K1 m ((i + 1 : Nat) : Int) = bif adj (l.drop i) then B else K0
  | 0, i, h => by omega
  | m + 1, i, h => by
    rw [Zb3]
    by_cases hi : i + 1 < l.length
    · rw [ix_lt hi, isub_nat (by omega), ix_inb hi, ix_inb (show i < l.length by omega), ix_get hi, ix_get (show i < l.length by omega), ix_succ (by omega), adj_drop hi]
      simp only [cond_true]
      by_cases hc : l[i].1 < l[i + 1].1
      · have e : decide (l[i].1 ≥ l[i + 1].1) = false := by simp; omega
        rw [e, decide_eq_true hc, implNet_lp hl B hB m (i + 1) (by omega)]
        rfl
      · have e : decide (l[i].1 ≥ l[i + 1].1) = true := by simp; omega
        rw [e, decide_eq_false hc]
        rfl
    · rw [ix_ge (by omega), adj_end (by omega)]
      simp only [cond_false, cond_true, hB]
theorem specNet_lp {N : Nat} {R : Type} {w : Wr} {K0 : Option R} {K1 : Int → Bool → Option R} (hl : w.2.2.length ≤ 1048576) (B : Option R) (hB : ∀ i t, K1 i t = B) : ∀ (m i : Nat), w.2.2.length - i < m →
    Zb1 N w K0 K1 m ((i + 1 : Nat) : Int) = bif adj (w.2.2.drop i) then B else K0
  | 0, i, h => by omega
  | m + 1, i, h => by
    rw [Zb1]
    by_cases hi : i + 1 < w.2.2.length
    · rw [ix_lt hi, isub_nat (by omega), ix_inb hi, ix_inb (show i < w.2.2.length by omega), ix_get hi, ix_get (show i < w.2.2.length by omega), ix_succ (by omega), adj_drop hi]
      simp only [cond_true]
      by_cases hc : w.2.2[i].1 < w.2.2[i + 1].1
      · have e : decide (w.2.2[i + 1].1 ≤ w.2.2[i].1) = false := by simp; omega
        rw [e, decide_eq_true hc, specNet_lp hl B hB m (i + 1) (by omega)]
        rfl
      · have e : decide (w.2.2[i + 1].1 ≤ w.2.2[i].1) = true := by simp; omega
        rw [e, decide_eq_false hc]
        rfl
    · rw [ix_ge (by omega), adj_end (by omega)]
      simp only [cond_false, cond_true, hB]
theorem implNet_run {N : Nat} {l : List Rw} (hl : l.length ≤ 1048576) (hN : 1048576 < N) : Zcc N l = ret (rowsOk l && adj l) := by
  unfold Zcc
  have h := implNet_lp (N := N) (l := l) (R := Unit × (Bool × Unit)) (K0 := some ((), (false, ()))) (K1 := fun i6 t7 => ((Zay N l).bind fun o8 => (some ((), (o8.2.1, ()))))) hl (some ((), (rowsOk l, ())))
    (fun i t => by simp only [implRows_run hl hN, ret, Option.bind_some]) N 0 (by omega)
  refine h.trans ?_
  rw [List.drop_zero]
  cases adj l <;> simp
theorem specWOk_run {N : Nat} {w : Wr} (hl : w.2.2.length ≤ 1048576) (hN : 1048576 < N) : Zb9 N w = ret (wOk w) := by
  unfold Zb9 wOk
  simp only [in_eq, ret, Option.bind_some, specRows_run hl hN]
  have h := specNet_lp (N := N) (w := w) (R := Unit × (Bool × Unit)) (K0 := some ((), (false, ()))) (K1 := fun i9 t10 => some ((), (true, ()))) hl (some ((), (true, ())))
    (fun i t => rfl) N 0 (by omega)
  have h1 := h
  rw [List.drop_zero] at h1
  have e : ((0 + 1 : Nat) : Int) = 1 := rfl
  rw [e] at h1
  rw [h1]
  cases (decide (1 ≤ w.1) && decide (w.1 ≤ 1000000)) <;> cases (decide (1 ≤ w.2.1) && decide (w.2.1 ≤ 99)) <;> cases rowsOk w.2.2 <;> cases adj w.2.2 <;> rfl
theorem shR_cons (r : Rw) (l : List Rw) (s : List UInt8) : shR (r :: l) s = shR l ((s ++ varI r.1) ++ varI r.2) := rfl
theorem shR_fold {K : List UInt8 → Option (Unit × (List UInt8 × Unit))} {body : Int → Rw → List UInt8 → (List UInt8 → Option (Unit × (List UInt8 × Unit))) → Option (Unit × (List UInt8 × Unit))}
    (hb : ∀ j r (s : List UInt8) k, s.length ≤ 1000000 → body j r s k = k ((s ++ varI r.1) ++ varI r.2)) : ∀ (l : List Rw) (j : Nat) (s : List UInt8), s.length + 18 * l.length ≤ 1000000 →
    foldK body (fun _ v => K v) l j s = K (shR l s)
  | [], j, s, h => rfl
  | r :: l, j, s, h => by
    rw [List.length_cons] at h
    rw [foldK, hb _ _ _ _ (by omega), shR_cons]
    have h1 := varI_len r.1
    have h2 := varI_len r.2
    exact shR_fold hb l (j + 1) _ (by simp only [List.length_append]; omega)
theorem rowsOk_len {l : List Rw} (h : rowsOk l = true) : l.length ≤ 300 := by
  unfold rowsOk at h; simp at h; exact h.1
theorem implShow_run {N : Nat} {w : Wr} (hl : w.2.2.length ≤ 1048576) (hN : 1048576 < N) : Z2 N w = ret (shW w) := by
  unfold Z2 Zf1 shW wOk
  simp only [within_eq, ret, Option.bind_some, implNet_run hl hN]
  cases h1 : (decide (1 ≤ w.1) && decide (w.1 ≤ 1000000))
  · rfl
  cases h2 : (decide (1 ≤ w.2.1) && decide (w.2.1 ≤ 99))
  · rfl
  cases h3 : (rowsOk w.2.2 && adj w.2.2)
  · rfl
  have hr : rowsOk w.2.2 = true := by cases h4 : rowsOk w.2.2 <;> simp [h4] at h3 ⊢
  have hl2 := rowsOk_len hr
  simp only [Bool.not_true, cond_false, implVar_run hN, ret, Option.bind_some, Bool.and_self, if_true]
  have a1 := varI_len w.1
  have a2 := varI_len w.2.1
  have a3 := varI_len (ilen w.2.2)
  rw [sfit_le (by omega), sfit_le (by simp only [List.length_append]; omega)]
  simp only [cond_true]
  have h := loop_ix0 (l := w.2.2) (V := List UInt8) (R := Unit × (List UInt8 × Unit)) (lp := fun n j v => Zak N w.2.2 (ilen w.2.2) (fun s19 t20 t21 => some ((), (s19, ()))) n v j) (n := N) (by omega)
    (body := fun j r s k => bif sfit s (varI r.1) then (bif sfit (s ++ varI r.1) (varI r.2) then k ((s ++ varI r.1) ++ varI r.2) else none) else none) (K := fun _ v => some ((), (v, ())))
    (fun n i v hi => by simp only [Zak, ix_lt hi, ix_inb hi, ix_get hi, ix_succ (show i < 4611686018427387904 by omega), cond_true, implVar_run hN, ret, Option.bind_some])
    (fun n v => by simp only [Zak, ix_ge (Nat.le_refl w.2.2.length), cond_false]) ((varI w.1 ++ varI w.2.1) ++ varI (ilen w.2.2))
  refine h.trans ?_
  exact shR_fold (K := fun v => some ((), (v, ()))) (fun j r s k hs => by
    have h1 := varI_len r.1
    have h2 := varI_len r.2
    rw [sfit_le (by omega), sfit_le (by simp only [List.length_append]; omega)]
    rfl) w.2.2 0 _ (by simp only [List.length_append]; omega)
theorem specShow_run {N : Nat} {w : Wr} (hl : w.2.2.length ≤ 1048576) (hN : 1048576 < N) : Zz N w = ret (shW w) := by
  unfold Zz shW
  simp only [ret, Option.bind_some, specWOk_run hl hN]
  cases h0 : wOk w
  · rfl
  have hr : rowsOk w.2.2 = true := by
    unfold wOk at h0
    cases h4 : rowsOk w.2.2 <;> simp [h4] at h0 ⊢
  have hl2 := rowsOk_len hr
  simp only [Bool.not_true, cond_false, specVar_run hN, ret, Option.bind_some, if_true]
  have a1 := varI_len w.1
  have a2 := varI_len w.2.1
  have a3 := varI_len (ilen w.2.2)
  rw [sfit_le (by omega), sfit_le (by simp only [List.length_append]; omega)]
  simp only [cond_true]
  have h := loop_ix0 (l := w.2.2) (V := List UInt8) (R := Unit × (List UInt8 × Unit)) (lp := fun n j v => Zag N w (fun s16 i17 t18 => some ((), (s16, ()))) n v j) (n := N) (by omega)
    (body := fun j r s k => bif sfit s (varI r.1) then (bif sfit (s ++ varI r.1) (varI r.2) then k ((s ++ varI r.1) ++ varI r.2) else none) else none) (K := fun _ v => some ((), (v, ())))
    (fun n i v hi => by simp only [Zag, ix_lt hi, ix_inb hi, ix_get hi, ix_succ (show i < 4611686018427387904 by omega), cond_true, specVar_run hN, ret, Option.bind_some])
    (fun n v => by simp only [Zag, ix_ge (Nat.le_refl w.2.2.length), cond_false]) ((varI w.1 ++ varI w.2.1) ++ varI (ilen w.2.2))
  refine h.trans ?_
  exact shR_fold (K := fun v => some ((), (v, ()))) (fun j r s k hs => by
    have h1 := varI_len r.1
    have h2 := varI_len r.2
    rw [sfit_le (by omega), sfit_le (by simp only [List.length_append]; omega)]
    rfl) w.2.2 0 _ (by simp only [List.length_append]; omega)
def rws (s : List UInt8) : Nat → Nat → Option (List Rw)
  | 0, _ => some []
  | n + 1, p => if (rv (s.drop p)).2 = 0 ∨ (rv (s.drop (p + (rv (s.drop p)).2))).2 = 0 then none else
      (rws s n (p + (rv (s.drop p)).2 + (rv (s.drop (p + (rv (s.drop p)).2))).2)).map fun l => ((((rv (s.drop p)).1 : Nat) : Int), (((rv (s.drop (p + (rv (s.drop p)).2))).1 : Nat) : Int)) :: l
def p1 (s : List UInt8) : Nat := (rv s).2
def p2 (s : List UInt8) : Nat := p1 s + (rv (s.drop (p1 s))).2
def p3 (s : List UInt8) : Nat := p2 s + (rv (s.drop (p2 s))).2
def q3 (s : List UInt8) : Nat := (rv (s.drop (p2 s))).1
def mkW (s : List UInt8) (l : List Rw) : Wr := (((rv s).1 : Nat), (((rv (s.drop (p1 s))).1 : Nat), l))
def rdW (s : List UInt8) : Option Wr :=
  if (rv s).2 = 0 ∨ (rv (s.drop (p1 s))).2 = 0 ∨ (rv (s.drop (p2 s))).2 = 0 then none else
    if 8 < q3 s then none else
      (rws s (q3 s) (p3 s)).bind fun l => if shW (mkW s l) = s then some (mkW s l) else none
def opW (o : Option Wr) : Option (Unit × (Wr × (Bool × Unit))) := match o with
  | none => some ((), (((0 : Int), ((0 : Int), ([] : List (Int × Int)))), (false, ())))
  | some w => some ((), (w, (true, ())))
theorem rv_nil : rv [] = (0, 0) := rfl
theorem rdW_nil : rdW [] = none := rfl
theorem taken_run {N : Nat} {s : List UInt8} (hs : s.length ≤ 1048576) (hN : 1048576 < N) : Zcb N s = some ((), (((rv s).1 : Int), (s.drop (rv s).2, (decide ((rv s).2 ≠ 0), ())))) := by
  unfold Zcb
  rw [implReadVar_run hs hN]
  have e : (decide ((0 : Int) ≤ (nn (rv s)).2) && decide ((nn (rv s)).2 ≤ ((s.length : Nat) : Int))) = true := in_pre (rv_le s).1
  have e2 : decide ((nn (rv s)).2 > 0) = decide ((rv s).2 ≠ 0) := by
    apply decide_eq_decide.2
    show (0 : Int) < (((rv s).2 : Nat) : Int) ↔ _
    omega
  simp only [two, Option.bind_some, e, cond_true, e2]
  rfl
theorem drop_len {s : List UInt8} {p : Nat} (hs : s.length ≤ 1048576) : (s.drop p).length ≤ 1048576 := by simp; omega
theorem implRows_lp {N : Nat} {s : List UInt8} {t : Nat} {b1 b2 : Int} (hs : s.length ≤ 1048576) (hN : 1048576 < N) (ht : t ≤ 100) {R : Type} (K0 : Option R) (K1 : List Rw → Option R) : ∀ (j m p i : Nat) (l : List Rw), i + j = t → j < m → l.length = i →
    Zal N s (t : Int) b1 b2 K0 (fun rest24 t25 t26 l27 => K1 l27) m (s.drop p) (i : Int) l = match rws s j p with | none => K0 | some r => K1 (l ++ r)
  | j, 0, p, i, l, _, h, _ => by omega
  | 0, m + 1, p, i, l, h, _, hl => by
    have e : decide ((i : Int) < (t : Int)) = false := by simp; omega
    rw [Zal, e]
    simp [rws]
  | j + 1, m + 1, p, i, l, h, h1, hl => by
    have e : decide ((i : Int) < (t : Int)) = true := by simp; omega
    rw [Zal, e, taken_run (drop_len hs) hN]
    simp only [cond_true, Option.bind_some, List.drop_drop]
    rw [taken_run (drop_len hs) hN, rws]
    simp only [Option.bind_some, List.drop_drop]
    by_cases ha : (rv (s.drop p)).2 = 0
    · simp [ha]
    by_cases hb : (rv (s.drop (p + (rv (s.drop p)).2))).2 = 0
    · simp [ha, hb]
    rw [if_neg (by omega), room_le (by simp; omega), ix_succ (by omega)]
    simp only [ha, hb, ne_eq, not_false_eq_true, decide_true, Bool.not_true, cond_false, cond_true]
    refine (implRows_lp hs hN ht K0 K1 j m _ (i + 1) _ (by omega) (by omega) (by simp; omega)).trans ?_
    cases rws s j (p + (rv (s.drop p)).2 + (rv (s.drop (p + (rv (s.drop p)).2))).2) <;> simp
theorem implRead_run {N : Nat} {s : List UInt8} (hs : s.length ≤ 1048576) (hN : 1048576 < N) : Zau N s = opW (rdW s) := by
  unfold Zau rdW
  rw [taken_run hs hN]
  simp only [Option.bind_some]
  rw [taken_run (drop_len hs) hN]
  simp only [Option.bind_some, List.drop_drop]
  rw [taken_run (drop_len hs) hN]
  simp only [Option.bind_some, List.drop_drop]
  have e1 : (rv s).2 = p1 s := rfl
  simp only [e1]
  have e2 : p1 s + (rv (s.drop (p1 s))).2 = p2 s := rfl
  simp only [e2]
  have e3 : p2 s + (rv (s.drop (p2 s))).2 = p3 s := rfl
  simp only [e3]
  by_cases ha : p1 s = 0
  · simp [ha, opW]
  by_cases hb : (rv (s.drop (p1 s))).2 = 0
  · simp [ha, hb, opW]
  by_cases hc : (rv (s.drop (p2 s))).2 = 0
  · simp [ha, hb, hc, opW]
  rw [if_neg (by omega)]
  simp only [ha, hb, hc, ne_eq, not_false_eq_true, decide_true, Bool.not_true, cond_false, cond_true]
  have e4 : (rv (s.drop (p2 s))).1 = q3 s := rfl
  simp only [e4]
  by_cases h8 : 8 < q3 s
  · have e : decide (((q3 s : Nat) : Int) > 8) = true := by simp; omega
    rw [e, if_pos h8]; rfl
  · have e : decide (((q3 s : Nat) : Int) > 8) = false := by simp; omega
    rw [e, if_neg h8]
    simp only [cond_false]
    have hne : seq s [] = false := by
      rw [seq_same]
      apply same_ne
      intro h
      rw [h] at ha
      exact ha rfl
    refine (implRows_lp hs hN (by omega) (t := q3 s) (some ((), (((0 : Int), ((0 : Int), ([] : List (Int × Int)))), (false, ())))) (fun l27 => (bif seq s ([] : List UInt8) then
     (some ((), (((0 : Int), ((0 : Int), ([] : List (Int × Int)))), (false, ()))))
     else
     ((Z2 N ((((rv s).1 : Nat) : Int), ((((rv (s.drop (p1 s))).1 : Nat) : Int), l27))).bind fun o28 =>
     (bif !(seq o28.2.1 s) then
     (some ((), (((0 : Int), ((0 : Int), ([] : List (Int × Int)))), (false, ()))))
     else
     (some ((), (((((rv s).1 : Nat) : Int), ((((rv (s.drop (p1 s))).1 : Nat) : Int), l27)), (true, ())))))))) (q3 s) N (p3 s) 0 [] (by omega) (by omega) rfl).trans ?_
    rcases hr : rws s (q3 s) (p3 s) with _ | l
    · rfl
    · have hlen : ∀ (n p : Nat) (l : List Rw), rws s n p = some l → l.length = n := by
        intro n
        induction n with
        | zero => intro p l h; rw [rws] at h; cases h; rfl
        | succ n ih =>
          intro p l h
          rw [rws] at h
          split at h
          · cases h
          · rcases hq : rws s n (p + (rv (s.drop p)).2 + (rv (s.drop (p + (rv (s.drop p)).2))).2) with _ | l2
            · rw [hq] at h; cases h
            · rw [hq] at h; cases h
              simp [ih _ _ hq]
      have := hlen _ _ _ hr
      simp only [List.nil_append, hne, cond_false, Option.bind_some]
      rw [implShow_run (by simp; omega) hN]
      simp only [ret, Option.bind_some, seq_same]
      show (bif !same (shW (mkW s l)) s then _ else _) = _
      by_cases h : shW (mkW s l) = s
      · rw [if_pos h, h, same_self]; rfl
      · rw [if_neg h, same_ne h]; rfl
def vs (s : List UInt8) : Nat → Nat → Option (List Int × Nat)
  | 0, p => some ([], p)
  | n + 1, p => if (rv (s.drop p)).2 = 0 then none else (vs s n (p + (rv (s.drop p)).2)).map fun r => (((rv (s.drop p)).1 : Int) :: r.1, r.2)
theorem vs_lp {N : Nat} {s : List UInt8} {t : Nat} (hs : s.length ≤ 1048576) (hN : 1048576 < N) (ht : t ≤ 100) {R : Type} (K0 : Option R) (K1 : Int → List Int → Option R) : ∀ (j m p i : Nat) (l : List Int), i + j = t → j < m → l.length = i → p ≤ s.length →
    Zar N s (t : Int) K0 (fun at15 i16 t17 l18 => K1 at15 l18) m (p : Int) (i : Int) l = match vs s j p with | none => K0 | some r => K1 (r.2 : Int) (l ++ r.1)
  | j, 0, p, i, l, _, h, _, _ => by omega
  | 0, m + 1, p, i, l, h, _, hl, hp => by
    have e : decide ((i : Int) < (t : Int)) = false := by simp; omega
    rw [Zar, e]
    simp [vs]
  | j + 1, m + 1, p, i, l, h, h1, hl, hp => by
    have e : decide ((i : Int) < (t : Int)) = true := by simp; omega
    rw [Zar, e, in_pre hp, Int.toNat_natCast, specReadVar_run (drop_len hs) hN, vs]
    simp only [cond_true, two, Option.bind_some]
    have hle := rv_le (s.drop p)
    rw [List.length_drop] at hle
    by_cases ha : (rv (s.drop p)).2 = 0
    · have e1 : ((nn (rv (s.drop p))).2 == 0) = true := by simp [nn, ha]
      have e2 : (((decide ((0 : Int) ≤ (t : Int))) && (decide ((t : Int) ≤ (t : Int)))) && (room (Int.toNat (t : Int)))) = true := by simp [room]; omega
      rw [e1, e2, if_pos ha]; rfl
    · have e1 : ((nn (rv (s.drop p))).2 == 0) = false := by simp [nn, ha]
      have e3 : iadd .i64 (p : Int) (nn (rv (s.drop p))).2 = ((p + (rv (s.drop p)).2 : Nat) : Int) := by
        show iadd .i64 (p : Int) (((rv (s.drop p)).2 : Nat) : Int) = _
        rw [iadd_eq (by unfold I64; omega)]; rfl
      rw [e1, if_neg ha, e3, ix_succ (by omega)]
      simp only [cond_false]
      rw [room_le (by simp [hl]; omega)]
      simp only [cond_true]
      refine (vs_lp hs hN ht K0 K1 j m _ (i + 1) (l ++ [(nn (rv (s.drop p))).1]) (by omega) (by omega) (by simp [hl]) (by omega)).trans ?_
      cases vs s j (p + (rv (s.drop p)).2) <;> simp [nn]
def vsR (n : Int) (o : Option (List Int × Nat)) : Option (Unit × (List Int × (Int × Unit))) := match o with
  | none => some ((), (List.replicate (Int.toNat n) (0 : Int), ((-1 : Int), ())))
  | some r => some ((), (r.1, ((r.2 : Int), ())))
theorem vars_run {N : Nat} {s : List UInt8} {t p : Nat} (hs : s.length ≤ 1048576) (hN : 1048576 < N) (ht : t ≤ 100) (hp : p ≤ s.length) : Za1 N s (p : Int) (t : Int) = vsR (t : Int) (vs s t p) := by
  unfold Za1 vsR
  refine (vs_lp hs hN ht (R := Unit × (List Int × (Int × Unit))) (some ((), (List.replicate (Int.toNat (t : Int)) (0 : Int), ((-1 : Int), ())))) (fun a b => some ((), (b, (a, ())))) t N p 0 [] (by omega) (by omega) rfl hp).trans ?_
  cases vs s t p <;> rfl
theorem vs2 (s : List UInt8) (p : Nat) : vs s 2 p = if (rv (s.drop p)).2 = 0 ∨ (rv (s.drop (p + (rv (s.drop p)).2))).2 = 0 then none else
    some ([((rv (s.drop p)).1 : Int), ((rv (s.drop (p + (rv (s.drop p)).2))).1 : Int)], p + (rv (s.drop p)).2 + (rv (s.drop (p + (rv (s.drop p)).2))).2) := by
  unfold vs vs vs
  by_cases ha : (rv (s.drop p)).2 = 0
  · simp [ha]
  by_cases hb : (rv (s.drop (p + (rv (s.drop p)).2))).2 = 0
  · simp [ha, hb]
  simp [ha, hb]
theorem vs3 (s : List UInt8) : vs s 3 0 = if (rv s).2 = 0 ∨ (rv (s.drop (p1 s))).2 = 0 ∨ (rv (s.drop (p2 s))).2 = 0 then none else
    some ([((rv s).1 : Int), ((rv (s.drop (p1 s))).1 : Int), (q3 s : Int)], p3 s) := by
  unfold vs
  rw [vs2, List.drop_zero, Nat.zero_add]
  have e1 : (rv s).2 = p1 s := rfl
  rw [e1]
  have e2 : p1 s + (rv (s.drop (p1 s))).2 = p2 s := rfl
  rw [e2]
  have e3 : p2 s + (rv (s.drop (p2 s))).2 = p3 s := rfl
  have e4 : (rv (s.drop (p2 s))).1 = q3 s := rfl
  rw [e3, e4]
  by_cases ha : p1 s = 0
  · simp [ha]
  by_cases hb : (rv (s.drop (p1 s))).2 = 0
  · simp [ha, hb]
  by_cases hc : (rv (s.drop (p2 s))).2 = 0
  · simp [ha, hb, hc]
  simp [ha, hb, hc]
theorem vs_place (s : List UInt8) : ∀ n p r, p ≤ s.length → vs s n p = some r → r.2 ≤ s.length
  | 0, p, r, h, e => by rw [vs] at e; cases e; exact h
  | n + 1, p, r, h, e => by
    rw [vs] at e
    split at e
    · cases e
    · have hle := (rv_le (s.drop p)).1
      rw [List.length_drop] at hle
      rcases hq : vs s n (p + (rv (s.drop p)).2) with _ | r2
      · rw [hq] at e; cases e
      · rw [hq] at e; cases e
        exact vs_place s n _ r2 (by omega) hq
theorem specRows_lp {N : Nat} {s : List UInt8} {t : Nat} {b1 b2 : Int} {h : List Int} (hs : s.length ≤ 1048576) (hN : 1048576 < N) (ht : t ≤ 100) (h3 : h.length = 3) (ht2 : List.getD h (Int.toNat 2) (0 : Int) = (t : Int)) {R : Type} (K0 : Option R) (K1 : List Rw → Option R) : ∀ (j m p i : Nat) (l : List Rw), i + j = t → j < m → l.length = i → p ≤ s.length →
    Zah N s h b1 b2 K0 (fun rest24 t25 t26 l27 => K1 l27) m (p : Int) (i : Int) l = match rws s j p with | none => K0 | some r => K1 (l ++ r)
  | j, 0, p, i, l, _, h, _, _ => by omega
  | 0, m + 1, p, i, l, h, _, hl, hp => by
    have e : decide ((i : Int) < (t : Int)) = false := by simp; omega
    rw [Zah, ht2, e, h3]
    simp [rws, inb]
  | j + 1, m + 1, p, i, l, h, h1, hl, hp => by
    have e : decide ((i : Int) < (t : Int)) = true := by simp; omega
    have ev := vars_run (N := N) (t := 2) hs hN (by omega) hp
    rw [Zah, ht2, e, h3]
    simp only [show inb 2 3 = true from rfl, cond_true]
    rw [show (2 : Int) = ((2 : Nat) : Int) from rfl, ev, rws]
    have hpl := vs_place s 2 p
    rw [vs2] at hpl ⊢
    by_cases ha : (rv (s.drop p)).2 = 0 ∨ (rv (s.drop (p + (rv (s.drop p)).2))).2 = 0
    · rw [if_pos ha, if_pos ha]; rfl
    · rw [if_neg ha] at hpl ⊢
      rw [if_neg ha]
      have hpl := hpl _ hp rfl
      simp only [vsR, Option.bind_some]
      have e4 : decide (((p + (rv (s.drop p)).2 + (rv (s.drop (p + (rv (s.drop p)).2))).2 : Nat) : Int) < 0) = false := by simp; omega
      rw [e4, ix_succ (by omega)]
      simp only [cond_false, List.length_cons, List.length_nil, show inb 0 (0 + 1 + 1) = true from rfl, show inb 1 (0 + 1 + 1) = true from rfl, cond_true]
      rw [room_le (by omega)]
      simp only [cond_true]
      refine (specRows_lp hs hN ht h3 ht2 K0 K1 j m _ (i + 1) _ (by omega) (by omega) (by simp; omega) hpl).trans ?_
      cases rws s j (p + (rv (s.drop p)).2 + (rv (s.drop (p + (rv (s.drop p)).2))).2) <;> simp
theorem rws_len {s : List UInt8} : ∀ (n p : Nat) (l : List Rw), rws s n p = some l → l.length = n
  | 0, p, l, h => by rw [rws] at h; cases h; rfl
  | n + 1, p, l, h => by
    rw [rws] at h
    split at h
    · cases h
    · rcases hq : rws s n (p + (rv (s.drop p)).2 + (rv (s.drop (p + (rv (s.drop p)).2))).2) with _ | l2
      · rw [hq] at h; cases h
      · rw [hq] at h; cases h
        simp [rws_len _ _ _ hq]
theorem specRead_run {N : Nat} {s : List UInt8} (hs : s.length ≤ 1048576) (hN : 1048576 < N) : Zas N s = opW (rdW s) := by
  unfold Zas rdW
  have ev := vars_run (N := N) (t := 3) (p := 0) hs hN (by omega) (Nat.zero_le _)
  have hpl := vs_place s 3 0
  rw [show (0 : Int) = ((0 : Nat) : Int) from rfl, show (3 : Int) = ((3 : Nat) : Int) from rfl, ev]
  rw [vs3] at hpl ⊢
  by_cases ha : (rv s).2 = 0 ∨ (rv (s.drop (p1 s))).2 = 0 ∨ (rv (s.drop (p2 s))).2 = 0
  · rw [if_pos ha, if_pos ha]; rfl
  · rw [if_neg ha] at hpl ⊢
    rw [if_neg ha]
    have hpl := hpl _ (Nat.zero_le _) rfl
    simp only [vsR, Option.bind_some]
    have e4 : decide (((p3 s : Nat) : Int) < ((0 : Nat) : Int)) = false := by simp
    rw [e4]
    simp only [cond_false, List.length_cons, List.length_nil, show inb ((0 : Nat) : Int) (0 + 1 + 1 + 1) = true from rfl, show inb 1 (0 + 1 + 1 + 1) = true from rfl, show inb 2 (0 + 1 + 1 + 1) = true from rfl, cond_true]
    have e5 : List.getD [((rv s).1 : Int), ((rv (s.drop (p1 s))).1 : Int), (q3 s : Int)] (Int.toNat 2) ((0 : Nat) : Int) = (q3 s : Int) := rfl
    rw [e5]
    by_cases h8 : 8 < q3 s
    · have e : decide (((q3 s : Nat) : Int) > 8) = true := by simp; omega
      rw [e, if_pos h8]; rfl
    · have e : decide (((q3 s : Nat) : Int) > 8) = false := by simp; omega
      rw [e, if_neg h8]
      simp only [cond_false]
      refine (specRows_lp hs hN (by omega) (t := q3 s) rfl rfl (some ((), (((0 : Int), ((0 : Int), ([] : List (Int × Int)))), (false, ())))) (fun l27 =>
         ((Zz N ((((rv s).1 : Nat) : Int), ((((rv (s.drop (p1 s))).1 : Nat) : Int), l27))).bind fun o28 =>
         (bif !(seq o28.2.1 s) then
         (some ((), (((0 : Int), ((0 : Int), ([] : List (Int × Int)))), (false, ()))))
         else
         (some ((), (((((rv s).1 : Nat) : Int), ((((rv (s.drop (p1 s))).1 : Nat) : Int), l27)), (true, ()))))))) (q3 s) N (p3 s) 0 [] (by omega) (by omega) rfl hpl).trans ?_
      rcases hr : rws s (q3 s) (p3 s) with _ | l
      · rfl
      · have := rws_len _ _ _ hr
        simp only [List.nil_append, Option.bind_some]
        rw [specShow_run (by simp; omega) hN]
        simp only [ret, Option.bind_some, seq_same]
        show (bif !same (shW (mkW s l)) s then _ else _) = _
        by_cases h : shW (mkW s l) = s
        · rw [if_pos h, h, same_self]; rfl
        · rw [if_neg h, same_ne h]; rfl
end Go.Sx
