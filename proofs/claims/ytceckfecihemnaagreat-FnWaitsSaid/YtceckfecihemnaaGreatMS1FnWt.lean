/- Plain laws of the Lean functions. -/
import Derived.Test.YtceckfecihemnaaGreatMS1FnOr

namespace Go.Sx
set_option linter.unusedVariables false
set_option linter.unusedSimpArgs false
theorem waitGo_spec {l : List (List Opn)} {regs cells : List Int} {rows : List Rw} : ∀ (r n : Nat), (waitGo l regs cells rows r n = -1) ∨ ∃ k : Nat, waitGo l regs cells rows r n = (k : Int) ∧ n ≤ k ∧ k < n + r ∧ (orOf l regs (ovl cells (rows.take k))).1 ≠ -1 ∧ ∀ q, n ≤ q → q < k → (orOf l regs (ovl cells (rows.take q))).1 = -1
  | 0, n => .inl rfl
  | r + 1, n => by
    rw [waitGo]
    cases h : (orOf l regs (ovl cells (rows.take n))).1 != -1
    · simp only [cond_false]
      rcases waitGo_spec (l := l) (regs := regs) (cells := cells) (rows := rows) r (n + 1) with h1 | ⟨k, h1, h2, h3, h4, h5⟩
      · exact .inl h1
      · refine .inr ⟨k, h1, by omega, by omega, h4, fun q hq hk => ?_⟩
        by_cases e : q = n
        · subst e; simpa using h
        · exact h5 q (by omega) hk
    · simp only [cond_true]
      exact .inr ⟨n, rfl, Nat.le_refl _, by omega, by simpa using h, fun q hq hk => by omega⟩
theorem waitOf_bd (l : List (List Opn)) (regs cells : List Int) (rows : List Rw) : waitOf l regs cells rows = -1 ∨ (altsOk l regs cells = true ∧ rowsOk rows = true ∧ ∃ k : Nat, waitOf l regs cells rows = (k : Int) ∧ k ≤ rows.length ∧ (orOf l regs (ovl cells (rows.take k))).1 ≠ -1 ∧ ∀ q, q < k → (orOf l regs (ovl cells (rows.take q))).1 = -1) := by
  unfold waitOf
  cases h1 : altsOk l regs cells
  · exact .inl rfl
  · cases h2 : rowsOk rows
    · exact .inl rfl
    · simp only [Bool.and_true, cond_true]
      rcases waitGo_spec (l := l) (regs := regs) (cells := cells) (rows := rows) (rows.length + 1) 0 with h | ⟨k, a, b, c, d, e⟩
      · exact .inl h
      · exact .inr ⟨trivial, trivial, k, a, by omega, d, fun q hq => e q (by omega) hq⟩
theorem rows_take {rows : List Rw} (h : Rows rows) (n : Nat) : Rows (rows.take n) := fun r hr => h r (List.mem_of_mem_take hr)
theorem step_read {l : List (List Opn)} {regs cells : List Int} {rows : List Rw} (hk : altsOk l regs cells = true) (hr : rowsOk rows = true) {k : Nat} (hk1 : k < rows.length)
    (h1 : (orOf l regs (ovl cells (rows.take k))).1 = -1) (h2 : (orOf l regs (ovl cells (rows.take (k + 1)))).1 ≠ -1) : (orOf l regs (ovl cells (rows.take k))).2.2.2.any (· == rows[k].1) = true := by
  have hk' := hk
  unfold altsOk at hk'
  simp only [Bool.and_eq_true, decide_eq_true_eq] at hk'
  obtain ⟨q1, q2, q3, q4⟩ := hk'
  obtain ⟨r1, r2⟩ := rowsOk_iff.1 hr
  have v3 := vals_iff.1 q3
  have hok : ∀ n, rowsOk (rows.take n) = true := fun n => rowsOk_iff.2 ⟨by rw [List.length_take]; omega, rows_take r2 n⟩
  have eo : ∀ n, ovl cells (rows.take n) = lay cells (rows.take n) := fun n => by unfold ovl; rw [q3, hok n]; rfl
  have vo : ∀ n, Vals 8 (lay cells (rows.take n)) := fun n => lay_ok v3 (rows_take r2 n)
  have ak : ∀ n, altsOk l regs (ovl cells (rows.take n)) = true := fun n => by
    unfold altsOk
    rw [decide_eq_true q1, q2, q4, eo n, vals_iff.2 (vo n)]; rfl
  have en : lay cells (rows.take (k + 1)) = (lay cells (rows.take k)).set rows[k].1.toNat rows[k].2 := by
    rw [List.take_succ_eq_append_getElem hk1]
    unfold lay
    rw [List.foldl_append]; rfl
  cases hq : (orOf l regs (ovl cells (rows.take k))).2.2.2.any (· == rows[k].1)
  · exfalso
    apply h2
    refine (orOf_same (l := l) (regs := regs) (cells := ovl cells (rows.take k)) (other := ovl cells (rows.take (k + 1))) (ak k) (by rw [eo]; exact vals_iff.2 (vo (k + 1))) h1 fun c hc => ?_).1
    have hcb : 0 ≤ c := by
      have ho : orOf l regs (ovl cells (rows.take k)) = orGo regs (ovl cells (rows.take k)) l 0 [] := by unfold orOf; rw [ak k]; rfl
      have hc' := hc
      rw [ho, (orGo_neg l 0 [] (by rw [← ho]; exact h1)).2] at hc'
      exact (mem_cells (p := fun c => ([] ++ allReads regs (ovl cells (rows.take k)) l).any fun x => x == c).1 hc').1.1
    have hne : rows[k].1.toNat ≠ c.toNat := fun e => by
      have hb := (r2 rows[k] (List.getElem_mem hk1)).1
      have : (orOf l regs (ovl cells (rows.take k))).2.2.2.any (· == rows[k].1) = true := List.any_eq_true.2 ⟨c, hc, by simp; omega⟩
      rw [hq] at this; cases this
    rw [eo, eo, en, List.getD_eq_getElem?_getD, List.getElem?_set_ne hne, ← List.getD_eq_getElem?_getD]
  · rfl
section
variable {N : Nat}
theorem dRows_lp (hN : 1048576 < N) : ∀ (n i : Nat) (c : Cur) (l : List Rw), i < n → i ≤ 1000 → CurOk c → l.length + i ≤ 1000 →
    Drw (fun v : List Rw × Unit => v.1.length ≤ 1000) (Zc5 N (fun n12 t13 b14 l15 => (some ((b14, ()), (l15, ())) : Option ((Cur × Unit) × (List Rw × Unit)))) n (i : Int) c l)
  | 0, i, c, l, h, _, _, _ => by omega
  | n + 1, i, c, l, h, hi, hc, hl => by
    rw [Zc5]
    refine .bif (fun hb => ?_) (fun hb => .ok hc (by show l.length ≤ 1000; omega))
    have hi0 : 0 < i := by simpa using hb
    refine .bind (dCell hc) fun c1 v1 h1 p1 => .bind (dVal h1) fun c2 v2 h2 p2 => ?_
    refine .bifT (room_le (by simp; omega)) ?_
    rw [isub_eq (show I64 ((i : Int) - 1) by unfold I64; omega), show (i : Int) - 1 = ((i - 1 : Nat) : Int) by omega]
    exact dRows_lp hN n (i - 1) c2 _ (by omega) (by omega) h2 (by simp; omega)
theorem dRows (hN : 1048576 < N) {c : Cur} (hc : CurOk c) {most : Int} (h0 : 0 ≤ most) (h1 : most ≤ 500) : Drw (fun v : List Rw × Unit => v.1.length ≤ 1000) (Zci N c most) := by
  unfold Zci
  rw [iadd_eq (show I64 (most + 1) by unfold I64; omega)]
  refine .bind (dBelow (most + 1) hc) fun c1 v1 h2 p1 => ?_
  have p2 := p1.2 (by omega)
  obtain ⟨i, hi⟩ := Int.eq_ofNat_of_zero_le p2.1
  simp only []
  rw [hi]
  exact dRows_lp hN N i c1 [] (by omega) (by omega) h2 (by simp; omega)
theorem dMost_lp {b4 : Cur} {σ : Type} {Q : σ → Prop} {K : List Rw → Option ((Cur × Unit) × σ)} (hK : ∀ l, l.length ≤ 1000 → Drw Q (K l)) : ∀ (n : Nat) (l : List Rw), 300 - l.length < n → l.length ≤ 1000 → Drw Q (Zdo N b4 (fun _ l => K l) n l)
  | 0, l, h, _ => by omega
  | n + 1, l, h, hl => by
    rw [Zdo]
    refine .bif (fun hb => ?_) (fun hb => hK l hl)
    have hb' : l.length < 300 := by unfold ilen at hb; simp at hb; omega
    refine .bifT (room_le (by simp; omega)) ?_
    exact dMost_lp hK n _ (by simp; omega) (by simp; omega)
theorem dAny8 (hN : 1048576 < N) {c : Cur} (hc : CurOk c) : Drw (fun v : List Rw × Unit => v.1.length ≤ 1010) (Zdv N c) := by
  unfold Zdv
  refine .bind (dRows hN hc (by omega) (by omega)) fun c1 v1 h1 p1 => .bind (dBelow 20 h1) fun c2 v2 h2 p2 => ?_
  simp only []
  refine .bif (fun _ => .bifT (room_le (by simp; omega)) (.ok h2 (by show (List.append _ _ : List Rw).length ≤ 1010; simp; omega))) fun _ => ?_
  refine .bif (fun _ => .bifT (room_le (by simp; omega)) (.ok h2 (by show (List.append _ _ : List Rw).length ≤ 1010; simp; omega))) fun _ => ?_
  refine .bif (fun _ => ?_) fun _ => ?_
  · refine dMost_lp (Q := fun v : List Rw × Unit => v.1.length ≤ 1010) (K := fun l9 => ((Zv N c2 (2 : Int)).bind fun o10 => (bif o10.2.1 then (bif room ((List.length l9) + (List.length ([((0 : Int), (0 : Int))]))) then (some ((o10.1.1, ()), (List.append l9 ([((0 : Int), (0 : Int))]), ()))) else none) else (some ((o10.1.1, ()), (l9, ())))))) (fun l hl => ?_) N _ (by omega) p1
    refine .bind (dOnce 2 h2) fun c3 v3 h3 p3 => ?_
    exact .bif (fun _ => .bifT (room_le (by simp; omega)) (.ok h3 (by show (List.append _ _ : List Rw).length ≤ 1010; simp; omega))) fun _ => .ok h3 (by show l.length ≤ 1010; omega)
  · exact .bif (fun _ => .bifT (room_le (by simp; omega)) (.ok h2 (by show (List.append _ _ : List Rw).length ≤ 1010; simp; omega))) fun _ => .ok h2 (by show v1.1.length ≤ 1010; omega)
theorem z_kids_bd {l : List (List Opn)} (h1 : l.length ≤ 300) (h2 : ∀ x ∈ l, x.length ≤ 200) : z_KidS l ≤ 1048576 := by
  have : ∀ ks : List (List Opn), (∀ x ∈ ks, x.length ≤ 200) → (ks.map z_Kid).sum ≤ 200 * ks.length := by
    intro ks
    induction ks with
    | nil => simp
    | cons k ks ih =>
      intro hk
      have i1 := ih fun x hx => hk x (by simp [hx])
      have i2 := hk k (by simp)
      have i3 : z_Kid k = k.length := rfl
      rw [List.map_cons, List.sum_cons, List.length_cons]; omega
  have := this l h2
  unfold z_KidS
  omega
theorem drawWait_run (hN : 1048576 < N) {code : List Int} (h : code.length ≤ 1048576) : ∃ (l : List (List Opn)) (r v : List Int) (rows : List Rw), Ze2 N code = some ((), (l, (r, (v, (rows, ()))))) ∧ z_KidS l ≤ 1048576 ∧ r.length ≤ 100 ∧ v.length ≤ 100 ∧ rows.length ≤ 1010 := by
  obtain ⟨c, hc, he⟩ := new_draw h hN
  obtain ⟨c1, w, h1, h2, ⟨h3, h4⟩, h5, h6⟩ := dAll28 hN hc
  obtain ⟨c2, u, g1, g2, g3⟩ := dRows (N := N) hN h2 (most := 5) (by omega) (by omega)
  obtain ⟨c3, b, k1, k2, k3⟩ := dOnce (N := N) 15 g2
  have hz := z_kids_bd h3 h4
  unfold Ze2
  rw [he]
  simp only [ret, Option.bind_some]
  rw [h1]
  simp only [Option.bind_some]
  rw [g1]
  simp only [Option.bind_some]
  rw [k1]
  simp only [Option.bind_some]
  cases b.1
  · exact ⟨w.1, w.2.1, w.2.2.1, u.1, rfl, hz, h5, h6, by omega⟩
  · obtain ⟨c4, x, m1, m2, m3⟩ := dAny8 (N := N) hN k2
    simp only [cond_true]
    rw [m1]
    exact ⟨w.1, w.2.1, w.2.2.1, x.1, rfl, hz, h5, h6, m3⟩
theorem law_Wt {code : List Int} (hN : 1048576 < N) : Ze7 N code = ret true := by
  unfold Ze7 Zh8
  simp only [Option.bind_some]
  by_cases hb : code.length ≤ 1048576
  · have e0 : decide (ilen code > 1048576) = false := by simp [ilen]; omega
    obtain ⟨l, r, v, rows, hd, hl, hr, hv, hw⟩ := drawWait_run hN hb
    rw [e0]
    simp only [cond_false, hd, Option.bind_some, implWait_run (l := l) (regs := r) (cells := v) (rows := rows) hN hl (by omega) (by omega) (by omega), specWait_run (l := l) (regs := r) (cells := v) (rows := rows) hN hl (by omega) (by omega) (by omega), ret]
    have q0 : (waitOf l r v rows != waitOf l r v rows) = false := by simp
    rw [q0]
    simp only [cond_false]
    rcases waitOf_bd l r v rows with h | ⟨hk, hro, k, h1, h2, h3, h4⟩
    · rw [h]; rfl
    · rw [h1]
      cases k with
      | zero => rfl
      | succ k =>
        have e1 : decide (((k + 1 : Nat) : Int) ≤ 0) = false := decide_eq_false (by omega)
        have e2 : decide (((k + 1 : Nat) : Int) > ilen rows) = false := by unfold ilen; simp; omega
        have e3 : isub .i64 ((k + 1 : Nat) : Int) 1 = (k : Int) := isub1 (by omega)
        have e4 : ((decide ((0 : Int) ≤ (k : Int))) && (decide ((k : Int) ≤ ((List.length rows) : Int)))) = true := by simp; omega
        have e5 : ((decide ((0 : Int) ≤ ((k + 1 : Nat) : Int))) && (decide (((k + 1 : Nat) : Int) ≤ ((List.length rows) : Int)))) = true := by simp; omega
        have hkl : k < rows.length := by omega
        have b1 := ovl_len v (rows.take k)
        have b2 := ovl_len v (rows.take (k + 1))
        have hn := h4 k (by omega)
        obtain ⟨y1, y2, y3⟩ := orOf_len l r (ovl v (rows.take k))
        have hs := step_read hk hro hkl hn h3
        have e6 : ((orOf l r (ovl v (rows.take k))).1 == -1) = true := by rw [hn]; rfl
        have e7 : decide ((orOf l r (ovl v (rows.take (k + 1)))).1 ≥ 0) = true := by rw [which_ge]; simpa using h3
        simp only [e1, e2, e3, e4, e5, e6, e7, cond_false, cond_true, Int.toNat_natCast, specOvl_run (c := v) (rows := rows.take k) hN (by omega) (by rw [List.length_take]; omega), specOvl_run (c := v) (rows := rows.take (k + 1)) hN (by omega) (by rw [List.length_take]; omega), ret, Option.bind_some,
          implOr_run (l := l) (regs := r) (cells := ovl v (rows.take k)) hN hl (by omega) (by omega), implOr_run (l := l) (regs := r) (cells := ovl v (rows.take (k + 1))) hN hl (by omega) (by omega), ix_inb hkl, List.getD_eq_getElem?_getD, List.getElem?_eq_getElem hkl, Option.getD_some,
          has_run (N := N) (l := (orOf l r (ovl v (rows.take k))).2.2.2) (x := rows[k].1) (by omega) hN, hs]
  · have e0 : decide (ilen code > 1048576) = true := by simp [ilen]; omega
    rw [e0]; rfl
end
theorem law_FnWaits (d : PDen [.v (.slice (.int .u8)) false]) (hw : WfArgs [.v (.slice (.int .u8)) false] d) : ∃ N o, Ze7 N d.1 = some (o, (true, ())) :=
  ⟨1048577, (), law_Wt (N := 1048577) (by omega)⟩
end Go.Sx
