/- Plain laws of the Lean functions. -/
import Derived.Test.YtglbfgeahjjnoaaMS1Play
/- Plain law: drawn plays of a writer and three readers. -/
namespace Go.Sx
set_option linter.unusedVariables false
set_option linter.unusedSimpArgs false

theorem PlayOk.mono {s : Tri} {l : List Tri} {n m : Nat} {w : Sqw} (h : PlayOk s l n w) (hm : n ≤ m) : PlayOk s l m w :=
  ⟨h.at_, h.nx, h.nx2, h.sq, h.na, h.nb, h.nc, h.rl, h.rd, Nat.le_trans h.dl hm, h.dn, h.so⟩

theorem play_lp {N : Nat} {s : Tri} {l : List Tri} {acts : List Int} (hl : l.length ≤ 20) (ha : acts.length ≤ 200) : ∀ (n j : Nat) (w : Sqw), PlayOk s l j w → j ≤ acts.length → acts.length - j < n →
    ∃ w' : Sqw, PlayOk s l acts.length w' ∧ ∀ {R : Type} (K : Int → Bool → Int → Int → Int → Int → Int → Int → List Rdr → List Sqr → Option R),
      T_impl_SeqPlay_lp0 N l acts K n (j : Int) w.1 w.2.1.1 w.2.1.2.1 w.2.1.2.2 w.2.2.1 w.2.2.2.1 w.2.2.2.2.1 w.2.2.2.2.2 = K acts.length false w'.1 w'.2.1.1 w'.2.1.2.1 w'.2.1.2.2 w'.2.2.1 w'.2.2.2.1 w'.2.2.2.2.1 w'.2.2.2.2.2
  | 0, j, w, _, _, h => by omega
  | n + 1, j, w, hw, h1, h2 => by
    by_cases hj : j < acts.length
    · have step : ∀ w2 : Sqw, PlayOk s l (j + 1) w2 → ∃ w' : Sqw, PlayOk s l acts.length w' ∧ ∀ {R : Type} (K : Int → Bool → Int → Int → Int → Int → Int → Int → List Rdr → List Sqr → Option R),
          T_impl_SeqPlay_lp0 N l acts K n ((j + 1 : Nat) : Int) w2.1 w2.2.1.1 w2.2.1.2.1 w2.2.1.2.2 w2.2.2.1 w2.2.2.2.1 w2.2.2.2.2.1 w2.2.2.2.2.2 = K acts.length false w'.1 w'.2.1.1 w'.2.1.2.1 w'.2.1.2.2 w'.2.2.1 w'.2.2.2.1 w'.2.2.2.2.1 w'.2.2.2.2.2 :=
        fun w2 h => play_lp hl ha n (j + 1) w2 h hj (by omega)
      by_cases h0 : acts[j] = 0
      · obtain ⟨w', h3, h4⟩ := step (seqWr l w) ((wr_ok hl hw).mono (by omega))
        refine ⟨w', h3, fun K => ?_⟩
        have b0 : (acts[j] == 0) = true := by simp [h0]
        have hwr := implWr_run (N := N) (l := l) (w := w) hw.at_ (fun hn _ => by
          have h5 := hw.nx2 hn
          have h6 := hw.nx
          unfold inb; simp; omega)
        simp only [T_impl_SeqPlay_lp0, ix_lt hj, ix_inb hj, ix_get hj, cond_true, b0, ix_succ (show j < 4611686018427387904 by omega)]
        rw [hwr]
        exact h4 K
      · have b0 : (acts[j] == 0) = false := by simp [h0]
        by_cases hk : 1 ≤ acts[j] ∧ acts[j] ≤ 3
        · have bk : (decide (1 ≤ acts[j]) && decide (acts[j] ≤ 3)) = true := by simp [hk]
          have ek : isub .i64 acts[j] 1 = ((acts[j] - 1).toNat : Int) := by rw [isub_eq (by unfold I64; omega)]; omega
          obtain ⟨w', h3, h4⟩ := step (seqRd w (acts[j] - 1).toNat) (rd_ok hl (by omega) hw)
          refine ⟨w', h3, fun K => ?_⟩
          have hkl : (acts[j] - 1).toNat < w.2.2.2.2.1.length := by rw [hw.rl]; omega
          have hrd := implRd_run (N := N) (w := w) (k := (acts[j] - 1).toNat) hkl (hw.rd _ (List.getElem_mem hkl)).ph (by have := hw.dl; omega)
          simp only [T_impl_SeqPlay_lp0, ix_lt hj, ix_inb hj, ix_get hj, cond_true, b0, cond_false, within_eq, ret, Option.bind_some, bk, ek, ix_succ (show j < 4611686018427387904 by omega)]
          rw [hrd]
          exact h4 K
        · have bk : (decide (1 ≤ acts[j]) && decide (acts[j] ≤ 3)) = false := by
            rw [Bool.and_eq_false_iff]
            by_cases h : 1 ≤ acts[j]
            · exact .inr (by simp; omega)
            · exact .inl (by simpa using h)
          obtain ⟨w', h3, h4⟩ := step w (hw.mono (by omega))
          refine ⟨w', h3, fun K => ?_⟩
          simp only [T_impl_SeqPlay_lp0, ix_lt hj, ix_inb hj, ix_get hj, cond_true, b0, cond_false, within_eq, ret, Option.bind_some, bk, ix_succ (show j < 4611686018427387904 by omega)]
          exact h4 K
    · have e : j = acts.length := by omega
      subst e
      refine ⟨w, hw, fun K => ?_⟩
      simp only [T_impl_SeqPlay_lp0, ix_ge (Nat.le_refl acts.length), cond_false]

theorem play0 {s : Tri} {l : List Tri} : PlayOk s l 0 (0, (s.1, s.2.1, s.2.2), 0, 0, List.replicate 3 ((0 : Int), ((0 : Int), (((0 : Int), ((0 : Int), (0 : Int))), (0 : Int)))), []) where
  at_ := by simp
  nx := by simp
  nx2 := by simp
  sq := by simp
  na := by simp [valAt]
  nb := by simp [valAt]
  nc := by simp [valAt]
  rl := by simp
  rd := fun r hr => by
    have := List.eq_of_mem_replicate hr
    rw [this]
    exact ⟨by simp, by simp, fun _ => by simp, fun h => by simp at h, fun h => by simp at h, fun h => by simp at h⟩
  dl := by simp
  dn := fun d hd => by simp at hd
  so := List.Pairwise.nil

def zeroW : Sqw := (0, (0, 0, 0), 0, 0, [], [])

theorem play_run {N : Nat} {s : Tri} {l : List Tri} {acts : List Int} (hll : l.length ≤ 1048576) (hN : 1048576 < N) :
    ∃ w : Sqw, T_impl_SeqPlay N s l acts = ret w ∧ ((isTri s && triOk l && decide (acts.length ≤ 200)) = false → w = zeroW) ∧ ((isTri s && triOk l && decide (acts.length ≤ 200)) = true → PlayOk s l acts.length w) := by
  unfold T_impl_SeqPlay
  simp only [implTri_run, implTris_run hll hN, ret, Option.bind_some, both_self]
  cases h1 : isTri s with
  | false => exact ⟨_, rfl, fun _ => rfl, fun h => by simp at h⟩
  | true =>
    cases h2 : triOk l with
    | false => exact ⟨_, rfl, fun _ => rfl, fun h => by simp at h⟩
    | true =>
      simp only [Bool.not_true, cond_false]
      by_cases h3 : acts.length ≤ 200
      · have e : decide (ilen acts > 200) = false := by simp [ilen]; omega
        have e2 : (((decide ((0 : Int) ≤ (3 : Int))) && (decide ((3 : Int) ≤ (3 : Int)))) && (room (Int.toNat (3 : Int)))) = true := by decide
        rw [e, e2]
        simp only [cond_false, cond_true]
        have h2' : l.length ≤ 20 := by unfold triOk at h2; simp at h2; exact h2.1
        obtain ⟨w, h4, h5⟩ := play_lp (N := N) (s := s) (l := l) (acts := acts) h2' h3 N 0 _ play0 (Nat.zero_le _) (by omega)
        exact ⟨w, h5 _, fun h => by simp [h3] at h, fun _ => h4⟩
      · have e : decide (ilen acts > 200) = true := by simp [ilen]; omega
        rw [e]
        exact ⟨_, rfl, fun _ => rfl, fun h => by simp [h3] at h⟩

theorem value_at {N : Nat} {s : Tri} {l : List Tri} {q : Int} (hs : isTri s = true) (ht : triOk l = true) (hl : l.length ≤ 1048576) (hN : 1048576 < N) (h0 : 0 ≤ q) (h1 : q ≤ 2 * l.length) :
    ∃ v, T_spec_SeqValue N s l q = some ((), (v, (decide (q % 2 = 0), ()))) ∧ (q % 2 = 0 → v = valAt s l (q / 2).toNat) := by
  unfold T_spec_SeqValue
  have e1 : imul .i64 2 (ilen l) = 2 * (l.length : Int) := imul_eq (by unfold I64 ilen; omega)
  have e2 : (decide (0 ≤ q) && decide (q ≤ 2 * (l.length : Int))) = true := by simp [h0, h1]
  have em : irem q 2 = q % 2 := by unfold irem; exact Int.tmod_eq_emod_of_nonneg h0
  simp only [specTri_run, specTris_run hl hN, in_eq, ret, Option.bind_some, hs, ht, Bool.not_true, cond_false, e1, e2, inz_lit2, cond_true, em]
  by_cases hodd : q % 2 = 1
  · have b1 : (q % 2 == 1) = true := by simp [hodd]
    have b2 : decide (q % 2 = 0) = false := by simp; omega
    rw [b1, b2]
    exact ⟨_, rfl, fun h => by omega⟩
  · have b1 : (q % 2 == 1) = false := by simp [hodd]
    have b2 : decide (q % 2 = 0) = true := by simp; omega
    rw [b1, b2]
    simp only [cond_false]
    by_cases hz : q = 0
    · subst hz
      exact ⟨_, rfl, fun _ => rfl⟩
    · have b3 : (q == 0) = false := by simp [hz]
      rw [b3]
      simp only [cond_false]
      have e3 : iquo .i64 q 2 = ((q / 2).toNat : Int) := by
        have : q.tdiv 2 = q / 2 := Int.tdiv_eq_ediv_of_nonneg h0
        unfold iquo
        rw [this]
        have := wrap_i64 (n := q / 2) (by unfold I64; omega)
        rw [this]; omega
      have e4 : isub .i64 ((q / 2).toNat : Int) 1 = (((q / 2).toNat - 1 : Nat) : Int) := by rw [isub_eq (by unfold I64; omega)]; omega
      rw [e3, e4]
      have hlt : (q / 2).toNat - 1 < l.length := by omega
      simp only [ix_inb hlt, ix_get hlt, cond_true]
      refine ⟨_, rfl, fun _ => ?_⟩
      have e5 : (q / 2).toNat = ((q / 2).toNat - 1) + 1 := by omega
      have key : ∀ m k : Nat, k = m + 1 → valAt s l k = l.getD m ((0 : Int), ((0 : Int), (0 : Int))) := fun m k h => by subst h; rfl
      rw [key _ _ e5, ix_getm hlt]

theorem noAny {α : Type} {p : Nat → α → Bool} : ∀ (l : List α) (j : Nat), (∀ i x, x ∈ l → p i x = false) → anyI p j l = false
  | [], _, _ => rfl
  | x :: l, j, h => by rw [anyI, h j x (List.mem_cons_self ..), noAny l (j + 1) fun i y hy => h i y (List.mem_cons_of_mem _ hy)]; rfl

theorem true_play {N : Nat} {s : Tri} {l : List Tri} {n : Nat} {w : Sqw} (hs : isTri s = true) (ht : triOk l = true) (hl : l.length ≤ 20) (hN : 1048576 < N) (hn : n ≤ 200) (h : PlayOk s l n w) :
    T_spec_SeqTrue N s l w = ret true ∧ T_impl_SeqTrue N s l w = ret true := by
  have hr : w.2.2.2.2.2.length ≤ 1048576 := by have := h.dl; omega
  have hsq : w.1 ≤ 2 * l.length + 1 := by
    have h1 := h.sq; have h2 := h.nx
    split at h1 <;> omega
  have hsq2 : w.1 ≤ 2 * l.length := by
    have h1 := h.sq; have h2 := h.nx; have h3 := h.nx2
    by_cases h0 : w.2.2.1 = 0
    · rw [if_pos h0] at h1; omega
    · rw [if_neg h0] at h1; have := h3 h0; omega
  have hx : ∀ x ∈ w.2.2.2.2.2, I64 x.2.1 := fun x hx => by have := (h.dn x hx).low; unfold I64; omega
  have hok : ∀ x ∈ w.2.2.2.2.2, okRead N s l x = true := fun x hx => by
    have hd := h.dn x hx
    obtain ⟨v, e1, e2⟩ := value_at (N := N) hs ht (show l.length ≤ 1048576 by omega) hN hd.low.1 (by have := hd.low.2; omega)
    unfold okRead
    rw [e1]
    have ev : v = x.2.2 := by rw [e2 hd.ev, hd.val]
    have b : decide (x.2.1 % 2 = 0) = true := by simp [hd.ev]
    simp only [b, ev, ieq, beq_self_eq_true, Bool.and_self]
  have key : anyI (badS N s l w.2.2.2.2.2) 0 w.2.2.2.2.2 = anyI (badI N s l w.2.2.2.2.2) 0 w.2.2.2.2.2 := bad_eq w.2.2.2.2.2 [] rfl (by simp)
  have no : anyI (badS N s l w.2.2.2.2.2) 0 w.2.2.2.2.2 = false := by
    have so := h.so
    have gen : ∀ (r d : List Sqr), w.2.2.2.2.2 = d ++ r → anyI (badS N s l w.2.2.2.2.2) d.length r = false := by
      intro r
      induction r with
      | nil => intro d _; rfl
      | cons x r ih =>
        intro d hd
        rw [anyI]
        have e1 := ih (d ++ [x]) (by rw [hd]; simp)
        rw [List.length_append] at e1
        simp only [List.length_cons, List.length_nil, Nat.zero_add] at e1
        rw [e1, Bool.or_false]
        unfold badS
        have hxm : x ∈ w.2.2.2.2.2 := by rw [hd]; simp
        have e2 : w.2.2.2.2.2.take d.length = d := by rw [hd]; simp
        rw [hok x hxm, e2]
        simp only [Bool.not_true, Bool.false_or, List.any_eq_false, decide_eq_true_eq]
        intro y hy
        rw [hd] at so
        have := (List.pairwise_append.1 so).2.2 y hy x (List.mem_cons_self ..)
        omega
    exact gen w.2.2.2.2.2 [] rfl
  constructor
  · rw [specTrue_run (by omega) hr hN hx, no]; rfl
  · rw [implTrue_run (by omega) hr hN hx, ← key, no]; rfl

/-! the draws -/
theorem val_draw {N : Nat} {c : Cur} (h : CurOk c) : Draws (fun _ : Int => True) (T_spec_l3Draw N c) := by
  unfold T_spec_l3Draw
  obtain ⟨c1, v, e1, hc, _⟩ := once_draw (N := N) (n := 6) h
  rw [e1]
  simp only [Option.bind_some]
  cases v
  · obtain ⟨c2, v, e2, hc2, hv⟩ := below_draw (N := N) (n := 9) hc
    simp only [cond_false, e2, Option.bind_some]
    exact ⟨_, _, rfl, hc2, trivial⟩
  · obtain ⟨c2, v, e2, hc2, hv⟩ := pick_draw (N := N) (l := [(0 : Int), (65535 : Int), (65534 : Int), (256 : Int)]) hc (by decide) (by decide)
    simp only [cond_true, e2, Option.bind_some]
    exact ⟨_, _, rfl, hc2, trivial⟩

theorem tri_draw {N : Nat} {c : Cur} (h : CurOk c) : Draws (fun _ : Tri => True) (T_spec_l25Triple N c) := by
  unfold T_spec_l25Triple
  obtain ⟨c1, v, e1, hc, _⟩ := val_draw (N := N) h
  obtain ⟨c2, b, e2, hc2, _⟩ := once_draw (N := N) (n := 2) hc
  rw [e1]
  simp only [Option.bind_some, e2]
  cases b
  · obtain ⟨c3, v3, e3, hc3, _⟩ := val_draw (N := N) hc2
    obtain ⟨c4, v4, e4, hc4, _⟩ := val_draw (N := N) hc3
    simp only [cond_false, e3, e4, Option.bind_some]
    exact ⟨_, _, rfl, hc4, trivial⟩
  · exact ⟨_, _, rfl, hc2, trivial⟩

theorem all_lp0 {N : Nat} {b9 : Tri} : ∀ (n q : Nat) (c : Cur) (l : List Tri), CurOk c → q < n → l.length + q ≤ 1000 →
    ∃ c' l', CurOk c' ∧ l'.length = l.length + q ∧ ∀ {R : Type} (K0 : Int → Bool → Cur → List Tri → Option R), T_spec_l25All_lp0 N b9 K0 n (q : Int) c l = K0 0 false c' l'
  | 0, q, c, l, _, h, _ => by omega
  | n + 1, 0, c, l, hc, _, _ => ⟨c, l, hc, rfl, fun K0 => rfl⟩
  | n + 1, q + 1, c, l, hc, hn, hq => by
    obtain ⟨c1, v, e1, hc1, hv⟩ := tri_draw (N := N) hc
    obtain ⟨c', l', h1, h3, h4⟩ := all_lp0 (N := N) (b9 := b9) n q c1 (l ++ [v]) hc1 (by omega) (by simp; omega)
    refine ⟨c', l', h1, by rw [h3]; simp; (try omega), fun K0 => ?_⟩
    have ed : decide (((q + 1 : Nat) : Int) > 0) = true := by simp
    have er : room (l.length + [v].length) = true := by unfold room; simp; omega
    have es : isub .i64 ((q + 1 : Nat) : Int) 1 = (q : Int) := by rw [isub_eq (by unfold I64; omega)]; omega
    simp only [T_spec_l25All_lp0, ed, e1, Option.bind_some, er, es, cond_true]
    exact h4 K0

theorem all_lp1 {N : Nat} {b29 : Tri} {l31 : List Int} : ∀ (n : Nat) (c : Cur) (l : List Tri), CurOk c → l.length ≤ 30 → 30 - l.length < n →
    ∃ t c' l', CurOk c' ∧ l'.length ≤ 30 ∧ ∀ {R : Type} (K0 : Bool → Cur → List Tri → Option R), T_spec_l25All_lp1 N b29 l31 K0 n c l = K0 t c' l'
  | 0, c, l, _, _, h => by omega
  | n + 1, c, l, hc, hl, hn => by
    obtain ⟨c1, v, e1, hc1, hv⟩ := below_draw (N := N) (n := 2) hc
    have hv := hv.2 (by omega)
    have ea : iadd .i64 20 v = 20 + v := iadd_eq (by unfold I64; omega)
    by_cases h : (l.length : Int) < 20 + v
    · have ed : decide (ilen l < 20 + v) = true := decide_eq_true h
      obtain ⟨t, c', l', h1, h3, h4⟩ := all_lp1 (N := N) (b29 := b29) (l31 := l31) n c1 (l ++ [(ilen l, ((0 : Int), (0 : Int)))]) hc1 (by simp; omega) (by simp; omega)
      refine ⟨t, c', l', h1, h3, fun K0 => ?_⟩
      have er : room (l.length + [(ilen l, ((0 : Int), (0 : Int)))].length) = true := by unfold room; simp; omega
      simp only [T_spec_l25All_lp1, e1, Option.bind_some, ea, ed, er, cond_true]
      exact h4 K0
    · have ed : decide (ilen l < 20 + v) = false := decide_eq_false h
      refine ⟨false, c1, l, hc1, hl, fun K0 => ?_⟩
      simp only [T_spec_l25All_lp1, e1, Option.bind_some, ea, ed, cond_false]

theorem all_lp2 {N : Nat} {b45 : Tri} {l46 : List Tri} : ∀ (n : Nat) (c : Cur) (l : List Int), CurOk c → l.length ≤ 300 → 300 - l.length < n →
    ∃ t c' l', CurOk c' ∧ l'.length ≤ 300 ∧ ∀ {R : Type} (K0 : Bool → Cur → List Int → Option R), T_spec_l25All_lp2 N b45 l46 K0 n c l = K0 t c' l'
  | 0, c, l, _, _, h => by omega
  | n + 1, c, l, hc, hl, hn => by
    obtain ⟨c1, v, e1, hc1, hv⟩ := below_draw (N := N) (n := 2) hc
    have hv := hv.2 (by omega)
    have ea : iadd .i64 200 v = 200 + v := iadd_eq (by unfold I64; omega)
    by_cases h : (l.length : Int) < 200 + v
    · have ed : decide (ilen l < 200 + v) = true := decide_eq_true h
      obtain ⟨t, c', l', h1, h3, h4⟩ := all_lp2 (N := N) (b45 := b45) (l46 := l46) n c1 (l ++ [(0 : Int)]) hc1 (by simp; omega) (by simp; omega)
      refine ⟨t, c', l', h1, h3, fun K0 => ?_⟩
      have er : room (l.length + [(0 : Int)].length) = true := by unfold room; simp; omega
      simp only [T_spec_l25All_lp2, e1, Option.bind_some, ea, ed, er, cond_true]
      exact h4 K0
    · have ed : decide (ilen l < 200 + v) = false := decide_eq_false h
      refine ⟨false, c1, l, hc1, hl, fun K0 => ?_⟩
      simp only [T_spec_l25All_lp2, e1, Option.bind_some, ea, ed, cond_false]

theorem picks_lp {N : Nat} {m : Int} (most : Nat) (hm : most ≤ 1000) : ∀ (n j : Nat) (last : Int) (c : Cur) (l : List Int), CurOk c → j ≤ most → most - j < n → l.length = j →
    ∃ last' c' l', CurOk c' ∧ l'.length = most ∧ ∀ {R : Type} (K0 : Int → Int → Bool → Cur → List Int → Option R), T_spec_l12Picks_lp0 N m (most : Int) K0 n last (j : Int) c l = K0 last' most false c' l'
  | 0, j, last, c, l, _, _, h, _ => by omega
  | n + 1, j, last, c, l, hc, h1, h2, h3 => by
    by_cases hj : j < most
    · obtain ⟨c1, b, e1, hc1, _⟩ := once_draw (N := N) (n := 3) hc
      have ed : decide ((j : Int) < (most : Int)) = true := by simpa using hj
      have es : iadd .i64 (j : Int) 1 = ((j + 1 : Nat) : Int) := by rw [iadd_eq (by unfold I64; omega)]; rfl
      cases b
      · obtain ⟨c2, v, e2, hc2, _⟩ := below_draw (N := N) (n := m) hc1
        obtain ⟨last', c', l', h4, h5, h6⟩ := picks_lp (N := N) (m := m) most hm n (j + 1) v c2 (l ++ [v]) hc2 hj (by omega) (by simp; omega)
        refine ⟨last', c', l', h4, h5, fun K0 => ?_⟩
        have er : room (l.length + [v].length) = true := by unfold room; simp; omega
        simp only [T_spec_l12Picks_lp0, ed, e1, e2, Option.bind_some, Bool.not_false, cond_true, er, es]
        exact h6 K0
      · obtain ⟨last', c', l', h4, h5, h6⟩ := picks_lp (N := N) (m := m) most hm n (j + 1) last c1 (l ++ [last]) hc1 hj (by omega) (by simp; omega)
        refine ⟨last', c', l', h4, h5, fun K0 => ?_⟩
        have er : room (l.length + [last].length) = true := by unfold room; simp; omega
        simp only [T_spec_l12Picks_lp0, ed, e1, Option.bind_some, Bool.not_true, cond_true, cond_false, er, es]
        exact h6 K0
    · have e : j = most := by omega
      subst e
      refine ⟨last, c, l, hc, h3, fun K0 => ?_⟩
      have ed : decide ((j : Int) < (j : Int)) = false := by simp
      simp only [T_spec_l12Picks_lp0, ed, cond_false]

theorem picks_draw {N : Nat} {c : Cur} {m most : Int} (h : CurOk c) (hN : 1048576 < N) (h0 : 0 ≤ most) (h1 : most ≤ 1000) : Draws (fun l : List Int => l.length ≤ most.toNat + 2) (T_spec_l12Picks N c m most) := by
  unfold T_spec_l12Picks
  obtain ⟨q, rfl⟩ := Int.eq_ofNat_of_zero_le h0
  obtain ⟨last', c', l', h2, h3, h4⟩ := picks_lp (N := N) (m := m) q (by omega) N 0 0 c [] h (Nat.zero_le _) (by omega) rfl
  have e0 := h4 (R := (Cur × Unit) × (List Int × Unit)) (fun last19 i20 t21 b22 l23 =>
      ((T_spec_l1Once N b22 (12 : Int)).bind fun o24 =>
        (bif o24.2.1 then
          (bif room ((List.length l23) + (List.length ([(-1 : Int), m]))) then
            (some ((o24.1.1, ()), (List.append l23 ([(-1 : Int), m]), ()))) else none)
          else
          (some ((o24.1.1, ()), (l23, ()))))))
  obtain ⟨c6, b, e6, hc6, _⟩ := once_draw (N := N) (n := 12) h2
  have er : room (l'.length + [(-1 : Int), m].length) = true := by unfold room; simp; omega
  rw [e6] at e0
  simp only [Option.bind_some, er] at e0
  cases b
  · exact ⟨c6, l', e0, hc6, by simp [h3]⟩
  · exact ⟨c6, l' ++ [-1, m], e0, hc6, by simp [h3]⟩

theorem all_draw {N : Nat} {c : Cur} (h : CurOk c) (hN : 1048576 < N) : ∃ c' s l acts, T_spec_l25All N c = some ((c', ()), (s, (l, (acts, ())))) ∧ l.length ≤ 1000 ∧ acts.length ≤ 1000 := by
  unfold T_spec_l25All
  obtain ⟨c1, s, e1, hc1, _⟩ := tri_draw (N := N) h
  obtain ⟨c2, q, e2, hc2, hq⟩ := below_draw (N := N) (n := 6) hc1
  have hq := hq.2 (by omega)
  obtain ⟨q, rfl⟩ := Int.eq_ofNat_of_zero_le hq.1
  rw [e1]
  simp only [Option.bind_some, e2]
  obtain ⟨c3, l, hc3, hl, e3⟩ := all_lp0 (N := N) (b9 := s) N q c2 [] hc2 (by omega) (by simp; omega)
  rw [e3]
  obtain ⟨c4, m, e4, hc4, hm⟩ := below_draw (N := N) (n := 100) hc3
  have hm := hm.2 (by omega)
  obtain ⟨c5, acts, e5, hc5, ha⟩ := picks_draw (N := N) (m := 4) (most := m) hc4 hN hm.1 (by omega)
  obtain ⟨c6, k, e6, hc6, _⟩ := below_draw (N := N) (n := 24) hc5
  simp only [e4, e5, e6, Option.bind_some]
  have hl2 : l.length ≤ 10 := by simp at hl; omega
  cases k == 0
  · cases k == 1
    · cases k == 2
      · cases k == 3
        · exact ⟨_, _, _, _, rfl, by omega, by omega⟩
        · obtain ⟨t, c7, l7, hc7, h7, e7⟩ := all_lp2 (N := N) (b45 := s) (l46 := l) N c6 acts hc6 (by omega) (by omega)
          simp only [cond_false, cond_true, e7]
          exact ⟨_, _, _, _, rfl, by omega, by omega⟩
      · obtain ⟨t, c7, l7, hc7, h7, e7⟩ := all_lp1 (N := N) (b29 := s) (l31 := acts) N c6 l hc6 (by omega) (by omega)
        simp only [cond_false, cond_true, e7]
        exact ⟨_, _, _, _, rfl, by omega, by omega⟩
    · have er : room (l.length + [((0 : Int), ((0 : Int), (-1 : Int)))].length) = true := by unfold room; simp; omega
      simp only [cond_false, cond_true, er]
      exact ⟨_, _, _, _, rfl, by simp; omega, by omega⟩
  · exact ⟨_, _, _, _, rfl, by omega, by omega⟩

theorem law_FnSeq' {N : Nat} {code : List Int} (hN : 1048576 < N) (h : code.length ≤ 9223372036854775807) : T_laws_FnSeq N code = ret true := by
  unfold T_laws_FnSeq T_laws_big
  simp only [ret, Option.bind_some]
  by_cases hc : 1048576 < code.length
  · have e : decide (ilen code > 1048576) = true := by simp [ilen]; omega
    rw [e]; rfl
  · have e : decide (ilen code > 1048576) = false := by simp [ilen]; omega
    rw [e]
    obtain ⟨c, hc0, e0⟩ := new_draw (N := N) (code := code) (by omega) hN
    obtain ⟨c1, s, l, acts, e1, hl, ha⟩ := all_draw hc0 hN
    unfold T_spec_DrawSeqPlay
    simp only [cond_false, e0, ret, Option.bind_some, e1]
    obtain ⟨w, hw, hw0, hw1⟩ := play_run (N := N) (s := s) (l := l) (acts := acts) (by omega) hN
    have hone : triOk [s] = isTri s := by unfold triOk; simp
    simp only [hw, ret, Option.bind_some, specTris_run (l := l) (by omega) hN, specTris_run (l := [s]) (by simp) hN, hone]
    by_cases hg : (isTri s && triOk l && decide (acts.length ≤ 200)) = true
    · have hp := hw1 hg
      simp only [Bool.and_eq_true, decide_eq_true_eq] at hg
      obtain ⟨⟨g1, g2⟩, g3⟩ := hg
      have g2' : l.length ≤ 20 := by unfold triOk at g2; simp at g2; exact g2.1
      have ea : decide (ilen acts > 200) = false := by simp [ilen]; omega
      obtain ⟨t1, t2⟩ := true_play (N := N) g1 g2 g2' hN g3 hp
      have hsq2 : 0 ≤ w.1 ∧ w.1 ≤ 2 * l.length := by
        have h1 := hp.sq; have h2 := hp.nx; have h3 := hp.nx2
        by_cases h0 : w.2.2.1 = 0
        · rw [if_pos h0] at h1; omega
        · rw [if_neg h0] at h1; have := h3 h0; omega
      obtain ⟨v, ev, hv⟩ := value_at (N := N) g1 g2 (show l.length ≤ 1048576 by omega) hN hsq2.1 hsq2.2
      obtain ⟨v', b', e1', e2'⟩ := value_eq (N := N) (s := s) (l := l) (q := w.1) (by omega) hN (by unfold I64; omega)
      rw [ev] at e1'
      have er : T_impl_SeqValue N s l w.1 = some ((), (v, (decide (w.1 % 2 = 0), ()))) := e2'.trans e1'.symm
      have e3 : (ilen w.2.2.2.2.1 != 3) = false := by simp [ilen, hp.rl]
      have em : irem w.1 2 = w.1 % 2 := by unfold irem; exact Int.tmod_eq_emod_of_nonneg hsq2.1
      have eq2 : iquo .i64 w.1 2 = w.1 / 2 := by
        have : w.1.tdiv 2 = w.1 / 2 := Int.tdiv_eq_ediv_of_nonneg hsq2.1
        unfold iquo
        rw [this]
        exact wrap_i64 (n := w.1 / 2) (by unfold I64; omega)
      have enx : (w.1 / 2 == w.2.2.2.1) = true := by
        have h1 := hp.sq
        have : w.1 / 2 = w.2.2.2.1 := by split at h1 <;> omega
        simp [this]
      have b1 : ∀ x : Bool, beq x x = true := fun x => by cases x <;> rfl
      have ed : (w.1 % 2 == 0) = decide (w.1 % 2 = 0) := by by_cases h : w.1 % 2 = 0 <;> simp [h]
      simp only [g2, g1, ea, t1, t2, Bool.not_true, cond_false, e3, er, inz_lit2, cond_true, em, ed, b1, eq2, enx, ret, Option.bind_some]
      by_cases hev : w.1 % 2 = 0
      · have hnow := (now_val hp hev).1
        have : v = w.2.1 := by rw [hv hev, hnow]
        simp only [hev, this, ieq, beq_self_eq_true, Bool.and_self, decide_true, Bool.not_true, cond_false, cond_true]
      · simp [hev]
    · have hg' : (isTri s && triOk l && decide (acts.length ≤ 200)) = false := by simpa using hg
      have := hw0 hg'
      subst this
      have el : ((ilen zeroW.2.2.2.2.1) == (0 : Int)) = true := rfl
      simp only [el]
      cases h2 : triOk l with
      | false => rfl
      | true =>
        cases h1 : isTri s with
        | false => rfl
        | true =>
          have h3 : ¬ acts.length ≤ 200 := by
            intro h3
            rw [h1, h2] at hg
            simp [h3] at hg
          have ea : decide (ilen acts > 200) = true := by simp [ilen]; omega
          rw [ea]; rfl

theorem law_FnSeq (d : PDen [.v (.slice (.int .u8)) false]) (hw : WfArgs [.v (.slice (.int .u8)) false] d) : ∃ N o, T_laws_FnSeq N d.1 = some (o, (true, ())) :=
  ⟨1048577, (), law_FnSeq' (by omega) (Nat.le_trans hw.1.1 (by decide))⟩
end Go.Sx
