/- Plain laws of the Lean functions. -/
import Derived.Test.YtfbomdanghhgcaaMS1CurA
/- Plain law: a play of the epochs is safe, and a flush leaves nothing. -/
namespace Go.Sx
set_option linter.unusedVariables false
set_option linter.unusedSimpArgs false

/-! counting -/
def nodeIn (x : Int) : Prop := 0 ≤ x ∧ x ≤ 9

theorem bump_count : ∀ (l : List Int) (v : List Int) (i : Nat), i < v.length → (∀ x ∈ l, 0 ≤ x ∧ x < v.length) → 0 ≤ v.getD i 0 → v.getD i 0 + l.length ≤ 1000000 → (l.foldl bump v).getD i 0 = v.getD i 0 + (l.count (i : Int) : Nat)
  | [], v, i, _, _, _, _ => by simp
  | x :: l, v, i, hi, hl, h0, h1 => by
    simp only [List.length_cons] at h1
    have hx := hl x (List.mem_cons_self ..)
    have hlen := bump_len v x
    have hv : (bump v x).getD i 0 = v.getD i 0 + (if x = (i : Int) then 1 else 0) := by
      unfold bump
      by_cases he : x = (i : Int)
      · subst he
        rw [if_pos rfl, Int.toNat_natCast, getD_set_self hi]
        exact iadd_eq (by unfold I64; omega)
      · rw [if_neg he, List.getD_eq_getElem?_getD, List.getElem?_set, if_neg (by omega), ← List.getD_eq_getElem?_getD, Int.add_zero]
    have h2 : 0 ≤ (if x = (i : Int) then (1 : Int) else 0) ∧ (if x = (i : Int) then (1 : Int) else 0) ≤ 1 := by split <;> omega
    rw [List.foldl_cons, bump_count l (bump v x) i (by omega) (fun y hy => by rw [hlen]; exact hl y (List.mem_cons_of_mem _ hy)) (by omega) (by omega), hv, List.count_cons]
    by_cases he : x = (i : Int)
    · have : (x == (i : Int)) = true := by simp [he]
      rw [if_pos he, this]; simp only [if_true]; push_cast; omega
    · have : (x == (i : Int)) = false := by simp [he]
      rw [if_neg he, this]; simp

structure EpT (e : Eps) : Prop where
  e0 : 0 ≤ e.1
  pl : e.2.1.length = 3
  ll : e.2.2.1.length = 10
  pn : ∀ p ∈ e.2.1, p = -1 ∨ (0 ≤ p ∧ e.1 - 1 ≤ p ∧ p ≤ e.1)
  bg : ∀ b ∈ e.2.2.2.1, nodeIn b.1 ∧ e.1 - 1 ≤ b.2 ∧ b.2 ≤ e.1
  fr : ∀ n ∈ e.2.2.2.2.2, nodeIn n
  ct : ∀ i : Nat, i < 10 → (lnk (e.2.2.1.getD i false)) + ((e.2.2.2.1.map (·.1)).count (i : Int) : Nat) + (e.2.2.2.2.2.count (i : Int) : Nat) = 1
  hd : ∀ h ∈ e.2.2.2.2.1, (0 ≤ h.1 ∧ h.1 ≤ 2) ∧ nodeIn h.2 ∧ 0 ≤ e.2.1.getD h.1.toNat 0 ∧ (e.2.2.1.getD h.2.toNat false = true ∨ ∃ b ∈ e.2.2.2.1, b.1 = h.2 ∧ e.2.1.getD h.1.toNat 0 ≤ b.2)

theorem lnk_01 (b : Bool) : 0 ≤ lnk b ∧ lnk b ≤ 1 := by cases b <;> decide

theorem ep0_true : EpT ep0 where
  e0 := by decide
  pl := rfl
  ll := rfl
  pn := by decide
  bg := by simp [ep0]
  fr := by simp [ep0]
  ct := fun i hi => by
    have : i = 0 ∨ i = 1 ∨ i = 2 ∨ i = 3 ∨ i = 4 ∨ i = 5 ∨ i = 6 ∨ i = 7 ∨ i = 8 ∨ i = 9 := by omega
    rcases this with rfl | rfl | rfl | rfl | rfl | rfl | rfl | rfl | rfl | rfl <;> rfl
  hd := by simp [ep0]

theorem held_free {e : Eps} (h : EpT e) {x : Int × Int} (hx : x ∈ e.2.2.2.2.1) : x.2 ∉ e.2.2.2.2.2 := fun hf => by
  obtain ⟨_, hn, _, hl⟩ := h.hd x hx
  have hn2 : x.2.toNat < 10 := by unfold nodeIn at hn; omega
  have hc := h.ct x.2.toNat hn2
  have e1 : ((x.2.toNat : Nat) : Int) = x.2 := by unfold nodeIn at hn; omega
  rw [e1] at hc
  have h1 : 0 < e.2.2.2.2.2.count x.2 := List.count_pos_iff.2 hf
  have h01 := lnk_01 (e.2.2.1.getD x.2.toNat false)
  rcases hl with hl | ⟨b, hb, hb1, _⟩
  · rw [hl] at hc
    have : lnk true = 1 := rfl
    omega
  · have h2 : 0 < (e.2.2.2.1.map (·.1)).count x.2 := List.count_pos_iff.2 (by rw [← hb1]; exact List.mem_map_of_mem hb)
    omega

theorem epSafe_true {e : Eps} (h : EpT e) : (e.2.2.2.2.1.any fun x => e.2.2.2.2.2.any fun y => x.2 == y) = false := by
  rw [Bool.eq_false_iff]
  intro ha
  obtain ⟨x, hx, hy⟩ := List.any_eq_true.1 ha
  obtain ⟨y, hy1, hy2⟩ := List.any_eq_true.1 hy
  have : x.2 = y := by simpa using hy2
  exact held_free h hx (this ▸ hy1)

theorem epOk_true {k : Nat} {e : Eps} (h : EpT e) (hk : EpInv k e) (hk2 : k ≤ 205) : epOk e = true := by
  have hnode : ∀ n, nodeIn n → node n = true := fun n hn => by unfold nodeIn at hn; unfold node; simp [hn]
  have hs := hk.sz
  have he0 := hk.e0
  have g1 : e.2.1.all (pinOk e.1) = true := List.all_eq_true.2 fun p hp => by
    have := h.pn p hp
    unfold pinOk
    rcases this with rfl | hp
    · rfl
    · simp [hp]
  have g2 : (e.2.2.2.1.all fun b => node b.1 && epIn e.1 b.2) = true := List.all_eq_true.2 fun b hb => by
    have := h.bg b hb
    rw [hnode _ this.1]
    unfold epIn
    simp [this.2]
  have g3 : e.2.2.2.2.2.all node = true := List.all_eq_true.2 fun n hn => hnode _ (h.fr n hn)
  have g4 : e.2.2.2.2.1.all (holdOk e.2.1) = true := List.all_eq_true.2 fun x hx => by
    obtain ⟨a, b, c, _⟩ := h.hd x hx
    unfold holdOk
    have c' : decide (e.2.1.getD x.1.toNat 0 < 0) = false := by simp only [decide_eq_false_iff_not]; omega
    rw [hnode _ b, c']
    simp [a]
  have g5 : (e.2.2.2.2.2.foldl bump ((e.2.2.2.1.map (·.1)).foldl bump (e.2.2.1.map lnk))).all (· == 1) = true := List.all_eq_true.2 fun x hx => by
    obtain ⟨i, hi, hxi⟩ := List.getElem_of_mem hx
    rw [bumps_len, bumps_len, List.length_map, h.ll] at hi
    have hi2 : i < (e.2.2.1.map lnk).length := by rw [List.length_map, h.ll]; exact hi
    have hg : (e.2.2.1.map lnk).getD i 0 = lnk (e.2.2.1.getD i false) := by
      rw [List.getD_eq_getElem?_getD, List.getElem?_map, List.getD_eq_getElem?_getD, List.getElem?_eq_getElem (by rw [h.ll]; exact hi)]
      rfl
    have h01 := lnk_01 (e.2.2.1.getD i false)
    have c1 := bump_count (e.2.2.2.1.map (·.1)) (e.2.2.1.map lnk) i hi2 (fun y hy => by
      obtain ⟨b, hb, rfl⟩ := List.mem_map.1 hy
      have := (h.bg b hb).1
      unfold nodeIn at this
      rw [List.length_map, h.ll]; omega) (by omega) (by rw [List.length_map]; omega)
    have hc := h.ct i hi
    have c2 := bump_count e.2.2.2.2.2 ((e.2.2.2.1.map (·.1)).foldl bump (e.2.2.1.map lnk)) i (by rw [bumps_len]; exact hi2) (fun y hy => by
      have := h.fr y hy
      unfold nodeIn at this
      rw [bumps_len, List.length_map, h.ll]; omega) (by omega) (by omega)
    have : x = 1 := by
      rw [← hxi, ← ix_getm (d := 0)]
      omega
    simp [this]
  unfold epOk
  rw [g1, g2, g3, g4, g5]
  simp [h.pl, h.ll]
  omega

/-! the acts -/
theorem stepB_keep (E : Int) : ∀ (l : List (Int × Int)) (v : List (Int × Int) × List Int) (b : Int × Int), (b ∈ v.1 ∨ (b ∈ l ∧ oldB E b = false)) → b ∈ (l.foldl (stepB E) v).1
  | [], v, b, h => by
    rcases h with h | h
    · exact h
    · simp at h
  | x :: l, v, b, h => by
    rw [List.foldl_cons]
    apply stepB_keep E l
    unfold stepB
    rcases h with h | ⟨h, ho⟩
    · left
      cases oldB E x
      · simp [List.append_eq, h]
      · exact h
    · rcases List.mem_cons.1 h with rfl | h
      · left
        rw [ho]
        simp [List.append_eq]
      · exact .inr ⟨h, ho⟩

theorem stepB_new (E : Int) : ∀ (l : List (Int × Int)) (v : List (Int × Int) × List Int) (b : Int × Int), b ∈ (l.foldl (stepB E) v).1 → b ∈ v.1 ∨ (b ∈ l ∧ oldB E b = false)
  | [], v, b, h => .inl h
  | x :: l, v, b, h => by
    rw [List.foldl_cons] at h
    rcases stepB_new E l _ b h with h | ⟨h, ho⟩
    · unfold stepB at h
      cases ho : oldB E x
      · rw [ho] at h
        simp [List.append_eq] at h
        rcases h with h | h
        · exact .inl h
        · exact .inr ⟨by simp [h], by rw [h]; exact ho⟩
      · rw [ho] at h
        exact .inl h
    · exact .inr ⟨List.mem_cons_of_mem _ h, ho⟩

theorem stepB_free (E : Int) : ∀ (l : List (Int × Int)) (v : List (Int × Int) × List Int) (n : Int), n ∈ (l.foldl (stepB E) v).2 → n ∈ v.2 ∨ n ∈ l.map (·.1)
  | [], v, n, h => .inl h
  | x :: l, v, n, h => by
    rw [List.foldl_cons] at h
    rcases stepB_free E l _ n h with h | h
    · unfold stepB at h
      cases ho : oldB E x
      · rw [ho] at h
        exact .inl h
      · rw [ho] at h
        simp [List.append_eq] at h
        rcases h with h | h
        · exact .inl h
        · exact .inr (by simp [h])
    · exact .inr (by rw [List.map_cons]; exact List.mem_cons_of_mem _ h)

theorem stepB_count (E : Int) (i : Int) : ∀ (l : List (Int × Int)) (v : List (Int × Int) × List Int), ((l.foldl (stepB E) v).1.map (·.1)).count i + (l.foldl (stepB E) v).2.count i = (v.1.map (·.1)).count i + v.2.count i + (l.map (·.1)).count i
  | [], v => by simp
  | x :: l, v => by
    rw [List.foldl_cons, stepB_count E i l, List.map_cons, List.count_cons]
    unfold stepB
    cases oldB E x
    · simp only [cond_false, List.append_eq, List.map_append, List.count_append, List.map_cons, List.map_nil, List.count_cons, List.count_nil]
      omega
    · simp only [cond_true, List.append_eq, List.count_append, List.count_cons, List.count_nil]
      omega

theorem pins_of {e : Eps} (h : EpT e) {i : Nat} (hi : i < 3) : e.2.1.getD i 0 ∈ e.2.1 := by
  rw [ix_getm (by rw [h.pl]; exact hi)]
  exact List.getElem_mem _

theorem move_true {e : Eps} (h : EpT e) : EpT (epMove e) := by
  unfold epMove
  cases hb : e.2.1.any (busy e)
  · have hp : ∀ p ∈ e.2.1, p = -1 ∨ p = e.1 := fun p hp => by
      have h1 : busy e p = false := by
        rw [Bool.eq_false_iff]
        intro h2
        have := List.any_eq_true.2 ⟨p, hp, h2⟩
        rw [hb] at this; cases this
      have h2 := h.pn p hp
      unfold busy at h1
      rcases h2 with h2 | h2
      · exact .inl h2
      · right
        have e1 : decide (p ≥ 0) = true := by simpa using h2.1
        rw [e1] at h1
        simpa using h1
    have he := h.e0
    simp only [cond_false]
    refine ⟨by simp only []; omega, h.pl, h.ll, fun p hp' => ?_, fun b hb' => ?_, fun n hn => ?_, fun i hi => ?_, fun x hx => ?_⟩
    · simp only []
      rcases hp p hp' with h1 | h1
      · exact .inl h1
      · right; omega
    · simp only [] at hb' ⊢
      rcases stepB_new _ _ _ _ hb' with h1 | ⟨h1, h2⟩
      · simp at h1
      · have h3 := h.bg b h1
        unfold oldB at h2
        have h4 : ¬ b.2 + 2 ≤ e.1 + 1 := by simpa using h2
        exact ⟨h3.1, by omega⟩
    · simp only [] at hn
      rcases stepB_free _ _ _ _ hn with h1 | h1
      · exact h.fr n h1
      · obtain ⟨b, hb1, rfl⟩ := List.mem_map.1 h1
        exact (h.bg b hb1).1
    · simp only []
      have h1 := stepB_count (e.1 + 1) (i : Int) e.2.2.2.1 ([], e.2.2.2.2.2)
      have h2 := h.ct i hi
      simp only [List.map_nil, List.count_nil] at h1
      omega
    · simp only [] at hx ⊢
      obtain ⟨h1, h2, h3, h4⟩ := h.hd x hx
      refine ⟨h1, h2, h3, ?_⟩
      rcases h4 with h4 | ⟨b, hb1, hb2, hb3⟩
      · exact .inl h4
      · refine .inr ⟨b, stepB_keep _ _ _ _ (.inr ⟨hb1, ?_⟩), hb2, hb3⟩
        have h5 := hp _ (pins_of h (i := x.1.toNat) (by omega))
        unfold oldB
        simp
        omega
  · exact h

theorem set_other {α : Type} {l : List α} {i j : Nat} (h : i ≠ j) (x d : α) : (l.set i x).getD j d = l.getD j d := by
  rw [List.getD_eq_getElem?_getD, List.getElem?_set, if_neg h, ← List.getD_eq_getElem?_getD]

theorem act_true {e : Eps} {a : Int × Int × Int} (h : EpT e) : EpT (epAct e a) := by
  unfold epAct
  cases a.1 == 5
  · cases hA : inR a.2.1 0 2
    · exact h
    · cases hB : inR a.2.2 0 9
      · exact h
      · have hA' : 0 ≤ a.2.1 ∧ a.2.1 ≤ 2 := by unfold inR at hA; simpa using hA
        have hB' : 0 ≤ a.2.2 ∧ a.2.2 ≤ 9 := by unfold inR at hB; simpa using hB
        have hpl := h.pl
        have hll := h.ll
        have he0 := h.e0
        simp only [cond_false, Bool.not_true]
        cases a.1 == 1
        · cases a.1 == 2
          · cases a.1 == 3
            · cases a.1 == 4
              · exact h
              · cases hp : e.2.1.getD a.2.1.toNat 0 != -1
                · exact h
                · cases hl : e.2.2.1.getD a.2.2.toNat false
                  · exact h
                  · simp only [cond_true, cond_false]
                    have hc0 := h.ct a.2.2.toNat (by omega)
                    have ea : ((a.2.2.toNat : Nat) : Int) = a.2.2 := by omega
                    refine ⟨he0, hpl, by simp [hll], h.pn, fun b hb => ?_, h.fr, fun i hi => ?_, fun x hx => ?_⟩
                    · simp [List.append_eq] at hb
                      rcases hb with hb | hb
                      · exact h.bg b hb
                      · rw [hb]
                        exact ⟨hB', by simp only []; omega⟩
                    · simp only [List.append_eq, List.map_append, List.map_cons, List.map_nil, List.count_append, List.count_cons, List.count_nil]
                      have hc := h.ct i hi
                      by_cases hia : i = a.2.2.toNat
                      · subst hia
                        rw [getD_set_self (by omega)]
                        rw [hl] at hc
                        have : (a.2.2 == ((a.2.2.toNat : Nat) : Int)) = true := by simp; omega
                        rw [this]
                        have l1 : lnk true = 1 := rfl
                        have l2 : lnk false = 0 := rfl
                        simp only [if_true]
                        omega
                      · rw [set_other (fun e => hia e.symm)]
                        have : (a.2.2 == (i : Int)) = false := by simp; omega
                        rw [this]
                        simp only [Bool.false_eq_true, if_false]
                        omega
                    · obtain ⟨h1, h2, h3, h4⟩ := h.hd x hx
                      refine ⟨h1, h2, h3, ?_⟩
                      simp only []
                      rcases h4 with h4 | ⟨b, hb1, hb2, hb3⟩
                      · by_cases hxa : x.2 = a.2.2
                        · refine .inr ⟨(a.2.2, e.1), by simp [List.append_eq], hxa.symm, ?_⟩
                          have h5 := h.pn _ (pins_of h (i := x.1.toNat) (by omega))
                          simp only []
                          omega
                        · left
                          unfold nodeIn at h2
                          rw [set_other (by omega)]
                          exact h4
                      · exact .inr ⟨b, by simp [List.append_eq, hb1], hb2, hb3⟩
            · cases hp : e.2.1.getD a.2.1.toNat 0 != -1
              · exact h
              · cases hl : e.2.2.1.getD a.2.2.toNat false
                · exact h
                · cases hasH e a.2
                  · simp only [cond_true, cond_false, Bool.not_false]
                    refine ⟨he0, hpl, hll, h.pn, h.bg, h.fr, h.ct, fun x hx => ?_⟩
                    simp [List.append_eq] at hx
                    rcases hx with hx | hx
                    · exact h.hd x hx
                    · rw [hx]
                      refine ⟨hA', hB', ?_, .inl hl⟩
                      have h5 := h.pn _ (pins_of h (i := a.2.1.toNat) (by omega))
                      have h6 : e.2.1.getD a.2.1.toNat 0 ≠ -1 := by simpa using hp
                      simp only []
                      omega
                  · exact h
          · simp only [cond_true, cond_false]
            refine ⟨he0, by simp [hpl], hll, fun p hp => ?_, h.bg, h.fr, h.ct, fun x hx => ?_⟩
            · rcases List.mem_or_eq_of_mem_set hp with hp | hp
              · exact h.pn p hp
              · exact .inl hp
            · simp only [] at hx ⊢
              obtain ⟨hx1, hx2⟩ := List.mem_filter.1 hx
              have hne : x.1 ≠ a.2.1 := by simpa using hx2
              obtain ⟨h1, h2, h3, h4⟩ := h.hd x hx1
              rw [set_other (by omega)]
              exact ⟨h1, h2, h3, h4⟩
        · cases hp : e.2.1.getD a.2.1.toNat 0 == -1
          · exact h
          · have hp' : e.2.1.getD a.2.1.toNat 0 = -1 := by simpa using hp
            simp only [cond_true, cond_false]
            refine ⟨he0, by simp [hpl], hll, fun p hp => ?_, h.bg, h.fr, h.ct, fun x hx => ?_⟩
            · simp only [] at hp ⊢
              rcases List.mem_or_eq_of_mem_set hp with hp | hp
              · exact h.pn p hp
              · right; omega
            · simp only [] at hx ⊢
              obtain ⟨h1, h2, h3, h4⟩ := h.hd x hx
              have hne : a.2.1.toNat ≠ x.1.toNat := fun he => by rw [he] at hp'; omega
              rw [set_other hne]
              exact ⟨h1, h2, h3, h4⟩
  · exact move_true h

theorem acts_true : ∀ (l : List (Int × Int × Int)) (e : Eps), EpT e → EpT (l.foldl epAct e)
  | [], e, h => h
  | x :: l, e, h => acts_true l _ (act_true h)

/-! the flush -/
theorem unpin {e : Eps} {t : Int} (ht : 0 ≤ t ∧ t ≤ 2) : epAct e (2, t, 0) = (e.1, e.2.1.set t.toNat (-1), e.2.2.1, e.2.2.2.1, e.2.2.2.2.1.filter (fun x => !(x.1 == t)), e.2.2.2.2.2) := by
  unfold epAct
  have h1 : inR t 0 2 = true := by unfold inR; simp [ht]
  have h2 : inR 0 0 9 = true := by decide
  simp only [h1, h2]
  rfl

theorem move_free {e : Eps} (hp : ∀ p ∈ e.2.1, p = -1) : epMove e = (e.1 + 1, e.2.1, e.2.2.1, (e.2.2.2.1.foldl (stepB (e.1 + 1)) ([], e.2.2.2.2.2)).1, e.2.2.2.2.1, (e.2.2.2.1.foldl (stepB (e.1 + 1)) ([], e.2.2.2.2.2)).2) := by
  unfold epMove
  have : e.2.1.any (busy e) = false := by
    rw [Bool.eq_false_iff]
    intro ha
    obtain ⟨p, h1, h2⟩ := List.any_eq_true.1 ha
    rw [hp p h1] at h2
    unfold busy at h2
    simp at h2
  rw [this]
  rfl

theorem flush_true {e : Eps} (h : EpT e) : EpT (epFlush e) ∧ (epFlush e).2.2.2.1 = [] ∧ (epFlush e).2.2.2.2.1 = [] ∧ (epFlush e).1 = e.1 + 2 ∧ (epFlush e).2.2.2.2.2.length = e.2.2.2.2.2.length + e.2.2.2.1.length := by
  refine ⟨move_true (move_true (act_true (act_true (act_true h)))), ?_⟩
  have hpl := h.pl
  unfold epFlush
  rw [unpin (e := e) (t := 0) (by omega), unpin (t := 1) (by omega), unpin (t := 2) (by omega)]
  simp only []
  have hh : (((e.2.2.2.2.1.filter (fun x => !(x.1 == 0))).filter (fun x => !(x.1 == 1))).filter (fun x => !(x.1 == 2))) = [] := by
    apply List.eq_nil_iff_forall_not_mem.2
    intro x hx
    simp only [List.mem_filter] at hx
    obtain ⟨⟨⟨h0, h1⟩, h2⟩, h3⟩ := hx
    have := (h.hd x h0).1
    have a1 : x.1 ≠ 0 := by simpa using h1
    have a2 : x.1 ≠ 1 := by simpa using h2
    have a3 : x.1 ≠ 2 := by simpa using h3
    omega
  rw [hh]
  have hq : (((e.2.1.set (Int.toNat 0) (-1)).set (Int.toNat 1) (-1)).set (Int.toNat 2) (-1)) = [-1, -1, -1] := by
    obtain ⟨ep, pins, r⟩ := e
    simp only at hpl
    match pins, hpl with
    | [x, y, z], _ => rfl
  rw [hq]
  have h3 : ∀ p ∈ ([-1, -1, -1] : List Int), p = -1 := by decide
  rw [move_free (e := (e.1, [-1, -1, -1], e.2.2.1, e.2.2.2.1, [], e.2.2.2.2.2)) h3]
  simp only []
  rw [move_free (by exact h3)]
  simp only []
  have l1 := stepB_len (e.1 + 1) e.2.2.2.1 ([], e.2.2.2.2.2)
  have l2 := stepB_len (e.1 + 1 + 1) (e.2.2.2.1.foldl (stepB (e.1 + 1)) ([], e.2.2.2.2.2)).1 ([], (e.2.2.2.1.foldl (stepB (e.1 + 1)) ([], e.2.2.2.2.2)).2)
  have hb : ((e.2.2.2.1.foldl (stepB (e.1 + 1)) ([], e.2.2.2.2.2)).1.foldl (stepB (e.1 + 1 + 1)) ([], (e.2.2.2.1.foldl (stepB (e.1 + 1)) ([], e.2.2.2.2.2)).2)).1 = [] := by
    apply List.eq_nil_iff_forall_not_mem.2
    intro b hb
    rcases stepB_new _ _ _ _ hb with hb | ⟨hb, ho⟩
    · simp at hb
    · rcases stepB_new _ _ _ _ hb with hb | ⟨hb, _⟩
      · simp at hb
      · have := h.bg b hb
        unfold oldB at ho
        have : ¬ b.2 + 2 ≤ e.1 + 1 + 1 := by simpa using ho
        omega
  refine ⟨hb, trivial, by omega, ?_⟩
  rw [hb] at l2
  simp only [List.length_nil] at l1 l2
  omega

/-! the draw -/
theorem acts_lp {N : Nat} : ∀ (n : Nat) (i : Nat) (c : Cur) (l : List (Int × Int × Int)), i < n → CurOk c → l.length + i ≤ 1000 → ∃ c' l' t, CurOk c' ∧ l'.length ≤ 1000 ∧
    ∀ {R : Type} (K : Int → Bool → Cur → List (Int × Int × Int) → Option R), T_spec_l26Acts_lp0 N K n (i : Int) c l = K t false c' l'
  | 0, i, c, l, h, _, _ => by omega
  | n + 1, 0, c, l, _, hc, hl => ⟨c, l, 0, hc, by omega, fun K => rfl⟩
  | n + 1, i + 1, c, l, h, hc, hl => by
    obtain ⟨c1, v1, e1, hc1, _⟩ := below_draw (N := N) (n := 5) hc
    obtain ⟨c2, v2, e2, hc2, _⟩ := below_draw (N := N) (n := 3) hc1
    obtain ⟨c3, v3, e3, hc3, _⟩ := below_draw (N := N) (n := 10) hc2
    obtain ⟨c', l', t, h1, h2, h3⟩ := acts_lp n i c3 (List.append l [(iadd .i64 1 v1, (v2, v3))]) (by omega) hc3 (by simp [List.append_eq]; omega)
    refine ⟨c', l', t, h1, h2, fun K => ?_⟩
    have d1 : decide (((i + 1 : Nat) : Int) > 0) = true := decide_eq_true (by omega)
    have d2 : isub .i64 ((i + 1 : Nat) : Int) 1 = (i : Int) := by rw [isub_eq (by unfold I64; omega)]; omega
    have d3 : room (l.length + [(iadd .i64 1 v1, (v2, v3))].length) = true := room_le (by simp; omega)
    simp only [T_spec_l26Acts_lp0, d1, cond_true, e1, e2, e3, Option.bind_some, d3, d2]
    exact h3 K

theorem any_lp {N : Nat} : ∀ (n : Nat) (c : Cur) (l : List (Int × Int × Int)), CurOk c → l.length ≤ 1000 → 1100 - l.length < n → ∃ c' l' t, CurOk c' ∧ l'.length ≤ 1100 ∧
    ∀ {R : Type} (K : Bool → Cur → List (Int × Int × Int) → Option R), T_spec_l26Any_lp0 N K n c l = K t c' l'
  | 0, c, l, _, _, h => by omega
  | n + 1, c, l, hc, hl, h => by
    obtain ⟨c1, v1, e1, hc1, hv⟩ := below_draw (N := N) (n := 2) hc
    have hv2 := hv.2 (by decide)
    have d0 : iadd .i64 200 v1 = 200 + v1 := iadd_eq (by unfold I64; omega)
    by_cases hlt : (l.length : Int) < 200 + v1
    · obtain ⟨c', l', t, h1, h2, h3⟩ := any_lp n c1 (List.append l [((5 : Int), ((0 : Int), (0 : Int)))]) hc1 (by simp [List.append_eq]; omega) (by simp [List.append_eq]; omega)
      refine ⟨c', l', t, h1, h2, fun K => ?_⟩
      have d1 : decide (ilen l < 200 + v1) = true := decide_eq_true hlt
      have d3 : room (l.length + [((5 : Int), ((0 : Int), (0 : Int)))].length) = true := room_le (by simp; omega)
      simp only [T_spec_l26Any_lp0, e1, Option.bind_some, d0, d1, cond_true, d3]
      exact h3 K
    · refine ⟨c1, l, false, hc1, by omega, fun K => ?_⟩
      have d1 : decide (ilen l < 200 + v1) = false := decide_eq_false hlt
      simp only [T_spec_l26Any_lp0, e1, Option.bind_some, d0, d1, cond_false]

theorem drawEp_run {N : Nat} {code : List Int} (h : code.length ≤ 1048576) (hN : 1048576 < N) : ∃ acts, T_spec_DrawEpochPlay N code = ret acts := by
  unfold T_spec_DrawEpochPlay T_spec_l26Any T_spec_l26Acts
  obtain ⟨c, hc, e0⟩ := new_draw h hN
  rw [e0]
  simp only [ret, Option.bind_some]
  have d81 : iadd .i64 80 1 = 81 := by decide
  rw [d81]
  obtain ⟨c1, v1, e1, hc1, hv1⟩ := below_draw (N := N) (n := 81) hc
  have hv := hv1.2 (by decide)
  obtain ⟨c2, l2, t2, hc2, hl2, e2⟩ := acts_lp (N := N) N v1.toNat c1 [] (by omega) hc1 (by simp; omega)
  have ev : ((v1.toNat : Nat) : Int) = v1 := by omega
  rw [ev] at e2
  simp only [e1, Option.bind_some, e2]
  obtain ⟨c3, v3, e3, hc3, hv3⟩ := below_draw (N := N) (n := 20) hc2
  simp only [e3, Option.bind_some]
  cases v3 == 0
  · cases v3 == 1
    · exact ⟨_, rfl⟩
    · obtain ⟨c4, l4, t4, hc4, hl4, e4⟩ := any_lp (N := N) N c3 l2 hc3 hl2 (by omega)
      simp only [cond_true, cond_false, e4, Option.bind_some]
      exact ⟨_, rfl⟩
  · have d3 : room (l2.length + [((0 : Int), ((0 : Int), (0 : Int))), ((1 : Int), ((3 : Int), (0 : Int))), ((3 : Int), ((0 : Int), (10 : Int))), ((6 : Int), ((-1 : Int), (0 : Int)))].length) = true := room_le (by simp; omega)
    rw [d3]
    exact ⟨_, rfl⟩

theorem law_Epochs {N : Nat} {code : List Int} (hN : 2097152 < N) : T_laws_FnEpochs N code = ret true := by
  unfold T_laws_FnEpochs T_laws_big
  simp only [Option.bind_some]
  by_cases hb : code.length ≤ 1048576
  · have e0 : decide (ilen code > 1048576) = false := by simp [ilen]; omega
    obtain ⟨acts, ha⟩ := drawEp_run (N := N) hb (by omega)
    rw [e0]
    simp only [cond_false, ha, ret, Option.bind_some]
    by_cases hl : acts.length ≤ 200
    · have e1 : decide (ilen acts > 200) = false := by simp [ilen]; omega
      have hi := acts_inv acts 0 ep0 ep0_inv
      have ht := acts_true acts ep0 ep0_true
      simp only [implPlay_run (show 1048576 < N by omega) hl, implFlush_run (show 1048576 < N by omega) hl, ret, Option.bind_some, e1, cond_false]
      generalize acts.foldl epAct ep0 = e at hi ht
      obtain ⟨f1, f2, f3, f4, f5⟩ := flush_true ht
      have fi := flush_inv hi
      have z1 := (lens_of hi (by omega)).1
      have z2 := (lens_of fi (by omega)).1
      have s1 := epSafe_true ht
      have s2 := s1
      rw [any_swap] at s2
      have g0 := hi.e0
      have g1 := hi.sz
      have a1 : iadd .i64 e.1 2 = e.1 + 2 := iadd_eq (by unfold I64; omega)
      have a2 : iadd .i64 (ilen e.2.2.2.2.2) (ilen e.2.2.2.1) = (e.2.2.2.2.2.length : Int) + (e.2.2.2.1.length : Int) := iadd_eq (by unfold I64 ilen; omega)
      simp only [specSafe_run z1 (show 1048576 < N by omega), implSafe_run z1 (show 1048576 < N by omega), s1, s2, specEp_run hN z1, implEp_run hN z1, specEp_run hN z2, epOk_true ht hi (by omega), epOk_true f1 fi (by omega), ret, Option.bind_some, f2, f3, f4, a1, a2, Bool.not_false, cond_true]
      have q1 : (ilen (epFlush e).2.2.2.2.2 == (e.2.2.2.2.2.length : Int) + (e.2.2.2.1.length : Int)) = true := by simp [ilen, f5]
      rw [q1]
      have q2 : (e.1 + 2 == e.1 + 2) = true := by simp
      rw [q2]
      rfl
    · have e1 : decide (ilen acts > 200) = true := by simp [ilen]; omega
      simp only [(playLong (N := N) hl).1, ret, Option.bind_some, e1, cond_true]
      rfl
  · have e0 : decide (ilen code > 1048576) = true := by simp [ilen]; omega
    rw [e0]; rfl

theorem law_FnEpochs (d : PDen [.v (.slice (.int .u8)) false]) (hw : WfArgs [.v (.slice (.int .u8)) false] d) : ∃ N o, T_laws_FnEpochs N d.1 = some (o, (true, ())) := ⟨2097153, (), law_Epochs (by omega)⟩
end Go.Sx
