/- Plain laws of the Lean functions. -/
import Derived.Test.YtbmealjpegdhiaaMS1SeqT
/- Plain law: a writer and three readers over one triple. -/
namespace Go.Sx
set_option linter.unusedVariables false
set_option linter.unusedSimpArgs false

abbrev Rdr := Int × Int × (Int × Int × Int) × Int

theorem ix_getm {α : Type} {l : List α} {j : Nat} (h : j < l.length) (d : α) : List.getD l j d = l[j] := by simp [h]

def upR (w : Sqw) (k : Nat) (r : Rdr) : Sqw := (w.1, w.2.1, w.2.2.1, w.2.2.2.1, w.2.2.2.2.1.set k r, w.2.2.2.2.2)

/-- a reader's step -/
def seqRd (w : Sqw) (k : Nat) : Sqw :=
  let r := w.2.2.2.2.1.getD k ((0 : Int), ((0 : Int), (((0 : Int), ((0 : Int), (0 : Int))), (0 : Int))))
  bif r.1 == 0 then (bif irem w.1 2 == 1 then w else upR w k (1, w.1, r.2.2.1, r.2.2.2))
  else bif r.1 == 1 then upR w k (2, r.2.1, (w.2.1.1, r.2.2.1.2.1, r.2.2.1.2.2), r.2.2.2)
  else bif r.1 == 2 then upR w k (3, r.2.1, (r.2.2.1.1, w.2.1.2.1, r.2.2.1.2.2), r.2.2.2)
  else bif r.1 == 3 then upR w k (4, r.2.1, (r.2.2.1.1, r.2.2.1.2.1, w.2.1.2.2), r.2.2.2)
  else bif w.1 == r.2.1 then (w.1, w.2.1, w.2.2.1, w.2.2.2.1, w.2.2.2.2.1.set k (0, 0, (0, 0, 0), r.2.2.2), w.2.2.2.2.2 ++ [((k : Int), r.2.1, r.2.2.1)])
  else upR w k (0, 0, (0, 0, 0), iadd .i64 r.2.2.2 1)

/-- the writer's step -/
def seqWr (l : List Tri) (w : Sqw) : Sqw :=
  bif w.2.2.1 == 0 then (bif w.2.2.2.1 == ilen l then w else (iadd .i64 w.1 1, w.2.1, 1, w.2.2.2))
  else bif w.2.2.1 == 1 then (w.1, ((l.getD w.2.2.2.1.toNat ((0 : Int), ((0 : Int), (0 : Int)))).1, w.2.1.2), 2, w.2.2.2)
  else bif w.2.2.1 == 2 then (w.1, (w.2.1.1, (l.getD w.2.2.2.1.toNat ((0 : Int), ((0 : Int), (0 : Int)))).2.1, w.2.1.2.2), 3, w.2.2.2)
  else bif w.2.2.1 == 3 then (w.1, (w.2.1.1, w.2.1.2.1, (l.getD w.2.2.2.1.toNat ((0 : Int), ((0 : Int), (0 : Int)))).2.2), 4, w.2.2.2)
  else (iadd .i64 w.1 1, w.2.1, 0, iadd .i64 w.2.2.2.1 1, w.2.2.2.2)

theorem implWr_run {N : Nat} {l : List Tri} {w : Sqw} (h : 0 ≤ w.2.2.1 ∧ w.2.2.1 ≤ 4) (hn : w.2.2.1 ≠ 0 → w.2.2.1 ≠ 4 → inb w.2.2.2.1 l.length = true) : T_impl_SeqWorld_write N w l = some ((seqWr l w, ()), ()) := by
  obtain ⟨sq, ⟨na, nb, nc⟩, at_, nx, rs, dn⟩ := w
  simp only at h hn
  unfold T_impl_SeqWorld_write seqWr
  have e5 : inz 5 = true := rfl
  simp only [e5, cond_true]
  by_cases h0 : at_ = 0
  · subst h0
    have e : irem (iadd .i64 0 1) 5 = 1 := by decide
    rw [e]
    cases hq : nx == ilen l <;> rfl
  · by_cases h1 : at_ = 1
    · subst h1
      have e : irem (iadd .i64 1 1) 5 = 2 := by decide
      rw [e, hn (by decide) (by decide)]
      rfl
    · by_cases h2 : at_ = 2
      · subst h2
        have e : irem (iadd .i64 2 1) 5 = 3 := by decide
        rw [e, hn (by decide) (by decide)]
        rfl
      · by_cases h3 : at_ = 3
        · subst h3
          have e : irem (iadd .i64 3 1) 5 = 4 := by decide
          rw [e, hn (by decide) (by decide)]
          rfl
        · have h4 : at_ = 4 := by omega
          subst h4
          have e : irem (iadd .i64 4 1) 5 = 0 := by decide
          rw [e]
          rfl

theorem implRd_run {N : Nat} {w : Sqw} {k : Nat} (hk : k < w.2.2.2.2.1.length) (hp : 0 ≤ (w.2.2.2.2.1[k]).1 ∧ (w.2.2.2.2.1[k]).1 ≤ 4) (hd : w.2.2.2.2.2.length < 1000000) : T_impl_SeqWorld_read N w (k : Int) = some ((seqRd w k, ()), ()) := by
  obtain ⟨sq, ⟨na, nb, nc⟩, at_, nx, rs, dn⟩ := w
  simp only at hk hp hd
  unfold T_impl_SeqWorld_read seqRd upR
  have e2 : inz 2 = true := rfl
  have er : ∀ x : Sqr, room (dn.length + [x].length) = true := fun x => by unfold room; simp; omega
  simp only [ix_inb hk, e2, cond_true, Int.toNat_natCast, ix_getm hk, er]
  generalize hr : rs[k] = r
  rw [hr] at hp
  obtain ⟨p, q, ⟨ga, gb, gc⟩, lo⟩ := r
  simp only at hp
  have g1 : ∀ x : Rdr, (rs.set k x).getD k ((0 : Int), ((0 : Int), (((0 : Int), ((0 : Int), (0 : Int))), (0 : Int)))) = x := fun x => getD_set_self hk x _
  simp only [share, List.length_set, ix_inb hk, cond_true, List.set_set, g1]
  by_cases h0 : p = 0
  · subst h0
    have e : iadd .i64 0 1 = 1 := by decide
    rw [e]
    cases irem sq 2 == 1 <;> rfl
  · by_cases h1 : p = 1
    · subst h1
      have e : iadd .i64 1 1 = 2 := by decide
      rw [e]; rfl
    · by_cases h2 : p = 2
      · subst h2
        have e : iadd .i64 2 1 = 3 := by decide
        rw [e]; rfl
      · by_cases h3 : p = 3
        · subst h3
          have e : iadd .i64 3 1 = 4 := by decide
          rw [e]; rfl
        · have h4 : p = 4 := by omega
          subst h4
          have c0 : ((4 : Int) == 0) = false := rfl
          have c1 : ((4 : Int) == 1) = false := rfl
          have c2 : ((4 : Int) == 2) = false := rfl
          have c3 : ((4 : Int) == 3) = false := rfl
          have c4 : ((4 : Int) == 4) = true := rfl
          simp only [c0, c1, c2, c3, c4, cond_false, cond_true]
          cases sq == q <;> rfl

/-! what stays true -/
/-- the value that was there after so many writes -/
def valAt (s : Tri) (l : List Tri) (n : Nat) : Tri := (s :: l).getD n ((0 : Int), ((0 : Int), (0 : Int)))

structure RdOk (s : Tri) (l : List Tri) (sq : Int) (r : Rdr) : Prop where
  ph : 0 ≤ r.1 ∧ r.1 ≤ 4
  low : 0 ≤ r.2.1 ∧ r.2.1 ≤ sq
  ev : 1 ≤ r.1 → r.2.1 % 2 = 0
  a : 2 ≤ r.1 → sq = r.2.1 → r.2.2.1.1 = (valAt s l (sq / 2).toNat).1
  b : 3 ≤ r.1 → sq = r.2.1 → r.2.2.1.2.1 = (valAt s l (sq / 2).toNat).2.1
  c : 4 ≤ r.1 → sq = r.2.1 → r.2.2.1.2.2 = (valAt s l (sq / 2).toNat).2.2

structure DnOk (s : Tri) (l : List Tri) (sq : Int) (d : Sqr) : Prop where
  low : 0 ≤ d.2.1 ∧ d.2.1 ≤ sq
  ev : d.2.1 % 2 = 0
  val : d.2.2 = valAt s l (d.2.1 / 2).toNat

structure PlayOk (s : Tri) (l : List Tri) (n : Nat) (w : Sqw) : Prop where
  at_ : 0 ≤ w.2.2.1 ∧ w.2.2.1 ≤ 4
  nx : 0 ≤ w.2.2.2.1 ∧ w.2.2.2.1 ≤ l.length
  nx2 : w.2.2.1 ≠ 0 → w.2.2.2.1 < l.length
  sq : w.1 = 2 * w.2.2.2.1 + (if w.2.2.1 = 0 then 0 else 1)
  na : w.2.1.1 = if 2 ≤ w.2.2.1 then (valAt s l (w.2.2.2.1.toNat + 1)).1 else (valAt s l w.2.2.2.1.toNat).1
  nb : w.2.1.2.1 = if 3 ≤ w.2.2.1 then (valAt s l (w.2.2.2.1.toNat + 1)).2.1 else (valAt s l w.2.2.2.1.toNat).2.1
  nc : w.2.1.2.2 = if 4 ≤ w.2.2.1 then (valAt s l (w.2.2.2.1.toNat + 1)).2.2 else (valAt s l w.2.2.2.1.toNat).2.2
  rl : w.2.2.2.2.1.length = 3
  rd : ∀ r ∈ w.2.2.2.2.1, RdOk s l w.1 r
  dl : w.2.2.2.2.2.length ≤ n
  dn : ∀ d ∈ w.2.2.2.2.2, DnOk s l w.1 d
  so : List.Pairwise (fun a b : Sqr => a.2.1 ≤ b.2.1) w.2.2.2.2.2

theorem RdOk.up {s : Tri} {l : List Tri} {sq : Int} {r : Rdr} (h : RdOk s l sq r) : RdOk s l (sq + 1) r where
  ph := h.ph
  low := ⟨h.low.1, by have := h.low.2; omega⟩
  ev := h.ev
  a := fun h1 h2 => by have := h.low.2; omega
  b := fun h1 h2 => by have := h.low.2; omega
  c := fun h1 h2 => by have := h.low.2; omega

theorem DnOk.up {s : Tri} {l : List Tri} {sq : Int} {d : Sqr} (h : DnOk s l sq d) : DnOk s l (sq + 1) d where
  low := ⟨h.low.1, by have := h.low.2; omega⟩
  ev := h.ev
  val := h.val

theorem valAt_succ {s : Tri} {l : List Tri} {n : Nat} : valAt s l (n + 1) = l.getD n ((0 : Int), ((0 : Int), (0 : Int))) := rfl

theorem wr_ok {s : Tri} {l : List Tri} {n : Nat} {w : Sqw} (hl : l.length ≤ 20) (h : PlayOk s l n w) : PlayOk s l n (seqWr l w) := by
  obtain ⟨sq, ⟨na, nb, nc⟩, at_, nx, rs, dn⟩ := w
  obtain ⟨h1, h2, h3, h4, h5, h6, h7, h8, h9, h10, h11, h12⟩ := h
  simp only at h1 h2 h3 h4 h5 h6 h7 h8 h9 h10 h11 h12
  unfold seqWr
  by_cases h0 : at_ = 0
  · subst h0
    simp only [beq_self_eq_true, cond_true]
    by_cases hn : nx = (l.length : Int)
    · have e : (nx == ilen l) = true := by simp [ilen, hn]
      rw [e]
      exact ⟨h1, h2, h3, h4, h5, h6, h7, h8, h9, h10, h11, h12⟩
    · have e : (nx == ilen l) = false := by simp [ilen, hn]
      have e1 : iadd .i64 sq 1 = sq + 1 := iadd_eq (by unfold I64; simp at h4; omega)
      rw [e, e1]
      simp only [cond_false]
      simp at h4 h5 h6 h7
      exact ⟨by simp, h2, fun _ => by (try dsimp only); omega, by simp; omega, by simpa using h5, by simpa using h6, by simpa using h7, h8, fun r hr => (h9 r hr).up, h10, fun d hd => (h11 d hd).up, h12⟩
  · have b0 : (at_ == 0) = false := by simpa using h0
    have hlt := h3 h0
    rw [if_neg h0] at h4
    rw [b0]
    simp only [cond_false]
    by_cases ha : at_ = 1
    · subst ha
      simp at h5 h6 h7
      exact ⟨by simp, h2, fun _ => h3 h0, by simpa using h4, by simp [valAt_succ], by simpa using h6, by simpa using h7, h8, h9, h10, h11, h12⟩
    · have b1 : (at_ == 1) = false := by simpa using ha
      rw [b1]
      simp only [cond_false]
      by_cases hb : at_ = 2
      · subst hb
        simp at h5 h6 h7
        exact ⟨by simp, h2, fun _ => h3 h0, by simpa using h4, by simpa using h5, by simp [valAt_succ], by simpa using h7, h8, h9, h10, h11, h12⟩
      · have b2 : (at_ == 2) = false := by simpa using hb
        rw [b2]
        simp only [cond_false]
        by_cases hc : at_ = 3
        · subst hc
          simp at h5 h6 h7
          exact ⟨by simp, h2, fun _ => h3 h0, by simpa using h4, by simpa using h5, by simpa using h6, by simp [valAt_succ], h8, h9, h10, h11, h12⟩
        · have hd : at_ = 4 := by omega
          subst hd
          have b3 : ((4 : Int) == 3) = false := rfl
          have e1 : iadd .i64 sq 1 = sq + 1 := iadd_eq (by unfold I64; omega)
          have e2 : iadd .i64 nx 1 = nx + 1 := iadd_eq (by unfold I64; omega)
          have e3 : (nx + 1).toNat = nx.toNat + 1 := by omega
          rw [b3, e1, e2]
          simp only [cond_false]
          simp at h5 h6 h7
          exact ⟨by simp, by (try dsimp only); omega, by simp, by simp; omega, by simp [e3]; exact h5, by simp [e3]; exact h6, by simp [e3]; exact h7, h8, fun r hr => (h9 r hr).up, h10, fun d hd => (h11 d hd).up, h12⟩

theorem mem_set {α : Type} {l : List α} {k : Nat} {x y : α} (h : y ∈ l.set k x) : y = x ∨ y ∈ l := by
  rcases List.mem_or_eq_of_mem_set h with h | h
  · exact .inr h
  · exact .inl h

theorem rd_up {s : Tri} {l : List Tri} {n : Nat} {w : Sqw} {k : Nat} {r : Rdr} (h : PlayOk s l n w) (hr : RdOk s l w.1 r) : PlayOk s l (n + 1) (upR w k r) :=
  ⟨h.at_, h.nx, h.nx2, h.sq, h.na, h.nb, h.nc, by unfold upR; simpa using h.rl, fun r' hr' => by
    rcases mem_set hr' with e | e
    · rw [e]; exact hr
    · exact h.rd r' e, Nat.le_succ_of_le h.dl, h.dn, h.so⟩

/-- between two writes the triple is whole -/
theorem now_val {s : Tri} {l : List Tri} {n : Nat} {w : Sqw} (h : PlayOk s l n w) (he : w.1 % 2 = 0) : w.2.1 = valAt s l (w.1 / 2).toNat ∧ w.2.2.1 = 0 ∧ w.1 = 2 * w.2.2.2.1 := by
  have h4 := h.sq
  have h0 : w.2.2.1 = 0 := by
    by_cases h0 : w.2.2.1 = 0
    · exact h0
    · rw [if_neg h0] at h4; omega
  rw [if_pos h0] at h4
  have e : (w.1 / 2).toNat = w.2.2.2.1.toNat := by omega
  refine ⟨?_, h0, by omega⟩
  rw [e]
  have ha := h.na
  have hb := h.nb
  have hc := h.nc
  rw [if_neg (by omega)] at ha hb hc
  exact Prod.ext ha (Prod.ext hb hc)

theorem rd_ok {s : Tri} {l : List Tri} {n : Nat} {w : Sqw} {k : Nat} (hl : l.length ≤ 20) (hk : k < 3) (h : PlayOk s l n w) : PlayOk s l (n + 1) (seqRd w k) := by
  have hk' : k < w.2.2.2.2.1.length := by rw [h.rl]; exact hk
  have hr := h.rd _ (List.getElem_mem hk')
  have hn : ∀ q : Int, w.1 = q → q % 2 = 0 → w.2.1 = valAt s l (w.1 / 2).toNat := fun q e1 e2 => (now_val h (by rw [e1]; exact e2)).1
  unfold seqRd
  simp only [ix_getm hk']
  generalize w.2.2.2.2.1[k] = r at hr
  obtain ⟨p, q, ⟨ga, gb, gc⟩, lo⟩ := r
  obtain ⟨r1, r2, r3, r4, r5, r6⟩ := hr
  simp only at r1 r2 r3 r4 r5 r6
  have hs0 : 0 ≤ w.1 := by omega
  by_cases h0 : p = 0
  · subst h0
    simp only [beq_self_eq_true, cond_true]
    have em : irem w.1 2 = w.1 % 2 := by unfold irem; exact Int.tmod_eq_emod_of_nonneg hs0
    rw [em]
    by_cases hodd : w.1 % 2 = 1
    · have e : (w.1 % 2 == 1) = true := by simp [hodd]
      rw [e]
      exact ⟨h.at_, h.nx, h.nx2, h.sq, h.na, h.nb, h.nc, h.rl, h.rd, Nat.le_succ_of_le h.dl, h.dn, h.so⟩
    · have e : (w.1 % 2 == 1) = false := by simp [hodd]
      rw [e]
      refine rd_up h ⟨by simp, ⟨hs0, Int.le_refl _⟩, fun _ => by (try dsimp only); omega, fun h => by simp at h, fun h => by simp at h, fun h => by simp at h⟩
  · have b0 : (p == 0) = false := by simpa using h0
    rw [b0]
    simp only [cond_false]
    have ev := r3 (by omega)
    by_cases h1 : p = 1
    · subst h1
      refine rd_up h ⟨by simp, r2, fun _ => ev, fun _ e => ?_, fun h => by simp at h, fun h => by simp at h⟩
      rw [← hn q e ev]
    · have b1 : (p == 1) = false := by simpa using h1
      rw [b1]
      simp only [cond_false]
      by_cases h2 : p = 2
      · subst h2
        refine rd_up h ⟨by simp, r2, fun _ => ev, fun _ e => r4 (by omega) e, fun _ e => ?_, fun h => by simp at h⟩
        rw [← hn q e ev]
      · have b2 : (p == 2) = false := by simpa using h2
        rw [b2]
        simp only [cond_false]
        by_cases h3 : p = 3
        · subst h3
          refine rd_up h ⟨by simp, r2, fun _ => ev, fun _ e => r4 (by omega) e, fun _ e => r5 (by omega) e, fun _ e => ?_⟩
          rw [← hn q e ev]
        · have b3 : (p == 3) = false := by simpa using h3
          rw [b3]
          simp only [cond_false]
          have rnew : ∀ lo : Int, RdOk s l w.1 (0, 0, (0, 0, 0), lo) := fun lo => ⟨by simp, ⟨by simp, hs0⟩, fun _ => by simp, fun h => by simp at h, fun h => by simp at h, fun h => by simp at h⟩
          by_cases hq : w.1 = q
          · have bq : (w.1 == q) = true := by simp [hq]
            rw [bq]
            have e4 := r4 (by omega) hq
            have e5 := r5 (by omega) hq
            have e6 := r6 (by omega) hq
            refine ⟨h.at_, h.nx, h.nx2, h.sq, h.na, h.nb, h.nc, by simpa using h.rl, fun r' hr' => ?_, ?_, fun d hd => ?_, ?_⟩
            · rcases mem_set hr' with e | e
              · rw [e]; exact rnew lo
              · exact h.rd r' e
            · have := h.dl
              simp; omega
            · rcases List.mem_append.1 hd with hd | hd
              · exact h.dn d hd
              · rw [List.mem_singleton.1 hd]
                refine ⟨r2, ev, ?_⟩
                (try dsimp only)
                rw [← hq]
                exact Prod.ext e4 (Prod.ext e5 e6)
            · refine List.pairwise_append.2 ⟨h.so, List.pairwise_singleton _ _, fun a ha b hb => ?_⟩
              rw [List.mem_singleton.1 hb]
              have := (h.dn a ha).low.2
              (try dsimp only)
              omega
          · have bq : (w.1 == q) = false := by simp [hq]
            rw [bq]
            exact rd_up h (rnew _)
end Go.Sx
