/- Plain laws of the Lean functions. -/
import Derived.Test.YtceckfecihemnaaGreatMS1EagLA

namespace Go.Sx
set_option linter.unusedVariables false
set_option linter.unusedSimpArgs false
theorem both_same1 {α : Type} (a : Option α) : both a a = a := by unfold both; rw [if_pos rfl]
theorem undo_append (c : List Int) (a b : List Rw) : undo c (a ++ b) = undo (undo c b) a := by unfold undo; rw [List.foldr_append]
theorem set_back {c : List Int} {a : Nat} {v : Int} : (c.set a v).set a (c.getD a 0) = c := by
  rw [List.set_set]
  by_cases h : a < c.length
  · rw [ix_getn h]; exact List.set_getElem_self h
  · rw [List.set_eq_of_length_le (by omega)]
theorem undo_write {c : List Int} {log : List Rw} {a : Int} {v : Int} {n : Nat} (h : n ≤ log.length) : undo (c.set a.toNat v) ((log ++ [(a, c.getD a.toNat 0)]).drop n) = undo c (log.drop n) := by
  rw [List.drop_append_of_le_length h, undo_snoc]
  simp only []
  rw [set_back]
theorem undo_cut {c : List Int} {log : List Rw} {n k : Nat} (h : n ≤ k) (hk : k ≤ log.length) : undo (undo c (log.drop k)) ((log.take k).drop n) = undo c (log.drop n) := by
  rw [← undo_append]
  congr 1
  rw [← List.drop_append_of_le_length (by rw [List.length_take]; omega), List.take_append_drop]
def cmk (mp : List Int) (ct : Int) (s : KS) (m : Mk) : Int × List Int × List Int × List Int × Int := (m.1, (m.2.2, (undo s.cells (s.log.drop m.2.1.toNat), (mp, ct))))
theorem step_undo {l : List Opn} {pc : Nat} {s : KS} (hc : KC l) (h : KI l pc s) (hp : pc < l.length) : undo (eStep l pc s).2.2.cells (eStep l pc s).2.2.log = undo s.cells s.log := by
  have ha := opAt_lt hp
  unfold eStep
  rw [ha]
  unfold eStepO
  cases l[pc].1 == 5
  · cases l[pc].1 == 6
    · cases l[pc].1 == 7
      · cases l[pc].1 == 8
        · cases l[pc].1 == 9
          · cases l[pc].1 == 10
            · rfl
            · by_cases hne : s.marks = []
              · have : s.marks.isEmpty = true := by rw [hne]; rfl
                rw [this]; rfl
              · have : s.marks.isEmpty = false := by cases hm : s.marks with | nil => exact absurd hm hne | cons a b => rfl
                rw [this]
                obtain ⟨m, q, x, hq, ht, hx, _⟩ := top_of hc h hne
                obtain ⟨x1, x2, x3⟩ := h.mr x (by rw [hq]; simp)
                simp only [cond_true, cond_false, ht]
                have := undo_cut (c := s.cells) (log := s.log) (n := 0) (k := x.2.1.toNat) (by omega) (by omega)
                simpa using this
          · rfl
        · rfl
      · rfl
    · have := undo_write (c := s.cells) (log := s.log) (a := l[pc].2.1) (v := s.regs.getD l[pc].2.2.1.toNat 0) (n := 0) (by omega)
      simp only [cond_true, cond_false]
      simpa using this
  · rfl
theorem run_undo {l : List Opn} (hc : KC l) : ∀ (n pc : Nat) (s : KS), KI l pc s → undo (eRun l n pc s).2.cells (eRun l n pc s).2.log = undo s.cells s.log
  | 0, pc, s, h => rfl
  | n + 1, pc, s, h => by
    rw [eRun]
    by_cases hp : pc < l.length
    · have e : decide (pc < l.length) = true := by simpa using hp
      have hu := step_undo hc h hp
      rw [e]
      cases hb : (eStep l pc s).1
      · exact hu
      · simp only [cond_true]
        rw [run_undo hc n _ _ ((step_inv hc h hp).1 hb).2, hu]
    · have e : decide (pc < l.length) = false := by simpa using hp
      rw [e]; rfl
theorem copy_run {N : Nat} {c mp : List Int} {ct : Int} (h1 : c.length ≤ 1000) (h2 : mp.length ≤ 1000) : Zd5 N (c, (mp, ct)) = ret (c, (mp, ct)) := by
  unfold Zd5
  have r1 : room (([] : List Int).length + c.length) = true := room_le (by simp; omega)
  have r2 : room (([] : List Int).length + mp.length) = true := room_le (by simp; omega)
  simp only [r1, r2, cond_true, both_same1]
  rfl
section
variable {N : Nat} {l : List Opn} {R : Type}
theorem walk_lp (hN : 1048576 < N) (hc : KC l) {rec : List Opn → List (List Opn) → List Int → List Int → (List Int × List Int × Int) → Option (Unit × ((Int × List Int × List Int × List Int × Int) × Unit))} {kids : List (List Opn)} {order : List Int}
    {mp : List Int} {ct b16 : Int} {l20 l21 : List Int} (hmp : mp.length ≤ 1000) (K0 : List Int → Option R) (K1 : List Int → Int → List Int → List Int → Option R) :
    ∀ (n pc : Nat) (s : KS), KI l pc s → l.length - pc < n → Zr N rec l kids order b16 l20 l21 K0 (fun _ _ r b _ c m => K1 r b c m) n (pc : Int) s.regs ct (s.marks.map (cmk mp ct s)) s.cells mp =
      (fun f : Bool × KS => bif f.1 then K0 f.2.regs else K1 f.2.regs ct f.2.cells mp) (eRun l n pc s)
  | 0, pc, s, h, hn => by omega
  | n + 1, pc, s, h, hn => by
    have hlen := hc.len
    have hpl := h.pcl
    by_cases hp : pc < l.length
    · have hinv := step_inv hc h hp
      have ih := walk_lp hN hc (rec := rec) (kids := kids) (order := order) (mp := mp) (ct := ct) (b16 := b16) (l20 := l20) (l21 := l21) hmp K0 K1 n
      have go : ∀ pc' s', eStep l pc s = (true, pc', s') → Zr N rec l kids order b16 l20 l21 K0 (fun _ _ r b _ c m => K1 r b c m) n (pc' : Int) s'.regs ct (s'.marks.map (cmk mp ct s')) s'.cells mp = (fun f : Bool × KS => bif f.1 then K0 f.2.regs else K1 f.2.regs ct f.2.cells mp) (eRun l (n + 1) pc s) := fun pc' s' he => by
        rw [he] at hinv
        obtain ⟨h1, h2⟩ := hinv.1 rfl
        rw [ih pc' s' h2 (by simp only [] at h1; omega), eRun, he]
        simp [hp]
      have stop : ∀ pc' s', eStep l pc s = (false, pc', s') → K0 s'.regs = (fun f : Bool × KS => bif f.1 then K0 f.2.regs else K1 f.2.regs ct f.2.cells mp) (eRun l (n + 1) pc s) := fun pc' s' he => by
        rw [eRun, he]
        simp [hp]
      obtain ⟨ho, k1, k2⟩ := hc.ok pc hp
      have ha := opAt_lt hp
      have hlg := h.lg
      have hml : s.marks.length ≤ 24 := by
        have e1 := congrArg List.length h.mp
        simp only [List.length_map] at e1
        have e2 := stk_len hc.up pc hpl
        have := dep_bd l pc
        omega
      have r0 : room (([] : List Int).length + s.regs.length) = true := room_le (by rw [h.rg.len]; simp)
      have en : ∀ x : List Int, List.append ([] : List Int) x = x := fun x => rfl
      simp only [Zr, ix_lt hp, ix_inb hp, ix_get hp, cond_true, ix_succ (show pc < 4611686018427387904 by omega)]
      unfold eStep at go stop
      rw [ha] at go stop
      unfold eStepO at go stop
      by_cases k5 : l[pc].1 = 5
      · have b : (l[pc].1 == 5) = true := by simp [k5]
        obtain ⟨o1, o2⟩ := ok_5 ho k5
        rw [b] at go
        simp only [b, cond_true, cell_inb o2 h.cl.len, reg_inb o1 h.rg.len]
        exact go _ _ rfl
      · have b5 : (l[pc].1 == 5) = false := by simp [k5]
        rw [b5] at go stop
        by_cases k6 : l[pc].1 = 6
        · have b : (l[pc].1 == 6) = true := by simp [k6]
          obtain ⟨o1, o2⟩ := ok_6 ho k6
          rw [b] at go
          simp only [b5, b, cond_true, cond_false, cell_inb o1 h.cl.len, reg_inb o2 h.rg.len]
          refine Eq.trans ?_ (go _ _ rfl)
          congr 1
          apply List.map_congr_left
          intro m hm
          unfold cmk
          simp only []
          rw [undo_write (by have := h.mr m hm; omega)]
        · have b6 : (l[pc].1 == 6) = false := by simp [k6]
          rw [b6] at go stop
          by_cases k7 : l[pc].1 = 7
          · have b : (l[pc].1 == 7) = true := by simp [k7]
            obtain ⟨o1, o2, o3⟩ := ok_7 ho k7
            rw [b] at go
            simp only [b5, b6, b, cond_true, cond_false, reg_inb o1 h.rg.len]
            have e2 : iadd .i64 ((pc + 1 : Nat) : Int) l[pc].2.2.1 = ((pc + 1 + l[pc].2.2.1.toNat : Nat) : Int) := by rw [iadd_eq (by unfold I64; omega)]; omega
            rw [e2]
            refine Eq.trans ?_ (go _ _ rfl)
            cases s.regs.getD l[pc].2.1.toNat 0 == 0 <;> rfl
          · have b7 : (l[pc].1 == 7) = false := by simp [k7]
            rw [b7] at go stop
            by_cases k8 : l[pc].1 = 8
            · have b : (l[pc].1 == 8) = true := by simp [k8]
              rw [b] at go
              have r1 : room ((s.marks.map (cmk mp ct s)).length + [((pc : Int), (s.regs, (s.cells, (mp, ct))))].length) = true := room_le (by simp; omega)
              simp only [b5, b6, b7, b, cond_true, cond_false, r0, copy_run (ct := ct) (show s.cells.length ≤ 1000 by rw [h.cl.len]; omega) hmp, ret, Option.bind_some, en, r1]
              refine Eq.trans ?_ (go _ _ rfl)
              simp only [List.map_append, List.map_cons, List.map_nil, cmk, Int.toNat_natCast, List.drop_length]
              rfl
            · have b8 : (l[pc].1 == 8) = false := by simp [k8]
              rw [b8] at go stop
              by_cases k9 : l[pc].1 = 9
              · have b : (l[pc].1 == 9) = true := by simp [k9]
                rw [b] at go
                have hne : s.marks ≠ [] := fun h0 => by
                  have e1 := congrArg List.length h.mp
                  rw [h0] at e1
                  simp only [List.length_map, List.length_nil] at e1
                  have e2 := stk_len hc.up pc hpl
                  have e3 := hc.up pc hp
                  have e4 := dep_succ hp
                  rw [opd_9 k9] at e4
                  omega
                obtain ⟨m, q, x, hq, ht, hx, ⟨hm, h8⟩, hmate, hge, hst, hqm⟩ := top_of hc h hne
                have o8 := ok_8 (hc.ok m hm).1 h8
                rw [ht] at go
                rw [hq] at go ⊢
                rw [hq] at hml
                have hql : (q.map (cmk mp ct s)).length < 1000 := by rw [List.length_append] at hml; simp; omega
                have c1 : (cmk mp ct s x).1 = (m : Int) := hx
                simp only [b5, b6, b7, b8, b, cond_true, cond_false, List.map_append, List.map_cons, List.map_nil, last_len hql, last_inb, Int.toNat_natCast, last_get, last_take, last_cut, c1, ix_inb hm, opAt_get, opAt_lt hm, reg_inb o8 h.rg.len]
                refine Eq.trans ?_ (go _ _ rfl)
                simp only [hx, Int.toNat_natCast, opAt_lt hm, List.length_append, List.length_cons, List.length_nil, Nat.zero_add, Nat.add_sub_cancel, last_take]
                rfl
              · have b9 : (l[pc].1 == 9) = false := by simp [k9]
                rw [b9] at go stop
                by_cases k10 : l[pc].1 = 10
                · have b : (l[pc].1 == 10) = true := by simp [k10]
                  rw [b] at go stop
                  simp only [b5, b6, b7, b8, b9, b, cond_true, cond_false]
                  by_cases hne : s.marks = []
                  · have he : s.marks.isEmpty = true := by rw [hne]; rfl
                    rw [he] at stop
                    have e3 : (ilen (s.marks.map (cmk mp ct s)) == 0) = true := by rw [hne]; rfl
                    rw [e3]
                    exact stop pc { s with cells := undo s.cells s.log, log := [], back := s.back + s.log.length } rfl
                  · have he : s.marks.isEmpty = false := by cases hm : s.marks with | nil => exact absurd hm hne | cons a b => rfl
                    rw [he] at go
                    obtain ⟨m, q, x, hq, ht, hx, ⟨hm, h8⟩, hmate, hge, hst, hqm⟩ := top_of hc h hne
                    have hxm : x ∈ s.marks := by rw [hq]; simp
                    obtain ⟨x1, x2, x3⟩ := h.mr x hxm
                    have o8 := ok_8 (hc.ok m hm).1 h8
                    have hlast : ∀ y ∈ q, y.2.1 ≤ x.2.1 := by
                      have := h.mo
                      rw [hq] at this
                      exact fun y hy => (List.pairwise_append.1 this).2.2 y hy x (by simp)
                    have hqy : ∀ y ∈ q, 0 ≤ y.2.1 := fun y hy => (h.mr y (by rw [hq]; simp [hy])).2.1
                    rw [ht] at go
                    rw [hq] at go ⊢
                    rw [hq] at hml
                    have hql : (q.map (cmk mp ct s)).length < 1000 := by rw [List.length_append] at hml; simp; omega
                    have e3 : (ilen (q.map (cmk mp ct s) ++ [cmk mp ct s x]) == 0) = false := by
                      have : ilen (q.map (cmk mp ct s) ++ [cmk mp ct s x]) ≠ 0 := by unfold ilen; rw [List.length_append]; simp; omega
                      simpa using this
                    have hml2 := hmate.len
                    have hu := undo_ok h.cl (l := s.log.drop x.2.1.toNat) fun r hr => hlg.1 r (List.mem_of_mem_drop hr)
                    have c1 : (cmk mp ct s x).1 = (m : Int) := hx
                    have c2 : (cmk mp ct s x).2.1 = x.2.2 := rfl
                    have c3 : (cmk mp ct s x).2.2 = (undo s.cells (s.log.drop x.2.1.toNat), (mp, ct)) := rfl
                    have r1 : room (([] : List Int).length + x.2.2.length) = true := room_le (by rw [x1.len]; simp)
                    simp only [List.map_append, List.map_cons, List.map_nil]
                    simp only [e3, last_len hql, cond_false, last_inb, Int.toNat_natCast, last_get, last_take, last_cut, cond_true, c1, c2, c3, r1, copy_run (ct := ct) (show (undo s.cells (s.log.drop x.2.1.toNat)).length ≤ 1000 by rw [hu.len]; omega) hmp, Option.bind_some, ix_inb hm, opAt_get, opAt_lt hm, en, reg_inb o8 x1.len,
                      specEnd_run (N := N) (l := l) (by omega) hN ⟨hm, h8⟩ hmate, ret, ix_succ (show mt l m < 4611686018427387904 by omega)]
                    refine Eq.trans ?_ (go _ _ rfl)
                    simp only [hx, Int.toNat_natCast, opAt_lt hm, List.length_append, List.length_cons, List.length_nil, Nat.zero_add, Nat.add_sub_cancel, last_take]
                    congr 1
                    apply List.map_congr_left
                    intro y hy
                    unfold cmk
                    simp only []
                    rw [undo_cut (by have := hlast y hy; omega) (by omega)]
                · have b10 : (l[pc].1 == 10) = false := by simp [k10]
                  rw [b10] at go stop
                  have e : ∀ k : Int, 11 ≤ k → (l[pc].1 == k) = false := fun k hk => by simp; omega
                  simp only [b5, b6, b7, b8, b9, b10, e 11 (by omega), e 12 (by omega), e 13 (by omega), e 14 (by omega), e 15 (by omega), e 16 (by omega), cond_false, specCalc_run hN ho k1 (by omega) h.rg, Option.bind_some]
                  exact go _ _ rfl
    · have e : pc = l.length := by omega
      subst e
      simp only [Zr, ix_ge (Nat.le_refl l.length), cond_false]
      rw [eRun]
      simp
theorem serKid_run {regs cells : List Int} (hN : 1048576 < N) (hl : l.length ≤ 1048576) (hr : regs.length ≤ 1048576) (hc : cells.length ≤ 1048576) :
    Zdm N l regs cells = some ((), ((eagOf l regs cells).1, ((eagOf l regs cells).2.1, ((eagOf l regs cells).2.2.1, ())))) := by
  unfold Zdm eagOf
  simp only [specKid_run hl hN, specRegs_run hr hN, specVals_run hc hN, ret, Option.bind_some]
  cases h1 : kidOk l
  · rfl
  · cases h2 : regsOk regs
    · rfl
    · cases h3 : valsOk cells
      · rfl
      · have kc := kc_of h1
        have v2 := regs_iff.1 h2
        have v3 := vals_iff.1 h3
        have ki := ks0_inv (l := l) v2 v3
        obtain ⟨M, rfl⟩ : ∃ M, N = M + 1 := ⟨N - 1, by omega⟩
        have e8 : (((decide ((0 : Int) ≤ (8 : Int))) && (decide ((8 : Int) ≤ (8 : Int)))) && (room (Int.toNat (8 : Int)))) = true := rfl
        have hmp : (List.replicate (Int.toNat 8) (0 : Int)).length ≤ 1000 := by decide
        have cp := copy_run (N := M + 1) (c := cells) (mp := List.replicate (Int.toNat 8) (0 : Int)) (ct := 0) (by rw [v3.len]; omega) hmp
        have r0 : room (([] : List Int).length + regs.length) = true := room_le (by rw [v2.len]; simp)
        simp only [Bool.not_true, cond_false, e8, cond_true]
        unfold Znb Zaf
        simp only [cp, ret, Option.bind_some, r0, cond_true]
        have key := walk_lp (N := M + 1) (l := l) (R := Unit × ((Int × List Int × List Int × List Int × Int) × Unit)) hN kc (rec := Zaf (M + 1) M) (kids := []) (order := []) (mp := List.replicate (Int.toNat 8) (0 : Int)) (ct := 0) (b16 := 0) (l20 := cells) (l21 := List.replicate (Int.toNat 8) (0 : Int)) hmp
          (fun l114 => (some ((), (((2 : Int), (l114, (cells, (List.replicate (Int.toNat 8) (0 : Int), 0)))), ())))) (fun r b c m => (some ((), (((1 : Int), (r, (c, (m, b)))), ())))) (M + 1) 0 (ks0 regs cells) ki (by have := kc.len; omega)
        have hu := run_undo kc (l.length + 1) 0 _ ki
        have hi := (eRun_inv kc (l.length + 1) 0 _ ki).2.2.2.2.1
        rw [fuelN kc ki hN] at key
        have key' : Zr (M + 1) (Zaf (M + 1) M) l [] [] 0 cells (List.replicate (Int.toNat 8) (0 : Int)) (fun l114 => (some ((), (((2 : Int), (l114, (cells, (List.replicate (Int.toNat 8) (0 : Int), 0)))), ())) : Option (Unit × ((Int × List Int × List Int × List Int × Int) × Unit)))) (fun pc115 t116 l117 b118 l119 l120 l121 => (some ((), (((1 : Int), (l117, (l120, (l121, b118)))), ())))) (M + 1) 0 regs 0 [] cells (List.replicate (Int.toNat 8) (0 : Int)) = _ := key
        have en : List.append ([] : List Int) regs = regs := rfl
        simp only [en, key', Bool.and_true, cond_true]
        generalize eRun l (l.length + 1) 0 (ks0 regs cells) = f at hu hi
        obtain ⟨b, s⟩ := f
        cases b
        · rfl
        · have hi' : s.log = [] := hi rfl
          have hu' : undo s.cells s.log = cells := hu
          rw [hi'] at hu'
          have hu2 : s.cells = cells := hu'
          simp only [cond_true, Option.bind_some, hu2]
end
end Go.Sx
