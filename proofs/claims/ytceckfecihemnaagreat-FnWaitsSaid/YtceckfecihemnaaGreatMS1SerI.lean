/- Plain laws of the Lean functions. -/
import Derived.Test.YtceckfecihemnaaGreatMS1Ser

namespace Go.Sx
set_option linter.unusedVariables false
set_option linter.unusedSimpArgs false
theorem icopy_run {N : Nat} {c mp : List Int} {ct : Int} (h1 : c.length ≤ 1000) (h2 : mp.length ≤ 1000) : Zab N (c, (mp, ct)) = ret (c, (mp, ct)) := by
  unfold Zab
  simp only [copyInts_run (N := N) (l := c) (by omega), copyInts_run (N := N) (l := mp) (by omega), ret, Option.bind_some]
theorem last_cut3 {α : Type} {q : List α} {x : α} : (((decide ((0 : Int) ≤ (q.length : Int))) && (decide ((q.length : Int) ≤ ((List.length (q ++ [x])) : Int)))) && (decide ((q.length : Int) ≤ (q.length : Int)))) = true := by rw [last_cut]; simp
section
variable {N : Nat} {l : List Opn} {R : Type}
theorem ser_lp (hN : 1048576 < N) (hc : KC l) {rec : List Opn → List (List Opn) → List Int → List Int → (List Int × List Int × Int) → Option (Unit × ((Int × List Int × List Int × List Int × Int) × Unit))} {kids : List (List Opn)} {order : List Int}
    {mp c0 : List Int} {ct : Int} (hmp : mp.length ≤ 1000) (hc0 : c0.length ≤ 1000) (K0 : Int → List Int → List Int → List Int → Option R) (K1 : List Int → Int → List Int → List Int → Option R) :
    ∀ (n pc : Nat) (s : KS), KI l pc s → l.length - pc < n → Zh N rec l kids order (c0, (mp, ct)) K0 (fun _ _ r b _ c m => K1 r b c m) n (pc : Int) s.regs ct (s.marks.map (cmk mp ct s)) s.cells mp =
      (fun f : Bool × KS => bif f.1 then K0 ct f.2.regs c0 mp else K1 f.2.regs ct f.2.cells mp) (eRun l n pc s)
  | 0, pc, s, h, hn => by omega
  | n + 1, pc, s, h, hn => by
    have hlen := hc.len
    have hpl := h.pcl
    by_cases hp : pc < l.length
    · have hinv := step_inv hc h hp
      have ih := ser_lp hN hc (rec := rec) (kids := kids) (order := order) (mp := mp) (c0 := c0) (ct := ct) hmp hc0 K0 K1 n
      have go : ∀ pc' s', eStep l pc s = (true, pc', s') → Zh N rec l kids order (c0, (mp, ct)) K0 (fun _ _ r b _ c m => K1 r b c m) n (pc' : Int) s'.regs ct (s'.marks.map (cmk mp ct s')) s'.cells mp = (fun f : Bool × KS => bif f.1 then K0 ct f.2.regs c0 mp else K1 f.2.regs ct f.2.cells mp) (eRun l (n + 1) pc s) := fun pc' s' he => by
        rw [he] at hinv
        obtain ⟨h1, h2⟩ := hinv.1 rfl
        rw [ih pc' s' h2 (by simp only [] at h1; omega), eRun, he]
        simp [hp]
      have stop : ∀ pc' s', eStep l pc s = (false, pc', s') → K0 ct s'.regs c0 mp = (fun f : Bool × KS => bif f.1 then K0 ct f.2.regs c0 mp else K1 f.2.regs ct f.2.cells mp) (eRun l (n + 1) pc s) := fun pc' s' he => by
        rw [eRun, he]
        simp [hp]
      obtain ⟨ho, k1, k2⟩ := hc.ok pc hp
      have ha := opAt_lt hp
      have hlg := h.lg
      have hml : s.marks.length ≤ 24 := by
        have e1 := congrArg List.length h.mp
        simp only [List.length_map] at e1
        have e2 := stk_len hc.up pc hpl
        have := dep_bd l pc
        omega
      have r0 : room (([] : List Int).length + s.regs.length) = true := room_le (by rw [h.rg.len]; simp)
      have en : ∀ x : List Int, List.append ([] : List Int) x = x := fun x => rfl
      simp only [Zh, ix_lt hp, ix_inb hp, ix_get hp, cond_true, ix_succ (show pc < 4611686018427387904 by omega)]
      unfold eStep at go stop
      rw [ha] at go stop
      unfold eStepO at go stop
      have ex : ∀ c : Int, c ≠ l[pc].1 → (l[pc].1 == c) = false := fun c hc => by simpa using fun h => hc h.symm
      by_cases hk4 : l[pc].1 ≤ 4
      · simp only [ex 5 (by omega), ex 6 (by omega), ex 7 (by omega), ex 8 (by omega), ex 9 (by omega), ex 10 (by omega), cond_false] at go
        have hcalc := implCalc_run hN ho k1 hk4 h.rg
        refine Eq.trans ?_ (go _ _ rfl)
        have : l[pc].1 = 1 ∨ l[pc].1 = 2 ∨ l[pc].1 = 3 ∨ l[pc].1 = 4 := by omega
        rcases this with hk | hk | hk | hk <;> simp only [hk, hcalc, Option.bind_some, BEq.rfl, cond_true, cond_false, show ((2 : Int) == 1) = false from rfl, show ((3 : Int) == 1) = false from rfl, show ((3 : Int) == 2) = false from rfl, show ((4 : Int) == 1) = false from rfl, show ((4 : Int) == 2) = false from rfl, show ((4 : Int) == 3) = false from rfl] <;> rfl
      have x1 := ex 1 (by omega)
      have x2 := ex 2 (by omega)
      have x3 := ex 3 (by omega)
      have x4 := ex 4 (by omega)
      simp only [x1, x2, x3, x4, cond_false]
      by_cases k5 : l[pc].1 = 5
      · have b : (l[pc].1 == 5) = true := by simp [k5]
        obtain ⟨o1, o2⟩ := ok_5 ho k5
        rw [b] at go
        simp only [ex 7 (by omega), ex 8 (by omega), ex 9 (by omega), ex 10 (by omega), ex 11 (by omega), cond_false]
        unfold Zei
        simp only [b, cond_true, cell_inb o2 h.cl.len, reg_inb o1 h.rg.len, Option.bind_some]
        exact go _ _ rfl
      · have b5 : (l[pc].1 == 5) = false := by simp [k5]
        rw [b5] at go stop
        by_cases k6 : l[pc].1 = 6
        · have b : (l[pc].1 == 6) = true := by simp [k6]
          obtain ⟨o1, o2⟩ := ok_6 ho k6
          rw [b] at go
          simp only [ex 7 (by omega), ex 8 (by omega), ex 9 (by omega), ex 10 (by omega), ex 11 (by omega), cond_false]
          unfold Zei
          simp only [b5, b, cond_true, cond_false, cell_inb o1 h.cl.len, reg_inb o2 h.rg.len, Option.bind_some]
          refine Eq.trans ?_ (go _ _ rfl)
          simp only []
          congr 1
          apply List.map_congr_left
          intro m hm
          unfold cmk
          simp only []
          rw [undo_write (by have := h.mr m hm; omega)]
        · have b6 : (l[pc].1 == 6) = false := by simp [k6]
          rw [b6] at go stop
          by_cases k7 : l[pc].1 = 7
          · have b : (l[pc].1 == 7) = true := by simp [k7]
            obtain ⟨o1, o2, o3⟩ := ok_7 ho k7
            rw [b] at go
            simp only [b5, b6, b, cond_true, cond_false, reg_inb o1 h.rg.len]
            have e2 : iadd .i64 (iadd .i64 (pc : Int) l[pc].2.2.1) 1 = ((pc + 1 + l[pc].2.2.1.toNat : Nat) : Int) := by rw [iadd_eq (a := (pc : Int)) (by unfold I64; omega), iadd_eq (by unfold I64; omega)]; omega
            rw [e2]
            refine Eq.trans ?_ (go _ _ rfl)
            cases s.regs.getD l[pc].2.1.toNat 0 == 0 <;> rfl
          · have b7 : (l[pc].1 == 7) = false := by simp [k7]
            rw [b7] at go stop
            by_cases k8 : l[pc].1 = 8
            · have b : (l[pc].1 == 8) = true := by simp [k8]
              rw [b] at go
              have r1 : room ((s.marks.map (cmk mp ct s)).length + [((pc : Int), (s.regs, (s.cells, (mp, ct))))].length) = true := room_le (by simp; omega)
              simp only [b5, b6, b7, b, cond_true, cond_false, copyInts_run (N := N) (l := s.regs) (by rw [h.rg.len]; omega), icopy_run (ct := ct) (show s.cells.length ≤ 1000 by rw [h.cl.len]; omega) hmp, ret, Option.bind_some, en, r1]
              refine Eq.trans ?_ (go _ _ rfl)
              simp only [List.map_append, List.map_cons, List.map_nil, cmk, Int.toNat_natCast, List.drop_length]
              rfl
            · have b8 : (l[pc].1 == 8) = false := by simp [k8]
              rw [b8] at go stop
              by_cases k9 : l[pc].1 = 9
              · have b : (l[pc].1 == 9) = true := by simp [k9]
                rw [b] at go
                have hne : s.marks ≠ [] := fun h0 => by
                  have e1 := congrArg List.length h.mp
                  rw [h0] at e1
                  simp only [List.length_map, List.length_nil] at e1
                  have e2 := stk_len hc.up pc hpl
                  have e3 := hc.up pc hp
                  have e4 := dep_succ hp
                  rw [opd_9 k9] at e4
                  omega
                obtain ⟨m, q, x, hq, ht, hx, ⟨hm, h8⟩, hmate, hge, hst, hqm⟩ := top_of hc h hne
                have o8 := ok_8 (hc.ok m hm).1 h8
                rw [ht] at go
                rw [hq] at go ⊢
                rw [hq] at hml
                have hql : (q.map (cmk mp ct s)).length < 1000 := by rw [List.length_append] at hml; simp; omega
                have c1 : (cmk mp ct s x).1 = (m : Int) := hx
                simp only [b5, b6, b7, b8, b, cond_true, cond_false, List.map_append, List.map_cons, List.map_nil, last_len hql, last_inb, Int.toNat_natCast, last_get, last_take, last_cut3, c1, ix_inb hm, opAt_get, opAt_lt hm, reg_inb o8 h.rg.len]
                refine Eq.trans ?_ (go _ _ rfl)
                simp only [hx, Int.toNat_natCast, opAt_lt hm, List.length_append, List.length_cons, List.length_nil, Nat.zero_add, Nat.add_sub_cancel, last_take]
                rfl
              · have b9 : (l[pc].1 == 9) = false := by simp [k9]
                rw [b9] at go stop
                by_cases k10 : l[pc].1 = 10
                · have b : (l[pc].1 == 10) = true := by simp [k10]
                  rw [b] at go stop
                  simp only [b5, b6, b7, b8, b9, b, cond_true, cond_false]
                  by_cases hne : s.marks = []
                  · have he : s.marks.isEmpty = true := by rw [hne]; rfl
                    rw [he] at stop
                    have e3 : (ilen (s.marks.map (cmk mp ct s)) == 0) = true := by rw [hne]; rfl
                    rw [e3]
                    simp only [icopy_run (N := N) (ct := ct) hc0 hmp, ret, Option.bind_some]
                    exact stop pc { s with cells := undo s.cells s.log, log := [], back := s.back + s.log.length } rfl
                  · have he : s.marks.isEmpty = false := by cases hm : s.marks with | nil => exact absurd hm hne | cons a b => rfl
                    rw [he] at go
                    obtain ⟨m, q, x, hq, ht, hx, ⟨hm, h8⟩, hmate, hge, hst, hqm⟩ := top_of hc h hne
                    have hxm : x ∈ s.marks := by rw [hq]; simp
                    obtain ⟨x1, x2, x3⟩ := h.mr x hxm
                    have o8 := ok_8 (hc.ok m hm).1 h8
                    have hlast : ∀ y ∈ q, y.2.1 ≤ x.2.1 := by
                      have := h.mo
                      rw [hq] at this
                      exact fun y hy => (List.pairwise_append.1 this).2.2 y hy x (by simp)
                    have hqy : ∀ y ∈ q, 0 ≤ y.2.1 := fun y hy => (h.mr y (by rw [hq]; simp [hy])).2.1
                    rw [ht] at go
                    rw [hq] at go ⊢
                    rw [hq] at hml
                    have hql : (q.map (cmk mp ct s)).length < 1000 := by rw [List.length_append] at hml; simp; omega
                    have e3 : (ilen (q.map (cmk mp ct s) ++ [cmk mp ct s x]) == 0) = false := by
                      have : ilen (q.map (cmk mp ct s) ++ [cmk mp ct s x]) ≠ 0 := by unfold ilen; rw [List.length_append]; simp; omega
                      simpa using this
                    have hml2 := hmate.len
                    have hu := undo_ok h.cl (l := s.log.drop x.2.1.toNat) fun r hr => hlg.1 r (List.mem_of_mem_drop hr)
                    have c1 : (cmk mp ct s x).1 = (m : Int) := hx
                    have c2 : (cmk mp ct s x).2.1 = x.2.2 := rfl
                    have c3 : (cmk mp ct s x).2.2 = (undo s.cells (s.log.drop x.2.1.toNat), (mp, ct)) := rfl
                    have r1 : room (([] : List Int).length + x.2.2.length) = true := room_le (by rw [x1.len]; simp)
                    simp only [List.map_append, List.map_cons, List.map_nil]
                    simp only [e3, last_len hql, cond_false, last_inb, Int.toNat_natCast, last_get, last_take, last_cut3, cond_true, c1, c2, c3, Option.bind_some, ix_inb hm, opAt_get, opAt_lt hm, en, reg_inb o8 x1.len,
                      implEnd_run (N := N) (l := l) (by omega) hN ⟨hm, h8⟩ hmate, ret, ix_succ (show mt l m < 4611686018427387904 by omega)]
                    refine Eq.trans ?_ (go _ _ rfl)
                    simp only [hx, Int.toNat_natCast, opAt_lt hm, List.length_append, List.length_cons, List.length_nil, Nat.zero_add, Nat.add_sub_cancel, last_take]
                    congr 1
                    apply List.map_congr_left
                    intro y hy
                    unfold cmk
                    simp only []
                    rw [undo_cut (by have := hlast y hy; omega) (by omega)]
                · omega
    · have e : pc = l.length := by omega
      subst e
      simp only [Zh, ix_ge (Nat.le_refl l.length), cond_false]
      rw [eRun]
      simp
theorem implSerKid_run {regs cells : List Int} (hN : 1048576 < N) (hl : l.length ≤ 1048576) (hr : regs.length ≤ 1048576) (hc : cells.length ≤ 1048576) :
    Zfb N l regs cells = some ((), ((eagOf l regs cells).1, ((eagOf l regs cells).2.1, ((eagOf l regs cells).2.2.1, ())))) := by
  unfold Zfb eagOf
  simp only [implKid_run hl hN, implRegs_run hr hN, implVals_run hc hN, ret, Option.bind_some]
  cases h1 : kidOk l
  · rfl
  · cases h2 : regsOk regs
    · rfl
    · cases h3 : valsOk cells
      · rfl
      · have kc := kc_of h1
        have v2 := regs_iff.1 h2
        have v3 := vals_iff.1 h3
        have ki := ks0_inv (l := l) v2 v3
        obtain ⟨M, rfl⟩ : ∃ M, N = M + 1 := ⟨N - 1, by omega⟩
        have e8 : (((decide ((0 : Int) ≤ (8 : Int))) && (decide ((8 : Int) ≤ (8 : Int)))) && (room (Int.toNat (8 : Int)))) = true := rfl
        have hmp : (List.replicate (Int.toNat 8) (0 : Int)).length ≤ 1000 := by decide
        have cp := icopy_run (N := M + 1) (c := cells) (mp := List.replicate (Int.toNat 8) (0 : Int)) (ct := 0) (by rw [v3.len]; omega) hmp
        simp only [Bool.not_true, cond_false, e8, cond_true]
        unfold Znc Zan
        simp only [cp, copyInts_run hr, ret, Option.bind_some, cond_true]
        have key := ser_lp (N := M + 1) (l := l) (R := Unit × ((Int × List Int × List Int × List Int × Int) × Unit)) hN kc (rec := Zan (M + 1) M) (kids := []) (order := []) (mp := List.replicate (Int.toNat 8) (0 : Int)) (c0 := cells) (ct := 0) hmp (by rw [v3.len]; omega)
          (fun b207 l208 l209 l210 => (some ((), (((2 : Int), (l208, (l209, (l210, b207)))), ())))) (fun r b c m => (some ((), (((1 : Int), (r, (c, (m, b)))), ())))) (M + 1) 0 (ks0 regs cells) ki (by have := kc.len; omega)
        have hu := run_undo kc (l.length + 1) 0 _ ki
        have hi := (eRun_inv kc (l.length + 1) 0 _ ki).2.2.2.2.1
        rw [fuelN kc ki hN] at key
        have key' : Zh (M + 1) (Zan (M + 1) M) l [] [] (cells, (List.replicate (Int.toNat 8) (0 : Int), 0)) (fun b207 l208 l209 l210 => (some ((), (((2 : Int), (l208, (l209, (l210, b207)))), ())) : Option (Unit × ((Int × List Int × List Int × List Int × Int) × Unit)))) (fun i211 t212 l213 b214 l215 l216 l217 => (some ((), (((1 : Int), (l213, (l216, (l217, b214)))), ())))) (M + 1) 0 regs 0 [] cells (List.replicate (Int.toNat 8) (0 : Int)) = _ := key
        simp only [key', Bool.and_true, cond_true]
        generalize eRun l (l.length + 1) 0 (ks0 regs cells) = f at hu hi
        obtain ⟨b, s⟩ := f
        cases b
        · rfl
        · have hi' : s.log = [] := hi rfl
          have hu' : undo s.cells s.log = cells := hu
          rw [hi'] at hu'
          have hu2 : s.cells = cells := hu'
          simp only [cond_true, Option.bind_some, hu2]
end
end Go.Sx
