/- Plain laws of the Lean functions. -/
import Derived.Test.YtceckfecihemnaaMS1Jf

namespace Go.Sx
set_option linter.unusedVariables false
set_option linter.unusedSimpArgs false
theorem sameIntsJ {N : Nat} {a : List Int} (ha : a.length ≤ 1048576) (hN : 1048576 < N) : Zs N a a = ret true := by
  unfold Zs
  have e : (ilen a != ilen a) = false := by simp
  rw [e]
  simp only [cond_false]
  have h1 := loop_ix0 (l := a) (V := Unit) (R := Unit × (Bool × Unit)) (lp := fun n j _ => Zap N a a (some ((), (false, ()))) (fun i8 t9 => some ((), (true, ()))) n j) (n := N) (by omega)
    (body := fun j x v k => k v) (K := fun _ v => some ((), (true, ())))
    (fun n i v hi => by
      have e2 : (a[i] != a[i]) = false := by simp
      simp only [Zap, ix_lt hi, ix_inb hi, ix_get hi, ix_succ (show i < 4611686018427387904 by omega), cond_true, e2, cond_false])
    (fun n v => by simp only [Zap, ix_ge (Nat.le_refl a.length), cond_false]) ()
  refine h1.trans ?_
  rw [foldK_fold (f := fun v _ => v) a 0 () (fun j x v k _ => rfl)]
theorem atJ {N : Nat} {code : List Int} (hw : ∀ x ∈ code, 0 ≤ x ∧ x ≤ 255) (hl : code.length ≤ 1048576) {i : Nat} (hi : i ≤ 1000) : ∃ v, Zeo N code (i : Int) = ret v ∧ 0 ≤ v ∧ v ≤ 255 := by
  unfold Zeo
  by_cases h : i < code.length
  · have hx := hw _ (List.getElem_mem h)
    refine ⟨code[i], ?_, hx⟩
    simp only [ix_lt h, ix_inb h, ix_get h, cond_true]
    rw [wrap_i64 (by unfold I64; omega)]
  · have e : decide ((i : Int) < ilen code) = false := by simp [ilen]; omega
    have m1 : imul .i64 (i : Int) 37 = (i : Int) * 37 := imul_eq (by unfold I64; omega)
    have m2 : imul .i64 (ilen code) 11 = (code.length : Int) * 11 := imul_eq (by unfold I64 ilen; omega)
    have m3 : iadd .i64 ((i : Int) * 37) ((code.length : Int) * 11) = (i : Int) * 37 + (code.length : Int) * 11 := iadd_eq (by unfold I64; omega)
    rw [e, m1, m2, m3]
    refine ⟨_, rfl, ?_⟩
    have : irem ((i : Int) * 37 + (code.length : Int) * 11) 256 = ((i : Int) * 37 + (code.length : Int) * 11) % 256 := by unfold irem; exact Int.tmod_eq_emod_of_nonneg (by omega)
    rw [this]; omega
theorem jtail {N : Nat} {code : List Int} {s : List UInt8} {l : List Wr} {k : Nat} (hcode : code.length ≤ 1048576) (hs : s.length ≤ 5000) (hl : (jr 200 0 s).1 = l) (hk : k ≤ s.length) (hN : 1048576 < N) :
    (bif (decide ((0 : Int) ≤ (k : Int))) && (decide ((k : Int) ≤ ((List.length s) : Int))) then
 ((Zn N (List.take (Int.toNat (k : Int)) s)).bind fun o10 =>
 (bif decide (o10.2.2.1 > (k : Int)) then
 (some ((), (false, ())))
 else
 (bif decide ((ilen o10.2.1) > (ilen l)) then
 (some ((), (false, ())))
 else
 (bif (decide ((0 : Int) ≤ (ilen o10.2.1))) && (decide ((ilen o10.2.1) ≤ ((List.length l) : Int))) then
 ((Zo N o10.2.1 (List.take (Int.toNat (ilen o10.2.1)) l)).bind fun o11 =>
 (bif !o11.2.1 then
 (some ((), (false, ())))
 else
 (bif (decide ((0 : Int) ≤ (k : Int))) && (decide ((k : Int) ≤ ((List.length s) : Int))) then
 ((Zbr N (List.take (Int.toNat (k : Int)) s) ((999999 : Int), ((1 : Int), [((3 : Int), (7 : Int))]))).bind fun o12 =>
 ((Zn N o12.2.1).bind fun o13 =>
 ((Zbl N code).bind fun o14 =>
 (bif (ilen o14.2.1) != (8 : Int) then
 ((Zl N o14.2.1 s).bind fun o15 =>
 (some ((), ((ilen o15.2.1) == (0 : Int), ()))))
 else
 (bif decide ((ilen o10.2.1) ≥ (200 : Int)) then
 (some ((), (!o12.2.2.1, ())))
 else
 (bif decide ((ilen o10.2.1) > (0 : Int)) then
 (bif inb (isub .i64 (ilen o10.2.1) (1 : Int)) (List.length o10.2.1) then
 (bif decide ((List.getD o10.2.1 (Int.toNat (isub .i64 (ilen o10.2.1) (1 : Int))) ((0 : Int), ((0 : Int), ([] : List (Int × Int))))).1 ≥ (999999 : Int)) then
 (some ((), (!o12.2.2.1, ())))
 else
 (bif o12.2.2.1 then
 (bif (ilen o13.2.1) == (iadd .i64 (ilen o10.2.1) (1 : Int)) then
 (bif (decide ((0 : Int) ≤ (ilen o10.2.1))) && (decide ((ilen o10.2.1) ≤ ((List.length o13.2.1) : Int))) then
 ((Zo N (List.take (Int.toNat (ilen o10.2.1)) o13.2.1) o10.2.1).bind fun o16 =>
 (bif o16.2.1 then
 (bif inb (ilen o10.2.1) (List.length o13.2.1) then
 (bif (List.getD o13.2.1 (Int.toNat (ilen o10.2.1)) ((0 : Int), ((0 : Int), ([] : List (Int × Int))))).1 == (999999 : Int) then
 ((Zl N o14.2.1 s).bind fun o17 =>
 ((Zx N o14.2.1 l (1000000 : Int)).bind fun o18 =>
 ((Zs N o17.2.1 o18.2.1).bind fun o19 =>
 (some ((), (o19.2.1, ()))))))
 else
 (some ((), (false, ())))) else none)
 else
 (some ((), (false, ()))))) else none)
 else
 (some ((), (false, ()))))
 else
 (some ((), (false, ()))))) else none)
 else
 (bif o12.2.2.1 then
 (bif (ilen o13.2.1) == (iadd .i64 (ilen o10.2.1) (1 : Int)) then
 (bif (decide ((0 : Int) ≤ (ilen o10.2.1))) && (decide ((ilen o10.2.1) ≤ ((List.length o13.2.1) : Int))) then
 ((Zo N (List.take (Int.toNat (ilen o10.2.1)) o13.2.1) o10.2.1).bind fun o20 =>
 (bif o20.2.1 then
 (bif inb (ilen o10.2.1) (List.length o13.2.1) then
 (bif (List.getD o13.2.1 (Int.toNat (ilen o10.2.1)) ((0 : Int), ((0 : Int), ([] : List (Int × Int))))).1 == (999999 : Int) then
 ((Zl N o14.2.1 s).bind fun o21 =>
 ((Zx N o14.2.1 l (1000000 : Int)).bind fun o22 =>
 ((Zs N o21.2.1 o22.2.1).bind fun o23 =>
 (some ((), (o23.2.1, ()))))))
 else
 (some ((), (false, ())))) else none)
 else
 (some ((), (false, ()))))) else none)
 else
 (some ((), (false, ()))))
 else
 (some ((), (false, ())))))))))) else none))) else none)))) else none) = ret true := by
  have hst : (s.take k).length ≤ 5000 := by simp; omega
  have hjl := jr_le 200 0 (s.take k)
  obtain ⟨r, hr⟩ := jr_take 200 0 s k
  rw [hl] at hr
  have hP := jr_hist (s.take k)
  have hL : HistI l := hl ▸ jr_hist s
  have hadd := implAdd_run (N := N) (s := s.take k) (by omega) hN
  have hread := jadd_reads (s := s.take k)
  have hxl : (jadd (s.take k)).1.length ≤ 6000 := by
    unfold jadd
    have := fr_len (shW W9)
    split
    · simp only []; omega
    · simp; omega
  have hj2 : ((jadd (s.take k)).2 = false ↔ ((jr 200 0 (s.take k)).1.length = 200 ∨ 999999 ≤ lastOf 0 (jr 200 0 (s.take k)).1)) := by
    unfold jadd
    split
    · rename_i h; simp [h]
    · rename_i h; simp [h]
  generalize hx : jadd (s.take k) = x at hadd hread hxl hj2
  generalize hp : jr 200 0 (s.take k) = p at hjl hr hP hread hj2
  have hlen := hL.len
  have hplen := hP.len
  have hlp : l.length = p.1.length + r.length := by rw [hr]; simp
  have htake : l.take p.1.length = p.1 := by rw [hr]; simp
  obtain ⟨v, h, n, ed, hv8, hv⟩ := drawState_run (N := N) hN hcode
  rw [in_pre hk, Int.toNat_natCast, implJr_run (by omega) hN, hp]
  have c1 : decide (((p.2 : Nat) : Int) > (k : Int)) = false := by simp at hjl ⊢; omega
  have c2 : decide (ilen p.1 > ilen l) = false := decide_eq_false (by unfold ilen; omega)
  have c3 : (decide ((0 : Int) ≤ ilen p.1) && decide (ilen p.1 ≤ ((l.length : Nat) : Int))) = true := in_pre (k := p.1.length) (n := l.length) (by omega)
  have c4 : Int.toNat (ilen p.1) = p.1.length := toNat_ilen _
  simp only [cond_true, Option.bind_some, c1, c2, c3, c4, cond_false, htake]
  rw [sameHist_self (by omega) (fun w hw => by have := (hP.ok w hw).2; omega) hN]
  simp only [ret, Option.bind_some, Bool.not_true, cond_false, hadd, two]
  rw [implJr_run (by omega) hN, ed]
  simp only [Option.bind_some]
  rcases hv with hv | hv
  · have hvl := vals_len hv
    have c5 : (ilen v != 8) = false := by simp [ilen, hvl]
    rw [c5]
    simp only [cond_false]
    by_cases h200 : p.1.length = 200
    · have c6 : decide (ilen p.1 ≥ 200) = true := decide_eq_true (by unfold ilen; omega)
      have := hj2.2 (Or.inl h200)
      rw [c6, this]; rfl
    · have c6 : decide (ilen p.1 ≥ 200) = false := decide_eq_false (by unfold ilen; omega)
      rw [c6]
      simp only [cond_false]
      have fin : ¬ 999999 ≤ lastOf 0 p.1 → (bif x.2 then
         (bif (ilen (jr 200 0 x.1).1) == (iadd .i64 (ilen p.1) (1 : Int)) then
         (bif (decide ((0 : Int) ≤ (ilen p.1))) && (decide ((ilen p.1) ≤ ((List.length (jr 200 0 x.1).1) : Int))) then
         ((Zo N (List.take p.1.length (jr 200 0 x.1).1) p.1).bind fun o16 =>
         (bif o16.2.1 then
         (bif inb (ilen p.1) (List.length (jr 200 0 x.1).1) then
         (bif (List.getD (jr 200 0 x.1).1 p.1.length ((0 : Int), ((0 : Int), ([] : List (Int × Int))))).1 == (999999 : Int) then
         ((Zl N v s).bind fun o17 =>
         ((Zx N v l (1000000 : Int)).bind fun o18 =>
         ((Zs N o17.2.1 o18.2.1).bind fun o19 =>
         (some ((), (o19.2.1, ()))))))
         else
         (some ((), (false, ())))) else none)
         else
         (some ((), (false, ()))))) else none)
         else
         (some ((), (false, ()))))
         else
         (some ((), (false, ())))) = some ((), (true, ())) := by
        intro h9
        have hx2 : x.2 = true := by
          cases hx3 : x.2
          · rcases hj2.1 hx3 with h | h
            · omega
            · omega
          · rfl
        have hq := hread hx2
        have d1 : (ilen (p.1 ++ [W9]) == iadd .i64 (ilen p.1) 1) = true := by
          have : iadd .i64 (ilen p.1) 1 = ((p.1.length + 1 : Nat) : Int) := ix_succ (by omega)
          rw [this]; simp [ilen]
        have d2 : (decide ((0 : Int) ≤ ilen p.1) && decide (ilen p.1 ≤ (((p.1 ++ [W9]).length : Nat) : Int))) = true := in_pre (k := p.1.length) (by simp)
        have d3 : (p.1 ++ [W9]).take p.1.length = p.1 := by simp
        have d4 : inb (ilen p.1) (p.1 ++ [W9]).length = true := ix_inb (j := p.1.length) (by simp)
        have d5 : List.getD (p.1 ++ [W9]) p.1.length ((0 : Int), ((0 : Int), ([] : List (Int × Int)))) = W9 := by simp
        rw [hx2, hq, d1, d2, d3, d4, d5]
        simp only [cond_true]
        rw [sameHist_self (by omega) (fun w hw => by have := (hP.ok w hw).2; omega) hN, implState_run hv (by omega) hN, hl, stateAt_run hL hv hN]
        have hvf : valsOk (l.foldl stW v) = true := foldl_inv (P := fun v => valsOk v = true) _ _ hv fun y hy v hv => vals_stW hL hy hv
        have := vals_len hvf
        simp only [ret, Option.bind_some, cond_true]
        rw [sameIntsJ (by omega) hN]
        rfl
      by_cases h0 : 0 < p.1.length
      · have c7 : decide (ilen p.1 > 0) = true := decide_eq_true (by unfold ilen; omega)
        rw [c7, lenm1 h0 (by omega), ix_inb (show p.1.length - 1 < p.1.length by omega), ix_get (show p.1.length - 1 < p.1.length by omega), lastOf_get h0 0]
        simp only [cond_true]
        by_cases h9 : 999999 ≤ lastOf 0 p.1
        · have c8 : decide (lastOf 0 p.1 ≥ 999999) = true := decide_eq_true h9
          have := hj2.2 (Or.inr h9)
          rw [c8, this]; rfl
        · have c8 : decide (lastOf 0 p.1 ≥ 999999) = false := decide_eq_false h9
          rw [c8]
          exact fin h9
      · have c7 : decide (ilen p.1 > 0) = false := decide_eq_false (by unfold ilen; omega)
        rw [c7]
        have hnil : p.1 = [] := List.eq_nil_of_length_eq_zero (by omega)
        exact fin (by rw [hnil]; decide)
  · have c5 : (ilen v != 8) = true := by simp [ilen]; omega
    have hb : valsOk v = false := by
      cases h : valsOk v
      · rfl
      · exact absurd (vals_len h) hv
    rw [c5]
    simp only [cond_true]
    rw [implState_bad (by omega) hb hN]
    rfl
theorem law_J {N : Nat} {code : List Int} (hw : ∀ x ∈ code, 0 ≤ x ∧ x ≤ 255) (hN : 1048576 < N) : Zcw N code = ret true := by
  unfold Zcw Zi5
  simp only [Option.bind_some]
  by_cases hbig : code.length > 1048576
  · have e : decide (ilen code > 1048576) = true := decide_eq_true (by unfold ilen; omega)
    rw [e]; rfl
  · have e : decide (ilen code > 1048576) = false := decide_eq_false (by unfold ilen; omega)
    rw [e]
    simp only [cond_false]
    obtain ⟨s, es, hs⟩ := drawLog_run (N := N) hN (code := code) (by omega)
    have hh := jr_hist s
    have hle := jr_le 200 0 s
    have hlen := hh.len
    rw [es]
    simp only [ret, Option.bind_some]
    rw [implJr_run (by omega) hN, specJr_run (by omega) hN]
    simp only [Option.bind_some]
    have e2 : (((jr 200 0 s).2 : Int) != ((jr 200 0 s).2 : Int)) = false := by simp
    rw [e2, sameHist_self (by omega) (fun w hw => by have := (hh.ok w hw).2; omega) hN, histOk_run hh hN]
    simp only [ret, Option.bind_some, cond_false, Bool.not_true]
    generalize hl : (jr 200 0 s).1 = l
    generalize he : (jr 200 0 s).2 = e at hle
    by_cases h0 : 0 < e
    · have e3 : decide ((e : Int) > 0) = true := decide_eq_true (by omega)
      obtain ⟨v0, a0, b0⟩ := atJ (N := N) hw (show code.length ≤ 1048576 by omega) (i := 0) (by omega)
      obtain ⟨v1, a1, b1⟩ := atJ (N := N) hw (show code.length ≤ 1048576 by omega) (i := 1) (by omega)
      have a0 : Zeo N code 0 = ret v0 := a0
      have a1 : Zeo N code 1 = ret v1 := a1
      rw [e3, a0, a1]
      simp only [cond_true, ret, Option.bind_some]
      have m1 : imul .i64 v0 256 = v0 * 256 := imul_eq (by unfold I64; omega)
      have m2 : iadd .i64 (v0 * 256) v1 = v0 * 256 + v1 := iadd_eq (by unfold I64; omega)
      have m3 : iadd .i64 (e : Int) 1 = (e : Int) + 1 := iadd_eq (by unfold I64; omega)
      have mz : inz ((e : Int) + 1) = true := by unfold inz; simp; omega
      have hr := irem_pos (v := v0 * 256 + v1) (n := (e : Int) + 1) (by omega) (by omega)
      rw [m1, m2, m3, mz]
      simp only [cond_true]
      obtain ⟨k, hk⟩ := Int.eq_ofNat_of_zero_le hr.1
      rw [hk]
      rw [hk] at hr
      exact jtail (by omega) hs hl (by omega) hN
    · have e3 : decide ((e : Int) > 0) = false := decide_eq_false (by omega)
      rw [e3]
      simp only [cond_false]
      exact jtail (k := 0) (by omega) hs hl (by omega) hN
theorem law_FnJournal (d : PDen [.v (.slice (.int .u8)) false]) (hw : WfArgs [.v (.slice (.int .u8)) false] d) : ∃ N o, Zcw N d.1 = some (o, (true, ())) :=
  ⟨1048577, (), law_J (N := 1048577) (fun x hx => bounds_u8 (hw.1.2 x hx)) (by omega)⟩
end Go.Sx
