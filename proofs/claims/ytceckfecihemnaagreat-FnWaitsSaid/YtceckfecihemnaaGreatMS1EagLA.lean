/- Plain laws of the Lean functions. -/
import Derived.Test.YtceckfecihemnaaGreatMS1EagR

namespace Go.Sx
set_option linter.unusedVariables false
set_option linter.unusedSimpArgs false
theorem eRun_inv {l : List Opn} (hc : KC l) : ∀ (n pc : Nat) (s : KS), KI l pc s → Vals 4 (eRun l n pc s).2.regs ∧ Vals 8 (eRun l n pc s).2.cells ∧ Rows (eRun l n pc s).2.log ∧ (eRun l n pc s).2.log.length ≤ 24 ∧ ((eRun l n pc s).1 = true → (eRun l n pc s).2.log = []) ∧
    (eRun l n pc s).2.reads.length ≤ 24 ∧ ∀ x ∈ (eRun l n pc s).2.reads, 0 ≤ x ∧ x ≤ 7
  | 0, pc, s, h => by
    have := h.pcl; have := hc.len; have := h.lg.2; have := h.rd.1
    exact ⟨h.rg, h.cl, h.lg.1, by simp only [eRun]; omega, fun h => by simp [eRun] at h, by simp only [eRun]; omega, h.rd.2⟩
  | n + 1, pc, s, h => by
    have hlen := hc.len
    have h1 := h.pcl; have h2 := h.lg.2; have h3 := h.rd.1
    rw [eRun]
    by_cases hp : pc < l.length
    · have e : decide (pc < l.length) = true := by simpa using hp
      obtain ⟨s1, s2⟩ := step_inv hc h hp
      rw [e]
      cases hb : (eStep l pc s).1
      · obtain ⟨a, b, c, d, f⟩ := s2 hb
        simp only [cond_true, cond_false]
        exact ⟨c, b, by rw [a]; exact fun r hr => by simp at hr, by rw [a]; simp, fun _ => a, d, f⟩
      · simp only [cond_true]
        exact eRun_inv hc n _ _ (s1 hb).2
    · have e : decide (pc < l.length) = false := by simpa using hp
      rw [e]
      exact ⟨h.rg, h.cl, h.lg.1, by simp only [cond_false]; omega, fun h => by simp at h, by simp only [cond_false]; omega, h.rd.2⟩
def ks0 (regs cells : List Int) : KS := ⟨regs, cells, [], 0, [], []⟩
theorem ks0_inv {l : List Opn} {regs cells : List Int} (hr : Vals 4 regs) (hc : Vals 8 cells) : KI l 0 (ks0 regs cells) where
  pcl := Nat.zero_le _
  rg := hr
  cl := hc
  lg := ⟨fun r h => by simp [ks0] at h, by simp [ks0]⟩
  mp := by simp [ks0, stk]
  mr := fun m h => by simp [ks0] at h
  mo := List.Pairwise.nil
  bk := by simp [ks0]
  rd := ⟨by simp [ks0], fun x h => by simp [ks0] at h⟩
abbrev Egr := Int × List Int × List Int × List Rw × Int
noncomputable def eagOf (l : List Opn) (regs cells : List Int) : Egr :=
  bif kidOk l && (regsOk regs && valsOk cells) then
    (fun f : Bool × KS => (bif f.1 then 2 else 1, f.2.regs, f.2.cells, f.2.log, f.2.back)) (eRun l (l.length + 1) 0 (ks0 regs cells))
  else (0, [], [], [], 0)
theorem eRun_fuel {l : List Opn} (hc : KC l) : ∀ (n k pc : Nat) (s : KS), KI l pc s → l.length - pc < n → eRun l (n + k) pc s = eRun l n pc s
  | 0, k, pc, s, h, hn => by omega
  | n + 1, k, pc, s, h, hn => by
    rw [show n + 1 + k = (n + k) + 1 by omega, eRun, eRun]
    by_cases hp : pc < l.length
    · obtain ⟨s1, s2⟩ := step_inv hc h hp
      cases hb : (eStep l pc s).1
      · rfl
      · obtain ⟨a, b⟩ := s1 hb
        rw [eRun_fuel hc n k _ _ b (by omega)]
    · have e : decide (pc < l.length) = false := by simpa using hp
      rw [e]; rfl
section
variable {N : Nat} {l : List Opn} {regs cells : List Int}
theorem fuelN (hc : KC l) {s : KS} (h : KI l 0 s) (hN : 1048576 < N) : eRun l N 0 s = eRun l (l.length + 1) 0 s := by
  have := hc.len
  obtain ⟨k, hk⟩ : ∃ k, N = l.length + 1 + k := ⟨N - (l.length + 1), by omega⟩
  rw [hk]
  exact eRun_fuel hc _ _ _ _ h (by omega)
theorem implKidOf_run (hN : 1048576 < N) (hl : l.length ≤ 1048576) (hr : regs.length ≤ 1048576) (hc : cells.length ≤ 1048576) :
    Zgq N l regs cells = some ((), ((regs, (cells, ([], (0, ([], []))))), (kidOk l && (regsOk regs && valsOk cells), ()))) := by
  unfold Zgq
  simp only [implKid_run hl hN, implRegs_run hr hN, implVals_run hc hN, copyInts_run hr, copyInts_run hc, ret, Option.bind_some]
  cases kidOk l <;> cases regsOk regs <;> rfl
theorem implEag_run (hN : 1048576 < N) (hl : l.length ≤ 1048576) (hr : regs.length ≤ 1048576) (hc : cells.length ≤ 1048576) : Zkc N l regs cells = ret (eagOf l regs cells) := by
  unfold Zkc eagOf
  rw [implKidOf_run hN hl hr hc]
  simp only [Option.bind_some]
  cases hk : kidOk l && (regsOk regs && valsOk cells)
  · rfl
  · simp only [Bool.and_eq_true] at hk
    have kc := kc_of hk.1
    have ki := ks0_inv (l := l) (regs_iff.1 hk.2.1) (vals_iff.1 hk.2.2)
    have key := implEag_lp (N := N) (R := (((List Int × List Int × List Rw × Int × List Mk × List Int) × Unit) × (Int × Unit))) hN kc (fun b35 l36 l37 l38 l39 l40 =>
      (some (((l36, (l37, (l38, (b35, (l39, l40))))), ()), ((2 : Int), ())))) (fun i41 t42 b43 l44 l45 l46 l47 l48 =>
      (some (((l44, (l45, (l46, (b43, (l47, l48))))), ()), ((1 : Int), ())))) N 0 (ks0 regs cells) ki (by have := kc.len; omega)
    simp only [Bool.not_true, cond_false, cond_true]
    unfold Za9
    have key' : Zs N l (fun b35 l36 l37 l38 l39 l40 =>
      (some (((l36, (l37, (l38, (b35, (l39, l40))))), ()), ((2 : Int), ())) : Option (((List Int × List Int × List Rw × Int × List Mk × List Int) × Unit) × (Int × Unit)))) (fun i41 t42 b43 l44 l45 l46 l47 l48 =>
      (some (((l44, (l45, (l46, (b43, (l47, l48))))), ()), ((1 : Int), ())))) N 0 0 regs cells [] [] [] = _ := key
    simp only [key', fuelN kc ki hN]
    cases (eRun l (l.length + 1) 0 (ks0 regs cells)).1 <;> rfl
theorem specEag_run (hN : 1048576 < N) (hl : l.length ≤ 1048576) (hr : regs.length ≤ 1048576) (hc : cells.length ≤ 1048576) : Zkb N l regs cells = ret (eagOf l regs cells) := by
  unfold Zkb eagOf
  simp only [specKid_run hl hN, specRegs_run hr hN, specVals_run hc hN, l15_run hr, l15_run hc, ret, Option.bind_some]
  cases h1 : kidOk l
  · rfl
  · cases h2 : regsOk regs
    · rfl
    · cases h3 : valsOk cells
      · rfl
      · have kc := kc_of h1
        have ki := ks0_inv (l := l) (regs_iff.1 h2) (vals_iff.1 h3)
        have key := specEag_lp (N := N) (R := Unit × (Egr × Unit)) hN kc (fun b54 l55 l56 l57 => (some ((), (((2 : Int), (l55, (l56, (l57, b54)))), ())))) (fun pc58 t59 b60 l61 l62 l63 l64 =>
          (some ((), (((1 : Int), (l62, (l63, (l64, b60)))), ())))) N 0 (ks0 regs cells) ki (by have := kc.len; omega)
        simp only [Bool.not_true, cond_false, cond_true, Bool.and_true]
        refine Eq.trans key ?_
        rw [fuelN kc ki hN]
        generalize eRun l (l.length + 1) 0 (ks0 regs cells) = f
        obtain ⟨b, s⟩ := f
        cases b <;> rfl
theorem eag_len (l : List Opn) (regs cells : List Int) : (eagOf l regs cells).2.1.length ≤ 24 ∧ (eagOf l regs cells).2.2.1.length ≤ 24 ∧ (eagOf l regs cells).2.2.2.1.length ≤ 24 := by
  unfold eagOf
  cases hk : kidOk l && (regsOk regs && valsOk cells)
  · exact ⟨by simp, by simp, by simp⟩
  · simp only [Bool.and_eq_true] at hk
    obtain ⟨a, b, c, d, _⟩ := eRun_inv (kc_of hk.1) (l.length + 1) 0 _ (ks0_inv (l := l) (regs_iff.1 hk.2.1) (vals_iff.1 hk.2.2))
    exact ⟨by simp only [cond_true]; rw [a.len]; omega, by simp only [cond_true]; rw [b.len]; omega, d⟩
end
end Go.Sx
