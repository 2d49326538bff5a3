/- Plain laws of the Lean functions. -/
import Derived.Test.YtfbomdanghhgcaaMS1DrawB
/- Plain law: written in place with a log, code does what it does on a copy, and goes back by its log. -/
namespace Go.Sx
set_option linter.unusedVariables false
set_option linter.unusedSimpArgs false

theorem sameInts_self {N : Nat} {a : List Int} (ha : a.length ≤ 1048576) (hN : 1048576 < N) : T_laws_sameInts N a a = ret true := by
  unfold T_laws_sameInts
  have e : (ilen a != ilen a) = false := by simp
  rw [e]
  simp only [cond_false]
  have h1 := loop_ix0 (l := a) (V := Unit) (R := Unit × (Bool × Unit)) (lp := fun n j _ => T_laws_sameInts_lp0 N a a (some ((), (false, ()))) (fun i8 t9 => some ((), (true, ()))) n j) (n := N) (by omega)
    (body := fun j x v k => k v) (K := fun _ v => some ((), (true, ())))
    (fun n i v hi => by
      have e2 : (a[i] != a[i]) = false := by simp
      simp only [T_laws_sameInts_lp0, ix_lt hi, ix_inb hi, ix_get hi, ix_succ (show i < 4611686018427387904 by omega), cond_true, e2, cond_false])
    (fun n v => by simp only [T_laws_sameInts_lp0, ix_ge (Nat.le_refl a.length), cond_false]) ()
  refine h1.trans ?_
  rw [foldK_fold (f := fun v _ => v) a 0 () (fun j x v k _ => rfl)]

theorem at_run {N : Nat} {code : List Int} (hw : ∀ x ∈ code, 0 ≤ x ∧ x ≤ 255) (hl : code.length ≤ 1048576) {i : Nat} (hi : i ≤ 1000) : ∃ v, T_laws_at N code (i : Int) = ret v ∧ 0 ≤ v ∧ v ≤ 255 := by
  unfold T_laws_at
  by_cases h : i < code.length
  · have hx := hw _ (List.getElem_mem h)
    refine ⟨code[i], ?_, hx⟩
    simp only [ix_lt h, ix_inb h, ix_get h, cond_true]
    rw [wrap_i64 (by unfold I64; omega)]
  · have e : decide ((i : Int) < ilen code) = false := by simp [ilen]; omega
    have m1 : imul .i64 (i : Int) 37 = (i : Int) * 37 := imul_eq (by unfold I64; omega)
    have m2 : imul .i64 (ilen code) 11 = (code.length : Int) * 11 := imul_eq (by unfold I64 ilen; omega)
    have m3 : iadd .i64 ((i : Int) * 37) ((code.length : Int) * 11) = (i : Int) * 37 + (code.length : Int) * 11 := iadd_eq (by unfold I64; omega)
    rw [e, m1, m2, m3]
    refine ⟨_, rfl, ?_⟩
    have : irem ((i : Int) * 37 + (code.length : Int) * 11) 256 = ((i : Int) * 37 + (code.length : Int) * 11) % 256 := by unfold irem; exact Int.tmod_eq_emod_of_nonneg (by omega)
    rw [this]; omega

theorem eag_cases (l : List Opn) (regs cells : List Int) : eagOf l regs cells = (0, [], [], [], 0) ∨
    (((eagOf l regs cells).1 = 1 ∨ ((eagOf l regs cells).1 = 2 ∧ (eagOf l regs cells).2.2.2.1 = [])) ∧ Vals 8 (eagOf l regs cells).2.2.1 ∧ Rows (eagOf l regs cells).2.2.2.1 ∧ undo (eagOf l regs cells).2.2.1 (eagOf l regs cells).2.2.2.1 = cells) := by
  unfold eagOf
  cases hk : kidOk l && (regsOk regs && valsOk cells)
  · exact .inl rfl
  · right
    simp only [Bool.and_eq_true] at hk
    have kc := kc_of hk.1
    have ki := ks0_inv (l := l) (regs_iff.1 hk.2.1) (vals_iff.1 hk.2.2)
    obtain ⟨a, b, c, d, e, _⟩ := eRun_inv kc (l.length + 1) 0 _ ki
    have hu := run_undo kc (l.length + 1) 0 _ ki
    simp only [cond_true]
    refine ⟨?_, b, c, hu⟩
    cases hb : (eRun l (l.length + 1) 0 (ks0 regs cells)).1
    · exact .inl rfl
    · exact .inr ⟨rfl, e hb⟩

section
variable {N : Nat}
theorem back_run {c : List Int} {log : List Rw} (hN : 1048576 < N) (hc : Vals 8 c) (hr : Rows log) (hl : log.length ≤ 300) : T_impl_EagerBack N c log = ret (undo c log) := by
  unfold T_impl_EagerBack
  have h := (cut_run (N := N) (m := 0) hc hr hl (by omega) hN).2
  have h' : T_impl_EagerCut N c log 0 = some ((), (undo c log, ([], ()))) := h
  rw [h']; rfl

theorem law_Eager {code : List Int} (hw : ∀ x ∈ code, 0 ≤ x ∧ x ≤ 255) (hN : 1048576 < N) : T_laws_FnEager N code = ret true := by
  unfold T_laws_FnEager T_laws_big
  simp only [Option.bind_some]
  by_cases hb : code.length ≤ 1048576
  · have e0 : decide (ilen code > 1048576) = false := by simp [ilen]; omega
    obtain ⟨l, r, v, hd, hl, hr, hv⟩ := drawEager_run hN hb
    rw [e0]
    simp only [cond_false, hd, Option.bind_some, implEag_run (l := l) (regs := r) (cells := v) hN (by omega) (by omega) (by omega), serKid_run (l := l) (regs := r) (cells := v) hN (by omega) (by omega) (by omega), ret]
    obtain ⟨b1, b2, b3⟩ := eag_len l r v
    have hcs := eag_cases l r v
    generalize eagOf l r v = e at b1 b2 b3 hcs
    have q0 : (e.1 != e.1) = false := by simp
    simp only [q0, cond_false, sameInts_self (a := e.2.1) (by omega) hN, sameInts_self (a := e.2.2.1) (by omega) hN, ret, Option.bind_some, Bool.not_true]
    rcases hcs with rfl | ⟨ho, hc, hrw, hu⟩
    · rfl
    · have q1 : (e.1 == 0) = false := by
        rcases ho with ho | ⟨ho, _⟩ <;> rw [ho] <;> rfl
      have hfin : (bif e.1 == 1 then some ((), (true, ())) else some ((), (ilen e.2.2.2.1 == 0, ())) : Option (Unit × (Bool × Unit))) = some ((), (true, ())) := by
        rcases ho with ho | ⟨ho, hlog⟩
        · rw [ho]; rfl
        · rw [ho, hlog]; rfl
      have hback := back_run (N := N) hN hc hrw (by omega)
      rw [hu] at hback
      simp only [q1, cond_false, hback, ret, Option.bind_some, sameInts_self (a := v) (by omega) hN, cond_true]
      by_cases hz : e.2.2.2.1.length = 0
      · have g1 : decide (ilen e.2.2.2.1 > 0) = false := by simp [ilen, hz]
        have hc0 := (cut_run (N := N) (m := 0) hc hrw (by omega) (by omega) hN).2
        have hc0' : T_impl_EagerCut N e.2.2.1 e.2.2.2.1 0 = some ((), (undo e.2.2.1 e.2.2.2.1, ([], ()))) := hc0
        have hb0 : T_impl_EagerBack N (undo e.2.2.1 e.2.2.2.1) [] = ret v := by
          rw [back_run hN (undo_ok hc hrw) (fun r h => by simp at h) (by simp), hu]; rfl
        rw [g1]
        simp only [cond_false, hc0', Option.bind_some, hb0, ret, sameInts_self (a := v) (by omega) hN, cond_true]
        have g2 : (ilen ([] : List Rw) == 0) = true := rfl
        rw [g2]
        exact hfin
      · have g1 : decide (ilen e.2.2.2.1 > 0) = true := decide_eq_true (by unfold ilen; omega)
        obtain ⟨a, ha, ha0, ha1⟩ := at_run (N := N) (i := 0) hw hb (by omega)
        have ha' : T_laws_at N code 0 = ret a := ha
        have g3 : iadd .i64 (ilen e.2.2.2.1) 1 = (e.2.2.2.1.length : Int) + 1 := iadd_eq (by unfold I64 ilen; omega)
        have g4 : inz ((e.2.2.2.1.length : Int) + 1) = true := by unfold inz; simp; omega
        have hk := irem_pos (v := a) (n := (e.2.2.2.1.length : Int) + 1) ha0 (by omega)
        obtain ⟨k, hk'⟩ := Int.eq_ofNat_of_zero_le hk.1
        have hkl : k ≤ e.2.2.2.1.length := by omega
        have hck := (cut_run (N := N) (m := k) hc hrw (by omega) hkl hN).2
        have hb2 : T_impl_EagerBack N (undo e.2.2.1 (e.2.2.2.1.drop k)) (e.2.2.2.1.take k) = ret v := by
          rw [back_run hN (undo_ok hc fun r h => hrw r (List.mem_of_mem_drop h)) (fun r h => hrw r (List.mem_of_mem_take h)) (by rw [List.length_take]; omega), ← undo_append, List.take_append_drop, hu]
        rw [g1]
        simp only [cond_true, ha', ret, Option.bind_some, g3, g4, hk', hck, hb2, sameInts_self (a := v) (by omega) hN]
        have g2 : (ilen (e.2.2.2.1.take k) == (k : Int)) = true := by
          have : ilen (e.2.2.2.1.take k) = (k : Int) := by unfold ilen; rw [List.length_take]; omega
          simp [this]
        rw [g2]
        exact hfin
  · have e0 : decide (ilen code > 1048576) = true := by simp [ilen]; omega
    rw [e0]; rfl
end

theorem law_FnEager (d : PDen [.v (.slice (.int .u8)) false]) (hw : WfArgs [.v (.slice (.int .u8)) false] d) : ∃ N o, T_laws_FnEager N d.1 = some (o, (true, ())) :=
  ⟨1048577, (), law_Eager (N := 1048577) (fun x hx => bounds_u8 (hw.1.2 x hx)) (by omega)⟩
end Go.Sx
