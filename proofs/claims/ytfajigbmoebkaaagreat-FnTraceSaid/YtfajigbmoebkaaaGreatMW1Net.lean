/- Plain laws of the Lean functions. -/
import Derived.Test.YtfajigbmoebkaaaGreatMW1KC

namespace Go.Sx
set_option linter.unusedVariables false
set_option linter.unusedSimpArgs false
theorem Wth {l:List Rw} {c v:Int}:∀ (i:Nat),i ≤ l.length → Wpn l c i = some v → (c,v) ∈ l
 | 0,_,h=>by simp [Wpn] at h
 | i + 1,hi,h=>by
  unfold Wpn at h
  rw [Wm (show i < l.length by omega)] at h
  by_cases hc:l[i].1 = c
  ·rw [if_pos hc] at h
   injection h with h
   have:l[i] = (c,v):=by rw [← hc,← h]
   rw [← this]; exact List.getElem_mem _
  ·rw [if_neg hc] at h; exact Wth i (by omega) h
theorem Wqw {l:List Rw} {c v:Int} (h:Wfe l c = some v):Wcn l = true ∧ (c,v) ∈ l:=by
 unfold Wfe at h
 by_cases hr:Wcn l = true
 ·rw [if_pos hr] at h; exact ⟨hr,Wth _ (Nat.le_refl _) h⟩
 ·rw [if_neg hr] at h; cases h
theorem netGo_eq (l:List Rw):∀ (j c:Nat) (o:List Rw),Wwq l j c o = o ++ (List.range' c j).filterMap fun c:Nat=>(Wfe l (c:Int)).map fun v=>((c:Int),v)
 | 0,c,o=>by simp [Wwq]
 | j + 1,c,o=>by
  rw [Wwq,netGo_eq l j,List.range'_succ,List.filterMap_cons]
  unfold Wvt
  cases h:Wfe l (c:Int) <;> simp
theorem netR_eq (l:List Rw):netR l = (List.range' 0 8).filterMap fun c:Nat=>(Wfe l (c:Int)).map fun v=>((c:Int),v):=by unfold netR; rw [netGo_eq]; simp
theorem mem_netR {l:List Rw} {r:Rw}:r ∈ netR l ↔ (0 ≤ r.1 ∧ r.1 ≤ 7) ∧ Wfe l r.1 = some r.2:=by
 rw [netR_eq,List.mem_filterMap]
 constructor
 ·rintro ⟨c,hc,h⟩
  rw [List.mem_range'_1] at hc
  cases hl:Wfe l (c:Int) with
  | none=>rw [hl] at h; cases h
  | some v =>
   rw [hl] at h
   injection h with h
   subst h
   exact ⟨by show 0 ≤ (c:Int) ∧ (c:Int) ≤ 7; omega,hl⟩
 ·rintro ⟨h0,h⟩
  refine ⟨r.1.toNat,List.mem_range'_1.2 (by omega),?_⟩
  rw [show ((r.1.toNat:Nat):Int) = r.1 by omega,h]
  rfl
theorem netR_up (l:List Rw):(netR l).Pairwise fun a b=>a.1 < b.1:=by
 rw [netR_eq,List.pairwise_filterMap]
 refine List.Pairwise.imp ?_ (List.pairwise_lt_range' (s:=0) (n:=8))
 intro a b hab r hr r' hr'
 cases h1:Wfe l (a:Int) <;> rw [h1] at hr <;> simp at hr
 cases h2:Wfe l (b:Int) <;> rw [h2] at hr' <;> simp at hr'
 rw [← hr,← hr']
 simp; omega
theorem Wlz (l:List Rw):(netR l).length ≤ 8:=by
 rw [netR_eq]
 exact Nat.le_trans (List.length_filterMap_le _ _) (by simp)
theorem Wmv {l:List Rw}:Rows (netR l):=by
 intro r hr
 obtain ⟨h0,h1⟩:=mem_netR.1 hr
 obtain ⟨h2,h3⟩:=Wqw h1
 unfold Wcn at h2
 simp only [Bool.and_eq_true] at h2
 have:=(Wvz.1 h2.2) _ h3
 exact ⟨h0,this.2⟩
end Go.Sx
