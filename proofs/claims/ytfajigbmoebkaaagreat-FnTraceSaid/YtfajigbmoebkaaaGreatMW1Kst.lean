/- Plain laws of the Lean functions. -/
import Derived.Test.YtfajigbmoebkaaaGreatMW1AltA

namespace Go.Sx
set_option linter.unusedVariables false
set_option linter.unusedSimpArgs false
section
variable {o:Opn}
theorem ok_calc (h:opOk o = true) (h1:1 ≤ o.1) (h4:o.1 ≤ 4):Wh o.2.1 = true ∧ (o.1 = 1 → Wct o.2.2.1 = true) ∧ (o.1 ≠ 1 → Wh o.2.2.1 = true ∧ Wh o.2.2.2 = true):=by
 obtain ⟨k,a,b,c⟩:=o
 simp only at h1 h4
 have:k = 1 ∨ k = 2 ∨ k = 3 ∨ k = 4:=by omega
 rcases this with rfl | rfl | rfl | rfl
 ·have:(Wh a && Wct b && (c == (0:Int))) = true:=h
  simp only [Bool.and_eq_true] at this
  exact ⟨this.1.1,fun _=>this.1.2,fun h=>absurd rfl h⟩
 all_goals
  have:(Wh a && Wh b && Wh c) = true:=h
  simp only [Bool.and_eq_true] at this
  exact ⟨this.1.1,fun h=>by simp at h,fun _=>⟨this.1.2,this.2⟩⟩
theorem ok_5 (h:opOk o = true) (h5:o.1 = 5):Wh o.2.1 = true ∧ Way o.2.2.1 = true:=by
 obtain ⟨k,a,b,c⟩:=o
 simp only at h5; subst h5
 have:(Wh a && Way b && (c == (0:Int))) = true:=h
 simp only [Bool.and_eq_true] at this
 exact this.1
theorem ok_6 (h:opOk o = true) (h5:o.1 = 6):Way o.2.1 = true ∧ Wh o.2.2.1 = true:=by
 obtain ⟨k,a,b,c⟩:=o
 simp only at h5; subst h5
 have:(Way a && Wh b && (c == (0:Int))) = true:=h
 simp only [Bool.and_eq_true] at this
 exact this.1
theorem ok_7 (h:opOk o = true) (h5:o.1 = 7):Wh o.2.1 = true ∧ 1 ≤ o.2.2.1 ∧ o.2.2.1 ≤ 20:=by
 obtain ⟨k,a,b,c⟩:=o
 simp only at h5; subst h5
 have:(Wh a && (decide (1 ≤ b) && decide (b ≤ 20)) && (c == (0:Int))) = true:=h
 simp only [Bool.and_eq_true,decide_eq_true_eq] at this
 exact ⟨this.1.1,this.1.2.1,this.1.2.2⟩
theorem ok_8 (h:opOk o = true) (h5:o.1 = 8):Wh o.2.1 = true:=by
 obtain ⟨k,a,b,c⟩:=o
 simp only at h5; subst h5
 have:(Wh a && (b == (0:Int)) && (c == (0:Int))) = true:=h
 simp only [Bool.and_eq_true] at this
 exact this.1.1
theorem ok_16 (h:opOk o = true):1 ≤ o.1 ∧ o.1 ≤ 16:=by
 by_cases hk:1 ≤ o.1 ∧ o.1 ≤ 16
 ·exact hk
 ·exfalso
  have e:∀ n:Int,1 ≤ n → n ≤ 16 → (o.1 == n) = false:=fun n h1 h2=>by simp; omega
  unfold opOk at h
  rw [e 1 (by omega) (by omega),e 2 (by omega) (by omega),e 3 (by omega) (by omega),e 4 (by omega) (by omega),e 5 (by omega) (by omega),e 6 (by omega) (by omega),e 7 (by omega) (by omega),e 8 (by omega) (by omega),
   e 9 (by omega) (by omega),e 10 (by omega) (by omega),e 11 (by omega) (by omega),e 12 (by omega) (by omega),e 13 (by omega) (by omega),e 14 (by omega) (by omega),e 15 (by omega) (by omega),e 16 (by omega) (by omega)] at h
  cases h
end
theorem Wcg {x:Int} {l:List Int} (h:Wh x = true) (hl:l.length = 4):inb x l.length = true:=by
 unfold Wh at h; simp at h
 unfold inb; simp; omega
structure Vals (n:Nat) (l:List Int):Prop where
 len:l.length = n
 val:∀ x ∈ l,0 ≤ x ∧ x ≤ 65535
theorem Vals.get {n:Nat} {l:List Int} (h:Vals n l) (i:Nat):0 ≤ l.getD i 0 ∧ l.getD i 0 ≤ 65535:=by
 by_cases hi:i < l.length
 ·rw [Wm hi]; exact h.val _ (List.getElem_mem hi)
 ·rw [List.getD_eq_getElem?_getD,List.getElem?_eq_none (by omega)]; simp
theorem Vals.set {n:Nat} {l:List Int} (h:Vals n l) (i:Nat) {x:Int} (hx:0 ≤ x ∧ x ≤ 65535):Vals n (l.set i x) :=
 ⟨by rw [List.length_set]; exact h.len,fun y hy=>by
  rcases List.mem_or_eq_of_mem_set hy with hy | hy
  ·exact h.val y hy
  ·rw [hy]; exact hx⟩
theorem Wci {x:Int}:Wct x = true ↔ 0 ≤ x ∧ x ≤ 65535:=by unfold Wct; simp
theorem Wjr {l:List Int}:Wkd l = true ↔ Vals 4 l:=by
 unfold Wkd
 rw [Bool.and_eq_true,decide_eq_true_eq,List.all_eq_true]
 exact ⟨fun h=>⟨h.1,fun x hx=>Wci.1 (h.2 x hx)⟩,fun h=>⟨h.len,fun x hx=>Wci.2 (h.val x hx)⟩⟩
theorem Wvr {l:List Int}:Wiq l = true ↔ Vals 8 l:=by
 unfold Wiq
 rw [Bool.and_eq_true,decide_eq_true_eq,List.all_eq_true]
 exact ⟨fun h=>⟨h.1,fun x hx=>Wci.1 (h.2 x hx)⟩,fun h=>⟨h.len,fun x hx=>Wci.2 (h.val x hx)⟩⟩
def calcF (o:Opn) (r:List Int):List Int :=
 bif o.1 == 1 then r.set o.2.1.toNat o.2.2.1 else
 bif o.1 == 2 then r.set o.2.1.toNat ((r.getD o.2.2.1.toNat 0 + r.getD o.2.2.2.toNat 0) % 65536) else
 bif o.1 == 3 then r.set o.2.1.toNat ((r.getD o.2.2.1.toNat 0 - r.getD o.2.2.2.toNat 0 + 65536) % 65536) else
 bif decide (r.getD o.2.2.1.toNat 0 < r.getD o.2.2.2.toNat 0) then r.set o.2.1.toNat 1 else r.set o.2.1.toNat 0
theorem Wek {x:Int} (h:0 ≤ x):irem x 65536 = x % 65536:=by unfold irem; exact Int.tmod_eq_emod_of_nonneg h
theorem Wuv {o:Opn} {r:List Int} (h:opOk o = true) (h1:1 ≤ o.1) (h4:o.1 ≤ 4) (hr:Vals 4 r):Vals 4 (calcF o r):=by
 obtain ⟨_,hv,_⟩:=ok_calc h h1 h4
 unfold calcF
 cases e1:o.1 == 1
 ·cases o.1 == 2
  ·cases o.1 == 3
   ·cases decide (r.getD o.2.2.1.toNat 0 < r.getD o.2.2.2.toNat 0)
    ·exact hr.set _ (by omega)
    ·exact hr.set _ (by omega)
   ·exact hr.set _ (by omega)
  ·exact hr.set _ (by omega)
 ·exact hr.set _ (Wci.1 (hv (by simpa using e1)))
section
variable {N:Nat} {o:Opn} {r:List Int}
theorem Woa (hN:1048576 < N) (h:opOk o = true) (h1:1 ≤ o.1) (h4:o.1 ≤ 4) (hr:Vals 4 r):Zmq N o r = some ((),(calcF o r,(true,()))):=by
 obtain ⟨ha,hv,hbc⟩:=ok_calc h h1 h4
 unfold Zmq Zx
 have e0:room r.length = true:=Ws (by rw [hr.len]; omega)
 have e4:decide (o.1 > 4) = false:=by simp; omega
 have e5:Wkd r = true:=Wjr.2 hr
 have ea:=Wcg ha hr.len
 have ez:inz 65536 = true:=rfl
 have gb:=hr.get o.2.2.1.toNat
 have gc:=hr.get o.2.2.2.toNat
 simp only [e0,cond_true,Option.bind_some,Wjk,ret,h,Bool.not_true,cond_false,e4,Wga (l:=r) (by rw [hr.len]; omega) hN,e5,ea,ez]
 unfold calcF
 by_cases k1:o.1 = 1
 ·have b:(o.1 == 1) = true:=by simp [k1]
  rw [b]; rfl
 ·have b:(o.1 == 1) = false:=by simp [k1]
  obtain ⟨hb,hc⟩:=hbc k1
  rw [b]
  simp only [cond_false,Wcg hb hr.len,Wcg hc hr.len,cond_true,List.length_set,ea]
  have s1:iadd .i64 (r.getD o.2.2.1.toNat 0) (r.getD o.2.2.2.toNat 0) = r.getD o.2.2.1.toNat 0 + r.getD o.2.2.2.toNat 0:=Wz (by unfold I64; omega)
  have s2:isub .i64 (r.getD o.2.2.1.toNat 0) (r.getD o.2.2.2.toNat 0) = r.getD o.2.2.1.toNat 0 - r.getD o.2.2.2.toNat 0:=Wap (by unfold I64; omega)
  have s3:iadd .i64 (r.getD o.2.2.1.toNat 0 - r.getD o.2.2.2.toNat 0) 65536 = r.getD o.2.2.1.toNat 0 - r.getD o.2.2.2.toNat 0 + 65536:=Wz (by unfold I64; omega)
  rw [s1,s2,s3,Wek (by omega),Wek (by omega)]
  cases o.1 == 2
  ·cases o.1 == 3
   ·simp only [cond_false,Wq,List.set_set]
    cases decide (r.getD o.2.2.1.toNat 0 < r.getD o.2.2.2.toNat 0) <;> rfl
   ·rfl
  ·rfl
end
def Rows (l:List Rw):Prop:=∀ r ∈ l,(0 ≤ r.1 ∧ r.1 ≤ 7) ∧ 0 ≤ r.2 ∧ r.2 ≤ 65535
theorem Wvz {l:List Rw}:l.all isRow = true ↔ Rows l:=by
 rw [List.all_eq_true]
 unfold Rows isRow Way Wct
 simp
theorem Wep {N:Nat} {l:List Int} (h:l.length ≤ 1048576):Zx N l = ret l:=by
 unfold Zx
 simp only [room_300 h,cond_true]
end Go.Sx
