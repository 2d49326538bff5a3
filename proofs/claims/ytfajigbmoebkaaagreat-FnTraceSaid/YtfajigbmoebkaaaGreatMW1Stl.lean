/- Plain laws of the Lean functions. -/
import Derived.Test.YtfajigbmoebkaaaGreatMW1Sm

namespace Go.Sx
set_option linter.unusedVariables false
set_option linter.unusedSimpArgs false
def stl (x:Rt):Bool:=decide (x.phase = 8) || ((decide (x.phase = 5) && (decide (x.cm.phase = 4) || decide (x.cm.phase = 5))) || ((decide (x.phase = 6) || decide (x.phase = 7)) && decide (x.fate ≠ 0)))
def stampO (x:Rt):Int:=if stl x = true then (if x.phase = 5 then x.cm.wv else x.stamp) else 0
structure Stay (x y:Rt):Prop where
 tries:x.tries ≤ y.tries
 st:stl x = true → stl y = true ∧ stampO y = stampO x ∧ y.fate = x.fate ∧ y.regs = x.regs ∧ y.order = x.order
section
variable {w:Wo} {x y z:Rt} {k:Nat} {p:Pg} {n:Int} {o:Opn}
theorem Stay.trans (h:Stay x y) (h':Stay y z):Stay x z :=
 ⟨Int.le_trans h.tries h'.tries,fun hs=>by
  obtain ⟨a,b,c,d,e⟩:=h.st hs
  obtain ⟨a',b',c',d',e'⟩:=h'.st a
  exact ⟨a',b'.trans b,c'.trans c,d'.trans d,e'.trans e⟩⟩
end
structure WStay (w v:Wo):Prop where
 len:w.roots.length = v.roots.length
 root:∀ (i:Nat) (h:i < w.roots.length) (h':i < v.roots.length),Stay w.roots[i] v.roots[i]
 hist:∃ l,v.hist = w.hist ++ l
 clock:w.mem.1 ≤ v.mem.1
section
variable {s:Sc} {w v u:Wo} {n:Int} {a:Ac} {k:Nat}
theorem WStay.trans (h:WStay w v) (h':WStay v u):WStay w u:=by
 obtain ⟨l,hl⟩:=h.hist
 obtain ⟨l',hl'⟩:=h'.hist
 exact ⟨h.len.trans h'.len,fun i a b=>(h.root i a (by rw [← h.len]; exact a)).trans (h'.root i (by rw [← h.len]; exact a) b),⟨l ++ l',by rw [hl',hl,List.append_assoc]⟩,Int.le_trans h.clock h'.clock⟩
theorem rRoots (h:WOk s.2.1 n w) (hk:k < w.roots.length):(Wur { w with now:=w.now + 1 } w.roots[k] k (s.2.1.getD k pg0)).1.roots = w.roots :=
 (rStep_ok (w:={ w with now:=w.now + 1 }) (k:=k) (pg_get h.progs (by rw [← h.len]; exact hk)) ⟨h.mem,h.shelf,h.holds⟩ (h.root k hk) (by have:=h.l4; have:=h.len; omega) h.n0).roots
end
end Go.Sx
