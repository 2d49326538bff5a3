/- Plain laws of the Lean functions. -/
import Derived.Test.YtfajigbmoebkaaaGreatMW1CurA

namespace Go.Sx
set_option linter.unusedVariables false
set_option linter.unusedSimpArgs false
theorem once_draw {N:Nat} {c:Cur} {n:Int} (h:Wbp c):Draws (fun _=>True) (Zw N c n):=by
 unfold Zw
 obtain ⟨c1,v,e1,hc,hv⟩:=Wnj (N:=N) (n:=n) h
 rw [e1]
 exact ⟨_,_,rfl,hc,trivial⟩
theorem pick_draw {N:Nat} {c:Cur} {l:List Int} (h:Wbp c) (hl:0 < l.length) (hl2:l.length < 4611686018427387904):Draws (fun v=>v ∈ l) (Zbo N c l):=by
 unfold Zbo
 obtain ⟨c1,v,e1,hc,hv⟩:=Wnj (N:=N) (n:=ilen l) h
 rw [e1]
 have hv:=hv.2 (by unfold ilen; omega)
 unfold ilen at hv
 obtain ⟨q,rfl⟩:=Int.eq_ofNat_of_zero_le hv.1
 have hq:q < l.length:=by omega
 simp only [Option.bind_some,Wp hq,cond_true,Wu hq]
 exact ⟨_,_,rfl,hc,List.getElem_mem hq⟩
end Go.Sx
