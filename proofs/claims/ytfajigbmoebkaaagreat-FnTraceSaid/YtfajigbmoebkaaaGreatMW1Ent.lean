/- Plain laws of the Lean functions. -/
import Derived.Test.YtfajigbmoebkaaaGreatMW1Mem

namespace Go.Sx
set_option linter.unusedVariables false
set_option linter.unusedSimpArgs false
def Wvt (l:List Rw) (o:List Rw) (c:Nat):List Rw:=match Wfe l c with
 | none=>o
 | some v=>o ++ [((c:Int),v)]
def Wwq (l:List Rw):Nat → Nat → List Rw → List Rw
 | 0,_,o=>o
 | j + 1,c,o=>Wwq l j (c + 1) (Wvt l o c)
def netR (l:List Rw):List Rw:=Wwq l 8 0 []
theorem Wmw {N:Nat} {l:List Rw} (hl:l.length ≤ 1048576) (hN:1048576 < N):∀ (j n c:Nat) (o:List Rw),c + j = 8 → j < n → o.length ≤ c → Zgg N l (fun t11 t12 l13=>(some ((),(l13,())))) n (c:Int) o = ret (Wwq l j c o)
 | j,0,c,o,_,h,_=>by omega
 | 0,n + 1,c,o,h,_,_=>by
  have:c = 8:=by omega
  subst this; rfl
 | j + 1,n + 1,c,o,h,h1,ho=>by
  have e:decide ((c:Int) < 8) = true:=by simp; omega
  rw [Zgg,e,Wjg hl hN,Wi (by omega),Wwq,Wvt]
  simp only [cond_true]
  rcases Wfe l c with _ | v
  ·exact Wmw hl hN j n (c + 1) o (by omega) (by omega) (by omega)
  ·have er:room (o.length + [((c:Int),v)].length) = true:=Ws (by simp; omega)
   simp only [opI,Option.bind_some,cond_true,er]
   exact Wmw hl hN j n (c + 1) _ (by omega) (by omega) (by simp; omega)
theorem netGo_bad {l:List Rw} (h:Wcn l = false):∀ (j c:Nat) (o:List Rw),Wwq l j c o = o
 | 0,_,_=>rfl
 | j + 1,c,o=>by
  have e:Wfe l c = none:=by unfold Wfe; rw [h]; rfl
  rw [Wwq,Wvt,e]
  exact netGo_bad h j (c + 1) o
theorem Whf {N:Nat} {l:List Rw} (hl:l.length ≤ 1048576) (hN:1048576 < N):Zd1 N l = ret (netR l):=by
 unfold Zd1
 simp only [Wen hl hN,ret,Option.bind_some]
 cases h:Wcn l
 ·unfold netR; rw [netGo_bad h]; rfl
 ·exact Wmw hl hN 8 N 0 [] rfl (by omega) (by simp)
def fnd {α:Type} (p:α → Bool):List α → Nat → Option (Nat × α)
 | [],_=>none
 | x :: l,j=>bif p x then some (j,x) else fnd p l (j + 1)
theorem Wmm {α V R:Type} {body:Int → α → V → (V → Option R) → Option R} {K:Int → V → Option R} {p:α → Bool} {E:Int → α → Option R}:∀ (l:List α) (j:Nat) (v:V),(∀ (j:Nat) x v k,x ∈ l → body j x v k = bif p x then E j x else k v) →
  Wdv body K l j v = match fnd p l j with | some r=>E r.1 r.2 | none=>K ((j + l.length:Nat):Int) v
 | [],j,v,_=>rfl
 | x :: l,j,v,h=>by
  rw [Wdv,h j x v _ (List.mem_cons_self ..),fnd,Wmm l (j + 1) v fun j y v k hy=>h j y v k (List.mem_cons_of_mem _ hy)]
  cases p x
  ·simp only [cond_false]
   rw [List.length_cons,show j + 1 + l.length = j + (l.length + 1) by omega]
  ·rfl
theorem Wgj {α:Type} {p:α → Bool}:∀ {l:List α} {j:Nat} {r:Nat × α},fnd p l j = some r → p r.2 = true ∧ j ≤ r.1 ∧ r.1 < j + l.length ∧ l[r.1 - j]? = some r.2
 | [],j,r,h=>by cases h
 | x :: l,j,r,h=>by
  rw [fnd] at h
  cases hp:p x
  ·rw [hp] at h
   obtain ⟨h1,h2,h3,h4⟩:=Wgj (l:=l) h
   refine ⟨h1,by omega,by rw [List.length_cons]; omega,?_⟩
   obtain ⟨q,hq⟩:∃ q,r.1 - j = q + 1:=⟨r.1 - j - 1,by omega⟩
   rw [hq,List.getElem?_cons_succ]
   rw [show r.1 - (j + 1) = q by omega] at h4
   exact h4
  ·rw [hp] at h
   cases h
   exact ⟨hp,Nat.le_refl _,by simp,by simp⟩
theorem Wpe {α:Type} {p:α → Bool}:∀ {l:List α} {j:Nat},fnd p l j = none → ∀ x ∈ l,p x = false
 | [],j,h=>by simp
 | x :: l,j,h=>by
  rw [fnd] at h
  cases hp:p x
  ·rw [hp] at h
   intro y hy
   rcases List.mem_cons.1 hy with rfl | hy
   ·exact hp
   ·exact Wpe h y hy
  ·rw [hp] at h; cases h
abbrev En:=Int × Int × Int
def ent (b:List En) (c:Int):Option (Nat × En):=fnd (fun e=>e.1 == c) b 0
theorem Wli {N:Nat} {f:Y_Family} {c:Int} (hl:f.2.2.2.2.2.2.1.length ≤ 1048576) (hN:1048576 < N):Zck N f c = ret (match ent f.2.2.2.2.2.2.1 c with | some r=>(r.1:Int) | none=>-1):=by
 unfold Zck
 show ((Ze N f.2.2.2.2.2.2.1 c).bind _) = _
 generalize f.2.2.2.2.2.2.1 = b at hl
 unfold Ze ent
 have h1:=Wad (l:=b) (V:=Unit) (R:=(Int × Unit) × (Int × Unit)) (lp:=fun n j v=>Zg N b (fun t15 b16=>(some ((b16,()),(t15,())))) (fun t17 t18 b19=>(some ((b19,()),((-1:Int),())))) n j c) (n:=N) (by omega)
  (body:=fun j x v k=>bif x.1 == c then some ((c,()),(j,())) else k v) (K:=fun _ v=>some ((c,()),((-1:Int),())))
  (fun n i v hi=>by simp only [Zg,Zi9,Wba hi,Wp hi,Wu hi,Wi (show i < 4611686018427387904 by omega),cond_true,Option.bind_some])
  (fun n v=>by simp only [Zg,Wbj (Nat.le_refl b.length),cond_false]) ()
 rw [h1,Wmm (p:=fun e=>e.1 == c) (E:=fun j x=>some ((c,()),(j,()))) b 0 () (fun j x v k _=>rfl)]
 cases fnd (fun e:En=>e.1 == c) b 0 <;> rfl
theorem Wcv {N:Nat} {l:List Int} (h:l.length ≤ 1048576):Zx N l = ret l:=by
 unfold Zx; rw [Ws (by omega)]; rfl
theorem Wgy {N:Nat} {l:List Rw} (h:l.length ≤ 1048576):Zbi N l = ret l:=by
 unfold Zbi; rw [Ws (by omega)]; rfl
end Go.Sx
