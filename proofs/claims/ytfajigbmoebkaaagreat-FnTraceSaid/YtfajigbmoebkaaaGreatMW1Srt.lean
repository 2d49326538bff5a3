/- Plain laws of the Lean functions. -/
import Derived.Test.YtfajigbmoebkaaaGreatMW1Kid

namespace Go.Sx
set_option linter.unusedVariables false
set_option linter.unusedSimpArgs false
structure Lin {α:Type} (cf:α → α → Int):Prop where
 irr:∀ x,¬ cf x x < 0
 tr:∀ x y z,cf x y < 0 → cf y z < 0 → cf x z < 0
 nt:∀ x y z,¬ cf x y < 0 → ¬ cf y z < 0 → ¬ cf x z < 0
theorem linE:Lin cfE:=⟨fun x=>by unfold cfE; omega,fun x y z=>by unfold cfE; omega,fun x y z=>by unfold cfE; omega⟩
theorem linH:Lin cfH:=⟨fun x=>by rw [Wdj]; omega,fun x y z=>by simp only [Wdj]; omega,fun x y z=>by simp only [Wdj]; omega⟩
def Ris {α:Type} (cf:α → α → Int) (l:List α):Prop:=l.Pairwise fun a b=>cf a b < 0
def Wlh {α:Type} (cf:α → α → Int):List α → α → List α
 | [],e=>[e]
 | x :: l,e=>if cf x e < 0 then x :: Wlh cf l e else if cf e x < 0 then e :: x :: l else e :: l
def Ap {α:Type} (cf:α → α → Int) (x y:α):Prop:=cf x y < 0 ∨ cf y x < 0
variable {α:Type} {cf:α → α → Int}
theorem Lin.ap (h:Lin cf) {x y:α} (hn:¬ Ap cf x y) {z:α}:(cf x z < 0 ↔ cf y z < 0) ∧ (cf z x < 0 ↔ cf z y < 0):=by
 unfold Ap at hn
 refine ⟨⟨fun a=>?_,fun a=>?_⟩,⟨fun a=>?_,fun a=>?_⟩⟩
 ·exact Classical.byContradiction fun c=>h.nt x y z (fun q=>hn (.inl q)) c a
 ·exact Classical.byContradiction fun c=>h.nt y x z (fun q=>hn (.inr q)) c a
 ·exact Classical.byContradiction fun c=>h.nt z y x c (fun q=>hn (.inr q)) a
 ·exact Classical.byContradiction fun c=>h.nt z x y c (fun q=>hn (.inl q)) a
theorem Wem (hc:Lin cf) {e x:α}:∀ {l:List α},Ris cf l → (x ∈ Wlh cf l e ↔ x = e ∨ (x ∈ l ∧ Ap cf x e))
 | [],_=>by simp [Wlh]
 | y :: l,h=>by
  have hl:=(List.pairwise_cons.1 h)
  unfold Wlh
  by_cases h1:cf y e < 0
  ·rw [if_pos h1,List.mem_cons,Wem hc hl.2,List.mem_cons]
   refine ⟨?_,?_⟩
   ·rintro (rfl | h | h)
    ·exact .inr ⟨.inl rfl,.inl h1⟩
    ·exact .inl h
    ·exact .inr ⟨.inr h.1,h.2⟩
   ·rintro (h | ⟨rfl | h,h'⟩)
    ·exact .inr (.inl h)
    ·exact .inl rfl
    ·exact .inr (.inr ⟨h,h'⟩)
  ·rw [if_neg h1]; by_cases h2:cf e y < 0
   ·rw [if_pos h2]
    simp only [List.mem_cons]
    refine ⟨?_,?_⟩
    ·rintro (h | rfl | h)
     ·exact .inl h
     ·exact .inr ⟨.inl rfl,.inr h2⟩
     ·exact .inr ⟨.inr h,.inr (hc.tr _ _ _ h2 (hl.1 x h))⟩
    ·rintro (h | ⟨rfl | h,_⟩)
     ·exact .inl h
     ·exact .inr (.inl rfl)
     ·exact .inr (.inr h)
   ·rw [if_neg h2]
    simp only [List.mem_cons]
    have hn:¬ Ap cf y e:=by unfold Ap; omega
    refine ⟨?_,?_⟩
    ·rintro (h | h)
     ·exact .inl h
     ·exact .inr ⟨.inr h,.inr ((hc.ap hn).1.1 (hl.1 x h))⟩
    ·rintro (h | ⟨rfl | h,h'⟩)
     ·exact .inl h
     ·exact absurd h' hn
     ·exact .inr h
theorem Wfl (hc:Lin cf) {e:α}:∀ {l:List α},Ris cf l → Ris cf (Wlh cf l e)
 | [],_=>by simp [Wlh,Ris]
 | y :: l,h=>by
  have hl:=(List.pairwise_cons.1 h)
  unfold Wlh
  by_cases h1:cf y e < 0
  ·rw [if_pos h1]
   refine List.pairwise_cons.2 ⟨fun x hx=>?_,Wfl hc hl.2⟩
   rcases (Wem hc hl.2).1 hx with rfl | hx
   ·exact h1
   ·exact hl.1 x hx.1
  ·rw [if_neg h1]; by_cases h2:cf e y < 0
   ·rw [if_pos h2]
    refine List.pairwise_cons.2 ⟨fun x hx=>?_,h⟩
    rcases List.mem_cons.1 hx with rfl | hx
    ·exact h2
    ·exact hc.tr _ _ _ h2 (hl.1 x hx)
   ·rw [if_neg h2]
    have hn:¬ Ap cf y e:=by unfold Ap; omega
    exact List.pairwise_cons.2 ⟨fun x hx=>(hc.ap hn).1.1 (hl.1 x hx),hl.2⟩
theorem sort_eq (hc:Lin cf) {L M:List α} (hM:Ris cf M) (hL:L.Pairwise (Ap cf)) (hm:∀ x,x ∈ L ↔ x ∈ M):sortBy cf L = M:=by
 have hn:∀ {l:List α},l.Pairwise (Ap cf) → l.Nodup:=fun h=>h.imp fun {a b} hab=>by
  rintro rfl
  unfold Ap at hab
  have:=hc.irr a
  omega
 have hM':M.Pairwise (Ap cf):=hM.imp fun h=>.inl h
 have hp:L.Perm M:=(List.perm_ext_iff_of_nodup (hn hL) (hn hM')).2 hm
 unfold sortBy
 have h1:=List.pairwise_mergeSort (le:=fun x y=>!lessBy cf y x) (fun a b c=>by
  simp only [lessBy,Bool.not_eq_true',decide_eq_false_iff_not]
  exact fun h1 h2=>hc.nt _ _ _ h2 h1) (fun a b=>by
  simp only [lessBy,Bool.or_eq_true,Bool.not_eq_true',decide_eq_false_iff_not]
  rcases Classical.em (cf b a < 0) with h | h
  ·exact .inr fun h'=>hc.irr _ (hc.tr _ _ _ h h')
  ·exact .inl h) L
 refine List.Perm.eq_of_pairwise ?_ h1 (hM.imp fun {a b} h=>?_) ((List.mergeSort_perm _ _).trans hp)
 ·intro a b ha hb h1 h2
  simp only [lessBy,Bool.not_eq_true',decide_eq_false_iff_not] at h1 h2
  have ha':a ∈ M:=(hm a).1 ((List.mergeSort_perm _ _).mem_iff.1 ha)
  obtain ⟨i,hi,rfl⟩:=List.getElem_of_mem ha'
  obtain ⟨j,hj,rfl⟩:=List.getElem_of_mem hb
  rcases Nat.lt_trichotomy i j with h | h | h
  ·exact absurd (List.pairwise_iff_getElem.1 hM i j hi hj h) h2
  ·subst h; rfl
  ·exact absurd (List.pairwise_iff_getElem.1 hM j i hj hi h) h1
 ·simp only [lessBy,Bool.not_eq_true',decide_eq_false_iff_not]
  exact fun h'=>hc.irr _ (hc.tr _ _ _ h h')
theorem pairs_of {r:α → α → Bool} {R:α → α → Prop} (hr:∀ a b,R a b → r a b = true):∀ {l:List α},l.Pairwise R → Wvi r l = true
 | [],_=>rfl
 | x :: l,h=>by
  have:=List.pairwise_cons.1 h
  simp only [Wvi,Bool.and_eq_true,List.all_eq_true]
  exact ⟨fun y hy=>hr _ _ (this.1 y hy),pairs_of hr this.2⟩
theorem sort_run (hc:Lin cf) {rng:α → Bool} {N:Nat} {L M:List α} (hM:Ris cf M) (hL:L.Pairwise (Ap cf)) (hm:∀ x,x ∈ L ↔ x ∈ M) (hr:∀ x ∈ L,rng x = true) (hl:L.length ≤ 1048576) :
  Zm4 rng cf N L = some ((M,()),()):=by
 unfold Zm4
 rw [List.all_eq_true.2 hr,pairs_of (R:=Ap cf) (fun a b h=>by unfold apart lessBy; simpa [Ap] using h) hL,decide_eq_true (by omega)]
 rw [← sort_eq hc hM hL hm]
 rfl
theorem apart_set (hc:Lin cf) {L:List α} {e:α} {i:Nat} (hL:L.Pairwise (Ap cf)) (hi:i < L.length) (hk:¬ Ap cf L[i] e):(L.set i e).Pairwise (Ap cf) ∧ ∀ x,x ∈ L.set i e ↔ x = e ∨ (x ∈ L ∧ Ap cf x e):=by
 have hap:∀ {z},Ap cf L[i] z ↔ Ap cf e z:=fun {z}=>by unfold Ap; rw [(hc.ap hk).1,(hc.ap hk).2]
 have hsym:∀ {a b:α},Ap cf a b → Ap cf b a:=fun h=>h.symm
 have hG:=List.pairwise_iff_getElem.1 hL
 refine ⟨?_,fun x=>⟨fun hx=>?_,?_⟩⟩
 ·rw [List.pairwise_iff_getElem]
  intro a b ha hb hab
  rw [List.length_set] at ha hb
  rw [List.getElem_set,List.getElem_set]
  by_cases h1:i = a
  ·rw [if_pos h1,if_neg (by omega)]
   subst h1
   exact hap.1 (hG i b ha hb hab)
  ·rw [if_neg h1]; by_cases h2:i = b
   ·rw [if_pos h2]
    subst h2
    exact hsym (hap.1 (hsym (hG a i ha hb hab)))
   ·rw [if_neg h2]; exact hG a b ha hb hab
 ·obtain ⟨j,hj,rfl⟩:=List.getElem_of_mem hx
  rw [List.length_set] at hj
  rw [List.getElem_set]
  by_cases h1:i = j
  ·rw [if_pos h1]; exact .inl rfl
  ·rw [if_neg h1]
   refine .inr ⟨List.getElem_mem hj,?_⟩
   rcases Nat.lt_or_gt_of_ne h1 with h | h
   ·exact hsym (hap.1 (hG i j hi hj h))
   ·exact hsym (hap.1 (hsym (hG j i hj hi h)))
 ·rintro (rfl | ⟨hx,hx'⟩)
  ·exact List.mem_iff_getElem.2 ⟨i,by simpa using hi,by simp⟩
  ·obtain ⟨j,hj,rfl⟩:=List.getElem_of_mem hx
   refine List.mem_iff_getElem.2 ⟨j,by simpa using hj,?_⟩
   rw [List.getElem_set,if_neg]
   rintro rfl
   exact hk hx'
theorem Wub {L:List α} {e:α} (hL:L.Pairwise (Ap cf)) (hk:∀ x ∈ L,Ap cf x e):(L ++ [e]).Pairwise (Ap cf) ∧ ∀ x,x ∈ L ++ [e] ↔ x = e ∨ (x ∈ L ∧ Ap cf x e):=by
 refine ⟨List.pairwise_append.2 ⟨hL,List.pairwise_singleton _ _,fun a ha b hb=>?_⟩,fun x=>?_⟩
 ·rw [List.mem_singleton] at hb; subst hb; exact hk a ha
 ·simp only [List.mem_append,List.mem_singleton]
  refine ⟨?_,?_⟩
  ·rintro (h | h)
   ·exact .inr ⟨h,hk x h⟩
   ·exact .inl h
  ·rintro (h | h)
   ·exact .inr h
   ·exact .inl h.1
end Go.Sx
