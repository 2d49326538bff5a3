/- Plain laws of the Lean functions. -/
import Derived.Test.YtfajigbmoebkaaaGreatMW1Sh

namespace Go.Sx
set_option linter.unusedVariables false
set_option linter.unusedSimpArgs false
abbrev Hd:=Int × Int × Int
def HdV (h:Hd):Prop:=(1 ≤ h.1 ∧ h.1 ≤ 9) ∧ (0 ≤ h.2.1 ∧ h.2.1 ≤ 8) ∧ 1 ≤ h.2.2 ∧ h.2.2 ≤ 2
def HdB (a b:Hd):Prop:=cfH a b < 0 ∧ (a.2.1 = b.2.1 → a.2.2 ≠ 2 ∧ b.2.2 ≠ 2)
structure HOk (l:List Hd):Prop where
 val:∀ h ∈ l,HdV h
 up:l.Pairwise HdB
theorem HOk.ris {l:List Hd} (h:HOk l):Ris cfH l:=h.up.imp fun h=>h.1
def Wqt (l:List Hd) (who:Int):List Int:=(l.filter fun h=>decide (h.1 = who)).map (·.2.1)
def blk (who what mode:Int) (h:Hd):Bool:=decide (h.2.1 = what) && (decide (h.1 ≠ who) && (decide (mode = 2) || decide (h.2.2 = 2)))
def Wpu (l:List Hd) (who what mode:Int):List Int:=(l.filter (blk who what mode)).map (·.1)
def hdIs (who what:Int) (h:Hd):Bool:=decide (h.1 = who) && decide (h.2.1 = what)
def hdOf (l:List Hd) (who what:Int):Int:=match fnd (hdIs who what) l 0 with
 | some r=>r.2.2.2
 | none=>0
def maxJ (a b:Int):Int:=if a ≤ b then b else a
def Wuh (l:List Hd) (who what mode:Int):List Hd:=Wlh cfH l (who,what,maxJ (hdOf l who what) mode)
def Wle (l:List Hd) (who what mode:Int):Option (List Hd):=if Wpu l who what mode = [] then some (Wuh l who what mode) else none
def Waz (l:List Hd) (who:Int):List Hd:=l.filter fun h=>!(h.1 == who)
theorem Wfc {α:Type} {a b:Int} {x y:α}:(bif a != b then x else y) = if a = b then y else x:=by
 by_cases h:a = b
 ·have:(a != b) = false:=by simpa using h
  rw [this,if_pos h]; rfl
 ·have:(a != b) = true:=by simpa using h
  rw [this,if_neg h]; rfl
theorem ris_ext {α:Type} {cf:α → α → Int} (hc:Lin cf) {L M:List α} (hL:Ris cf L) (hM:Ris cf M) (hm:∀ x,x ∈ L ↔ x ∈ M):L = M:=by
 rw [← sort_eq hc hM (hL.imp fun h=>.inl h) hm,sort_eq hc hL (hL.imp fun h=>.inl h) fun x=>Iff.rfl]
theorem apH {a b:Hd}:Ap cfH a b ↔ ¬ (a.1 = b.1 ∧ a.2.1 = b.2.1):=by unfold Ap; rw [Wdj,Wdj]; omega
theorem Wzn {a b c d:Hd} (h1:a.1 = c.1) (h2:a.2.1 = c.2.1) (h3:b.1 = d.1) (h4:b.2.1 = d.2.1):cfH a b < 0 ↔ cfH c d < 0:=by rw [Wdj,Wdj]; omega
variable {N:Nat} {l:List Hd} {who what mode:Int}
theorem ris_setH (h:Ris cfH l) {i:Nat} (hi:i < l.length) {e:Hd} (h1:e.1 = l[i].1) (h2:e.2.1 = l[i].2.1):Ris cfH (l.set i e):=by
 unfold Ris at *
 rw [List.pairwise_iff_getElem] at *
 intro a b ha hb hab
 rw [List.length_set] at ha hb
 rw [List.getElem_set,List.getElem_set]
 have:=h a b ha hb hab
 by_cases c1:i = a
 ·subst c1
  rw [if_pos rfl,if_neg (by omega)]
  exact (Wzn h1 h2 rfl rfl).2 this
 ·rw [if_neg c1]; by_cases c2:i = b
  ·subst c2; rw [if_pos rfl]; exact (Wzn rfl rfl h1 h2).2 this
  ·rw [if_neg c2]; exact this
theorem set_put (h:Ris cfH l) {i:Nat} (hi:i < l.length) {e:Hd} (h1:e.1 = l[i].1) (h2:e.2.1 = l[i].2.1):l.set i e = Wlh cfH l e:=by
 refine ris_ext linH (ris_setH h hi h1 h2) (Wfl linH h) fun x=>?_
 rw [(apart_set linH (h.imp fun h=>.inl h) hi (by rw [apH]; intro h; exact h ⟨h1.symm,h2.symm⟩)).2 x,Wem linH h]
theorem hdV_iff {h:Hd}:(decide (1 ≤ h.1) && decide (h.1 ≤ 9)) = true ∧ (decide (0 ≤ h.2.1) && decide (h.2.1 ≤ 8)) = true ∧ (decide (1 ≤ h.2.2) && decide (h.2.2 ≤ 2)) = true ↔ HdV h:=by
 unfold HdV; simp only [Bool.and_eq_true,decide_eq_true_eq]
theorem Wkj {h:Hd} (hv:HdV h):Zic N h.1 h.2.1 h.2.2 = ret true:=by
 obtain ⟨a,b,c⟩:=hdV_iff.2 hv
 unfold Zic
 simp only [Wk,ret,Option.bind_some,a,b,c,cond_true]
theorem implCmpH_run {a b:Hd} (ha:HdV a) (hb:HdV b):Zh3 N a b = ret (cfH a b):=by
 obtain ⟨a1,a2,a3⟩:=ha
 obtain ⟨b1,b2,b3⟩:=hb
 unfold Zh3 cfH
 rw [Wap (by unfold I64; omega),Wap (by unfold I64; omega)]
 by_cases h:a.2.1 = b.2.1
 ·rw [show (a.2.1 != b.2.1) = false by simpa using h,show (a.2.1 == b.2.1) = true by simpa using h]; rfl
 ·rw [show (a.2.1 != b.2.1) = true by simpa using h,show (a.2.1 == b.2.1) = false by simpa using h]; rfl
theorem Wdo (h:HOk l) (hl:l.length ≤ 1048576) (hN:1048576 < N):Zce N l = ret true:=by
 have lp:∀ (d j n:Nat),j + d = l.length → d < n → Zau N l (some ((),(false,()))) (fun t14 t15=>(some ((),(true,())))) n (j:Int) = ret true:=by
  intro d
  induction d with
  | zero =>
   intro j n hj hn
   obtain ⟨n,rfl⟩:∃ n',n = n' + 1:=⟨n - 1,by omega⟩
   have:j = l.length:=by omega
   subst this
   simp only [Zau,Wbj (Nat.le_refl _),cond_false]
  | succ d ih =>
   intro j n hj hn
   obtain ⟨n,rfl⟩:∃ n',n = n' + 1:=⟨n - 1,by omega⟩
   have hlt:j < l.length:=by omega
   have hv:=h.val l[j] (List.getElem_mem hlt)
   have hrec:=ih (j + 1) n (by omega) (by omega)
   simp only [Zau,Wba hlt,Wp hlt,Wu hlt,Wi (show j < 4611686018427387904 by omega),cond_true,Wkj hv,ret,Option.bind_some,Bool.not_true,cond_false,hrec]
   by_cases h0:j = 0
   ·subst h0; rfl
   ·have e1:decide ((j:Int) > 0) = true:=by simp; omega
    have e2:isub .i64 (j:Int) 1 = ((j - 1:Nat):Int):=by rw [Wap (by unfold I64; omega)]; omega
    have hl1:j - 1 < l.length:=by omega
    have hw:=h.val l[j - 1] (List.getElem_mem hl1)
    have hb:=List.pairwise_iff_getElem.1 h.up (j - 1) j hl1 hlt (by omega)
    simp only [e1,e2,cond_true,Wp hl1,Wu hl1,implCmpH_run hw hv,ret,Option.bind_some]
    rw [decide_eq_false (show ¬ (cfH l[j - 1] l[j] ≥ 0) by have:=hb.1; omega)]
    simp only [cond_false,Ww]
    by_cases hs:l[j - 1].2.1 = l[j].2.1
    ·rw [if_pos hs,if_neg (hb.2 hs).2,if_neg (hb.2 hs).1]
    ·rw [if_neg hs]
 exact lp l.length 0 N (by omega) (by omega)
theorem Wrp {α β R:Type} {body:Int → α → List β → (List β → Option R) → Option R} {K:Int → List β → Option R} {p:α → Bool} {f:α → β}:∀ (l:List α) (j:Nat) (o:List β),o.length + l.length ≤ 2000000 →
  (∀ (j:Nat) x (v:List β) k,x ∈ l → v.length ≤ 2000000 → body j x v k = bif p x then k (v ++ [f x]) else k v) → Wdv body K l j o = K ((j + l.length:Nat):Int) (o ++ (l.filter p).map f)
 | [],j,o,_,_=>by simp [Wdv]
 | x :: l,j,o,h,hb=>by
  rw [List.length_cons] at h
  rw [Wdv,hb j x o _ (List.mem_cons_self ..) (by omega),List.filter_cons]
  have ih:=fun o' ho'=>Wrp (body:=body) (K:=K) (p:=p) (f:=f) l (j + 1) o' ho' fun j y v k hy=>hb j y v k (List.mem_cons_of_mem _ hy)
  cases hp:p x
  ·simp only [cond_false,Bool.false_eq_true,if_false]
   rw [ih o (by omega),List.length_cons,show j + 1 + l.length = j + (l.length + 1) by omega]
  ·simp only [cond_true,if_true]
   rw [ih _ (by simp; omega),List.length_cons,show j + 1 + l.length = j + (l.length + 1) by omega]
   simp
theorem Wqf (h:HOk l) (hl:l.length ≤ 1048576) (hN:1048576 < N):Zc4 N l who = ret (Wqt l who):=by
 unfold Zc4 Wqt
 rw [Wdo h hl hN]
 simp only [ret,Option.bind_some,Bool.not_true,cond_false]
 have h1:=Wad (l:=l) (V:=List Int) (R:=Unit × (List Int × Unit)) (lp:=fun n j v=>Zb7 N who l (fun t12 t13 l14=>(some ((),(l14,())))) n j v) (n:=N) (by omega)
  (body:=fun j x v k=>bif x.1 == who then (bif room (v.length + [x.2.1].length) then k (List.append v [x.2.1]) else none) else k v) (K:=fun _ v=>ret v)
  (fun n i v hi=>by simp only [Zb7,Wba hi,Wp hi,Wu hi,Wi (show i < 4611686018427387904 by omega),cond_true])
  (fun n v=>by simp only [Zb7,Wbj (Nat.le_refl l.length),cond_false]) []
 refine h1.trans ?_
 rw [Wrp (p:=fun h=>decide (h.1 = who)) (f:=(·.2.1)) l 0 [] (by simp; omega) (fun j x v k _ hv=>by rw [Ws (by simp; omega)]; simp only [Ww,Wby,cond_true,List.append_eq])]
 rfl
theorem Wsj (h:HOk l) (hm:1 ≤ mode ∧ mode ≤ 2) (hl:l.length ≤ 1048576) (hN:1048576 < N):Zf8 N l who what mode = ret (Wpu l who what mode):=by
 unfold Zf8 Wpu
 rw [Wdo h hl hN]
 simp only [ret,Option.bind_some,Bool.not_true,cond_false,Wk,decide_eq_true hm.1,decide_eq_true hm.2,Bool.and_self]
 have h1:=Wad (l:=l) (V:=List Int) (R:=Unit × (List Int × Unit)) (lp:=fun n j v=>Za9 N who what mode l (fun t17 t18 l19=>(some ((),(l19,())))) n j v) (n:=N) (by omega)
  (body:=fun j x v k=>bif x.2.1 == what then (bif x.1 != who then (bif mode == 2 then (bif room (v.length + [x.1].length) then k (List.append v [x.1]) else none) else (bif x.2.2 == 2 then (bif room (v.length + [x.1].length) then k (List.append v [x.1]) else none) else k v)) else k v) else k v) (K:=fun _ v=>ret v)
  (fun n i v hi=>by simp only [Za9,Wba hi,Wp hi,Wu hi,Wi (show i < 4611686018427387904 by omega),cond_true])
  (fun n v=>by simp only [Za9,Wbj (Nat.le_refl l.length),cond_false]) []
 refine h1.trans ?_
 rw [Wrp (p:=blk who what mode) (f:=(·.1)) l 0 [] (by simp; omega) (fun j x v k _ hv=>by
  rw [Ws (by simp; omega)]
  unfold blk
  simp only [Ww,Wfc,cond_true,List.append_eq]
  by_cases c1:x.2.1 = what <;> by_cases c2:x.1 = who <;> by_cases c3:mode = 2 <;> by_cases c4:x.2.2 = 2 <;> simp [c1,c2,c3,c4])]
 rfl
theorem hdOf_bd (h:HOk l):0 ≤ hdOf l who what ∧ hdOf l who what ≤ 2:=by
 unfold hdOf
 cases hf:fnd (hdIs who what) l 0 with
 | none=>simp
 | some r =>
  have:=Wgj hf
  have:=h.val r.2 (List.mem_of_getElem? this.2.2.2)
  unfold HdV at this
  simp only
  omega
theorem Wqs (h:HOk l) (hw:1 ≤ who ∧ who ≤ 9) (ht:0 ≤ what ∧ what ≤ 8) (hm:1 ≤ mode ∧ mode ≤ 2) (hl:l.length ≤ 1048000) (hN:1048576 < N) :
  Zeu N l who what mode = some ((),((Wle l who what mode).getD l,((Wle l who what mode).isSome,()))):=by
 unfold Zeu Wle
 have hcp:Zek N l = ret l:=by unfold Zek; rw [Ws (by omega)]; rfl
 have hih:Zic N who what mode = ret true:=Wkj (h:=(who,what,mode)) ⟨hw,ht,hm⟩
 rw [hcp,Wdo h (by omega) hN,hih,Wsj h hm (by omega) hN]
 simp only [ret,Option.bind_some,Bool.not_true,cond_false,Wby]
 by_cases hb:Wpu l who what mode = []
 ·rw [if_neg (by rw [hb]; simp [ilen]),if_pos hb]
  have h1:=Wwg (l:=l) (p:=hdIs who what) (N:=N) (lp:=fun n j=>Zb8 N who what mode (ilen l) l (fun l18=>(some ((),(l18,(true,()))))) (fun t19 t20 =>
  (bif room ((List.length l) + (List.length ([(who,(what,mode))]))) then
 ((Zy N (List.append l ([(who,(what,mode))]))).bind fun o21 =>
 (some ((),(o21.1.1,(true,()))))) else none)) n j)
   (K0:=fun j=>some ((),(l.set j.toNat ((l.getD j.toNat (0,0,0)).1,(l.getD j.toNat (0,0,0)).2.1,maxI (l.getD j.toNat (0,0,0)).2.2 mode),(true,())))) (K1:=(bif room ((List.length l) + (List.length ([(who,(what,mode))]))) then
 ((Zy N (List.append l ([(who,(what,mode))]))).bind fun o21 =>
 (some ((),(o21.1.1,(true,()))))) else none)) (by omega) (by omega)
   (fun n j hj=>by
    simp only [Zb8,Wba hj,Wp hj,Wu hj,Wi (show j < 4611686018427387904 by omega),cond_true]
    unfold hdIs
    simp only [Ww,cond_and,Wby])
   (fun n=>by simp only [Zb8,Wbj (Nat.le_refl _),cond_false])
  rw [h1]
  unfold Wuh hdOf
  cases hf:fnd (hdIs who what) l 0 with
  | some r =>
   obtain ⟨g1,g2,g3,g4⟩:=Wgj hf
   rw [Nat.zero_add] at g3
   rw [Nat.sub_zero,List.getElem?_eq_getElem g3] at g4
   injection g4 with g4
   unfold hdIs at g1
   simp only [Bool.and_eq_true,decide_eq_true_eq] at g1
   simp only [Wu g3,g4,Option.getD_some,Option.isSome_some]
   rw [Int.toNat_natCast]
   have:maxI r.2.2.2 mode = maxJ r.2.2.2 mode:=by unfold maxI maxJ; first | rfl | omega | (split <;> split <;> omega)
   rw [this,g1.1,g1.2,set_put h.ris g3 (e:=(who,what,maxJ r.2.2.2 mode)) (by rw [g4]; exact g1.1.symm) (by rw [g4]; exact g1.2.symm)]
  | none =>
   have hn:=Wpe hf
   simp only
   rw [Ws (by simp; omega)]
   have hmx:maxJ 0 mode = mode:=by unfold maxJ; rw [if_pos (by omega)]
   have hap:=Wub (cf:=cfH) (L:=l) (e:=(who,what,mode)) (h.ris.imp fun h=>.inl h) (fun x hx=>by
    rw [apH]
    have:=hn x hx
    unfold hdIs at this
    simp only [Bool.and_eq_false_iff,decide_eq_false_iff_not] at this
    simp only
    omega)
   unfold Zy
   simp only [cond_true,List.append_eq]
   rw [sort_run (rng:=rngH) (N:=N) linH (M:=Wlh cfH l (who,what,mode)) (Wfl linH h.ris) hap.1 (fun x=>by rw [hap.2 x,Wem linH h.ris]) (fun x hx=>by
    rcases List.mem_append.1 hx with hx | hx
    ·have:=h.val x hx
     unfold HdV at this
     unfold rngH rngI; simp; omega
    ·rw [List.mem_singleton] at hx; subst hx
     unfold rngH rngI; simp; omega) (by simp; omega)]
   simp only [Option.bind_some,hmx,Option.getD_some,Option.isSome_some]
 ·rw [if_pos (by
   have:(Wpu l who what mode).length ≠ 0:=fun h=>hb (List.eq_nil_of_length_eq_zero h)
   unfold ilen; omega),if_neg hb]
  rfl
theorem holdPut_ok (h:HOk l) (hw:1 ≤ who ∧ who ≤ 9) (ht:0 ≤ what ∧ what ≤ 8) (hm:1 ≤ mode ∧ mode ≤ 2) (hb:Wpu l who what mode = []):HOk (Wuh l who what mode):=by
 have hbd:=hdOf_bd (who:=who) (what:=what) h
 have hbl:∀ x ∈ l,x.2.1 = what → x.1 ≠ who → mode ≠ 2 ∧ x.2.2 ≠ 2:=fun x hx h1 h2=>by
  refine Classical.byContradiction fun hc=>?_
  have:x.1 ∈ Wpu l who what mode:=List.mem_map.2 ⟨x,List.mem_filter.2 ⟨hx,by unfold blk; simp [h1,h2]; omega⟩,rfl⟩
  rw [hb] at this; cases this
 have hof:∀ x ∈ l,x.2.1 = what → x.1 ≠ who → hdOf l who what ≠ 2:=fun x hx h1 h2=>by
  unfold hdOf
  cases hf:fnd (hdIs who what) l 0 with
  | none=>simp
  | some r =>
   obtain ⟨g1,g2,g3,g4⟩:=Wgj hf
   rw [Nat.zero_add] at g3
   rw [Nat.sub_zero,List.getElem?_eq_getElem g3] at g4
   injection g4 with g4
   unfold hdIs at g1
   simp only [Bool.and_eq_true,decide_eq_true_eq] at g1
   obtain ⟨j,hj,rfl⟩:=List.getElem_of_mem hx
   have hp:=List.pairwise_iff_getElem.1 h.up
   simp only
   rw [← g4] at g1 ⊢
   rcases Nat.lt_trichotomy r.1 j with hlt | heq | hlt
   ·exact ((hp r.1 j g3 hj hlt).2 (by rw [h1,g1.2])).1
   ·subst heq; exact absurd g1.1 h2
   ·exact ((hp j r.1 hj g3 hlt).2 (by rw [h1,g1.2])).2
 unfold Wuh
 refine ⟨fun x hx=>?_,?_⟩
 ·rcases (Wem linH h.ris).1 hx with rfl | hx
  ·refine ⟨hw,ht,?_⟩
   simp only; unfold maxJ; split <;> omega
  ·exact h.val x hx.1
 ·have hr:=Wfl (e:=(who,what,maxJ (hdOf l who what) mode)) linH h.ris
  have hmem:=fun x=>Wem (e:=(who,what,maxJ (hdOf l who what) mode)) (x:=x) linH h.ris
  have hmj:∀ x ∈ l,x.2.1 = what → x.1 ≠ who → maxJ (hdOf l who what) mode ≠ 2:=fun x hx h1 h2=>by
   have:=hof x hx h1 h2
   have:=(hbl x hx h1 h2).1
   unfold maxJ; split <;> omega
  unfold Ris at hr
  rw [List.pairwise_iff_getElem] at hr ⊢
  intro i j hi hj hij
  refine ⟨hr i j hi hj hij,fun hs=>?_⟩
  have hlt:=hr i j hi hj hij
  have m1:=(hmem _).1 (List.getElem_mem hi)
  have m2:=(hmem _).1 (List.getElem_mem hj)
  generalize (Wlh cfH l (who,what,maxJ (hdOf l who what) mode))[i] = x at *
  generalize (Wlh cfH l (who,what,maxJ (hdOf l who what) mode))[j] = y at *
  rcases m1 with rfl | m1 <;> rcases m2 with rfl | m2
  ·exact absurd hlt (linH.irr _)
  ·have hk:=apH.1 m2.2
   simp only at hk hs
   exact ⟨hmj y m2.1 hs.symm (fun e=>hk ⟨e,hs.symm⟩),(hbl y m2.1 hs.symm (fun e=>hk ⟨e,hs.symm⟩)).2⟩
  ·have hk:=apH.1 m1.2
   simp only at hk hs
   exact ⟨(hbl x m1.1 hs (fun e=>hk ⟨e,hs⟩)).2,hmj x m1.1 hs (fun e=>hk ⟨e,hs⟩)⟩
  ·obtain ⟨a,ha,rfl⟩:=List.getElem_of_mem m1.1
   obtain ⟨b,hb',rfl⟩:=List.getElem_of_mem m2.1
   have hp:=List.pairwise_iff_getElem.1 h.up
   rcases Nat.lt_trichotomy a b with hab | hab | hab
   ·exact (hp a b ha hb' hab).2 hs
   ·subst hab; exact absurd hlt (linH.irr _)
   ·exact absurd (linH.tr _ _ _ hlt (hp b a hb' ha hab).1) (linH.irr _)
theorem Wqv (h:HOk l):HOk (Waz l who):=⟨fun x hx=>h.val x (List.mem_filter.1 hx).1,h.up.filter _⟩
theorem Wvs (h:HOk l):l.length ≤ 81:=by
 have key:∀ (l:List Hd) (c:Int),Ris cfH l → (∀ e ∈ l,HdV e ∧ c ≤ 9 * e.2.1 + e.1) → 1 ≤ c → (l.length:Int) ≤ 82 - c ∨ l = []:=by
  intro l
  induction l with
  | nil=>intro c _ _ _; exact .inr rfl
  | cons a l ih =>
   intro c hr hb hc
   left
   have h1:=List.pairwise_cons.1 hr
   have ha:=hb a (List.mem_cons_self ..)
   unfold HdV at ha
   rcases ih (9 * a.2.1 + a.1 + 1) h1.2 (fun e he=>⟨(hb e (List.mem_cons_of_mem _ he)).1,by
    have:=h1.1 e he
    rw [Wdj] at this
    have hv:=(hb e (List.mem_cons_of_mem _ he)).1
    unfold HdV at hv
    omega⟩) (by omega) with h | h
   ·rw [List.length_cons]; omega
   ·subst h; simp; omega
 rcases key l 1 h.ris (fun e he=>⟨h.val e he,by have:=h.val e he; unfold HdV at this; omega⟩) (by omega) with h | h
 ·omega
 ·rw [h]; simp
theorem Wqe {α V R:Type} {body:Int → α → V → (V → Option R) → Option R} {K:Int → V → Option R} {p:α → Bool} {E:Int → V → Option R}:∀ (l:List α) (j:Nat) (v:V),(∀ (j:Nat) x v k,x ∈ l → body j x v k = bif p x then E j v else k v) →
  (∃ a x r,l = a ++ x :: r ∧ (∀ y ∈ a,p y = false) ∧ p x = true ∧ Wdv body K l j v = E ((j + a.length:Nat):Int) v) ∨ ((∀ y ∈ l,p y = false) ∧ Wdv body K l j v = K ((j + l.length:Nat):Int) v)
 | [],j,v,_=>.inr ⟨by simp,rfl⟩
 | x :: l,j,v,h=>by
  rw [Wdv,h j x v _ (List.mem_cons_self ..)]
  cases hp:p x
  ·simp only [cond_false]
   rcases Wqe (E:=E) l (j + 1) v fun j y v k hy=>h j y v k (List.mem_cons_of_mem _ hy) with ⟨a,y,r,h1,h2,h3,h4⟩ | ⟨h1,h2⟩
   ·refine .inl ⟨x :: a,y,r,by rw [h1]; rfl,fun z hz=>?_,h3,?_⟩
    ·rcases List.mem_cons.1 hz with rfl | hz
     ·exact hp
     ·exact h2 z hz
    ·rw [h4,List.length_cons,show j + 1 + a.length = j + (a.length + 1) by omega]
   ·refine .inr ⟨fun z hz=>?_,?_⟩
    ·rcases List.mem_cons.1 hz with rfl | hz
     ·exact hp
     ·exact h1 z hz
    ·rw [h2,List.length_cons,show j + 1 + l.length = j + (l.length + 1) by omega]
  ·exact .inl ⟨[],x,l,rfl,by simp,hp,rfl⟩
theorem del_lp {N:Nat} (a0:Int) {R:Type} (K:Int → Int → Bool → List Hd → Int → Option R) :
  ∀ (r a m:List Hd) (n:Nat),r.length < n → a.length + m.length + r.length ≤ 1048576 → ∃ m',
   Zd N K n (a.length:Int) ((a.length + m.length:Nat):Int) (a ++ m ++ r) a0 =
    K ((a ++ r.filter fun x=>!(x.1 == a0)).length:Int) ((a.length + m.length + r.length:Nat):Int) false ((a ++ r.filter fun x=>!(x.1 == a0)) ++ m') a0
 | [],a,m,0,h,_=>by simp at h
 | [],a,m,n + 1,h,_=>by
  refine ⟨m,?_⟩
  have e1:decide (((a.length + m.length:Nat):Int) < ilen (a ++ m ++ [])) = false:=by simp [ilen]
  simp only [Zd,e1,cond_false]
  simp
 | x :: r,a,m,0,h,_=>by simp at h
 | x :: r,a,m,n + 1,h,hb=>by
  simp only [List.length_cons] at h hb
  have hj:a.length + m.length < (a ++ m ++ x :: r).length:=by simp
  have hi:a.length < (a ++ m ++ x :: r).length:=by simp; omega
  have hx:List.getD (a ++ m ++ x :: r) (a.length + m.length) ((0:Int),((0:Int),(0:Int))) = x:=by
   have:a.length + m.length = (a ++ m).length:=by simp
   rw [this,List.getD_eq_getElem?_getD,List.getElem?_append_right (Nat.le_refl _)]
   simp
  cases hp:x.1 == a0
  ·obtain ⟨m2,hm2,hm3⟩:∃ m2:List Hd,m2.length = m.length ∧ (a ++ m ++ x :: r).set a.length x = (a ++ [x]) ++ m2 ++ r:=by
    cases m with
    | nil=>exact ⟨[],rfl,by rw [List.append_nil,Wgg]; simp⟩
    | cons y m=>exact ⟨m ++ [x],by simp,by rw [show a ++ (y :: m) ++ x :: r = a ++ y :: (m ++ x :: r) by simp,Wgg]; simp⟩
   obtain ⟨m',ih⟩:=del_lp (N:=N) a0 K r (a ++ [x]) m2 n (by omega) (by simp; omega)
   refine ⟨m',?_⟩
   simp only [Zd,Zfy,Wba hj,Wp hj,Wp hi,Int.toNat_natCast,hx,hp,Option.bind_some,cond_true,Bool.not_false,Int.toNat_natCast,hm3,
    Wi (show a.length < 4611686018427387904 by omega),Wi (show a.length + m.length < 4611686018427387904 by omega)]
   have l1:(a ++ [x]).length = a.length + 1:=by simp
   rw [l1,hm2,show a.length + 1 + m.length = a.length + m.length + 1 by omega] at ih
   rw [ih]
   simp only [List.filter_cons,hp,Bool.not_false,if_true,List.append_assoc,List.singleton_append,List.length_cons]
   rw [show a.length + m.length + 1 + r.length = a.length + m.length + (r.length + 1) by omega]
  ·obtain ⟨m',ih⟩:=del_lp (N:=N) a0 K r a (m ++ [x]) n (by omega) (by simp; omega)
   refine ⟨m',?_⟩
   simp only [Zd,Zfy,Wba hj,Wp hj,Wp hi,Int.toNat_natCast,hx,hp,Option.bind_some,cond_true,cond_false,Bool.not_true,
    Wi (show a.length + m.length < 4611686018427387904 by omega)]
   simp only [List.length_append,List.length_cons,List.length_nil,Nat.zero_add] at ih
   rw [show a.length + (m.length + 1) = a.length + m.length + 1 by omega,show a ++ (m ++ [x]) ++ r = a ++ m ++ x :: r by simp] at ih
   rw [ih]
   simp only [List.filter_cons,hp,Bool.not_true,if_false,Bool.false_eq_true,List.length_cons]
   simp only [List.length_append]
   rw [show a.length + m.length + 1 + r.length = a.length + m.length + (r.length + 1) by omega]
theorem delete_run {N:Nat} {s:List Hd} {a0:Int} (hN:1048576 < N) (hs:s.length ≤ 100000) :
  Zh N s a0 = some ((a0,()),(s.filter fun x=>!(x.1 == a0),())):=by
 unfold Zh
 have h1:=Wad (l:=s) (V:={ v:Int // v = a0 }) (R:=(Int × Unit) × (Int × Unit)) (lp:=fun n j v=>Zl N s (fun t15 b16=>some ((b16,()),(t15,()))) (fun t17 t18 b19=>some ((b19,()),((-1:Int),()))) n j v.1) (n:=N) (by omega)
  (body:=fun j x v k=>bif x.1 == a0 then some ((v.1,()),(j,())) else k v) (K:=fun _ v=>some ((v.1,()),((-1:Int),())))
  (fun n i v hi=>by
   obtain ⟨v,rfl⟩:=v
   simp only [Zl,Wba hi,Wp hi,Wu hi,Wi (show i < 4611686018427387904 by omega),cond_true,Zfy,Option.bind_some])
  (fun n v=>by simp only [Zl,Wbj (Nat.le_refl s.length),cond_false]) ⟨a0,rfl⟩
 simp only [] at h1
 unfold Zp
 rw [h1]
 rcases Wqe (body:=fun j x (v:{ v:Int // v = a0 }) k=>bif x.1 == a0 then some ((v.1,()),(j,())) else k v) (K:=fun _ v=>(some ((v.1,()),((-1:Int),())):Option ((Int × Unit) × (Int × Unit)))) (p:=fun x=>x.1 == a0)
  (E:=fun j v=>some ((v.1,()),(j,()))) s 0 ⟨a0,rfl⟩ (fun j x v k _=>rfl) with ⟨a,x,r,hs',ha,hx,hr⟩ | ⟨ha,hr⟩
 ·rw [hr]
  simp only [Option.bind_some,Nat.zero_add]
  have e0:((a.length:Int) == -1) = false:=by simp
  rw [e0,Wi (show a.length < 4611686018427387904 by rw [hs'] at hs; simp at hs; omega)]
  simp only [cond_false]
  obtain ⟨m',hd⟩:=del_lp (N:=N) a0 (fun i15 j16 t17 l18 b19 =>
     (bif (decide ((0:Int) ≤ i15)) && (decide (i15 ≤ ((List.length l18):Int))) then
      (bif (decide ((0:Int) ≤ i15)) && (decide (i15 ≤ ((List.length ((List.take (Int.toNat i15) l18) ++ List.replicate ((List.length l18) - (Int.toNat i15)) ((0:Int),((0:Int),(0:Int))) ++ (List.drop (List.length l18) l18))):Int))) then
       (some ((b19,()),(List.take (Int.toNat i15) ((List.take (Int.toNat i15) l18) ++ List.replicate ((List.length l18) - (Int.toNat i15)) ((0:Int),((0:Int),(0:Int))) ++ (List.drop (List.length l18) l18)),()))) else none) else none)) r a [x] N (by rw [hs'] at hs; simp at hs; omega) (by rw [hs'] at hs; simp at hs; simp; omega)
  rw [show a ++ [x] ++ r = s by rw [hs']; simp] at hd
  simp only [List.length_cons,List.length_nil,Nat.zero_add] at hd
  rw [hd]
  have hf:(s.filter fun x=>!(x.1 == a0)) = a ++ r.filter fun x=>!(x.1 == a0):=by
   rw [hs',List.filter_append,List.filter_cons]
   have:(a.filter fun x=>!(x.1 == a0)) = a:=List.filter_eq_self.2 fun y hy=>by simp [ha y hy]
   rw [this]
   simp [hx]
  rw [← hf]
  generalize (s.filter fun x=>!(x.1 == a0)) = f
  have c1:(decide ((0:Int) ≤ (f.length:Int)) && decide ((f.length:Int) ≤ ((List.length (f ++ m')):Int))) = true:=by
   rw [Bool.and_eq_true]
   refine ⟨by simp,decide_eq_true ?_⟩
   rw [List.length_append]; omega
  rw [c1]
  simp only [cond_true,Int.toNat_natCast,List.take_left',List.take_append_of_le_length (Nat.le_refl f.length),List.take_length]
  have c2:(decide ((0:Int) ≤ (f.length:Int)) && decide ((f.length:Int) ≤ ((List.length (f ++ List.replicate ((f ++ m').length - f.length) ((0:Int),((0:Int),(0:Int))) ++ List.drop (f ++ m').length (f ++ m'))):Int))) = true:=by
   rw [Bool.and_eq_true]
   refine ⟨by simp,decide_eq_true ?_⟩
   rw [List.length_append,List.length_append]; omega
  rw [c2]
  simp [List.append_assoc]
 ·rw [hr]
  simp only [Option.bind_some]
  have:(s.filter fun x=>!(x.1 == a0)) = s:=List.filter_eq_self.2 fun y hy=>by simp [ha y hy]
  rw [this]
  rfl
theorem Wox (h:HOk l) (hl:l.length ≤ 100000) (hN:1048576 < N):Zky N l who = ret (Waz l who):=by
 have hcp:Zek N l = ret l:=by unfold Zek; rw [Ws (by omega)]; rfl
 unfold Zky
 rw [hcp,Wdo h (by omega) hN]
 simp only [ret,Option.bind_some,Bool.not_true,cond_false]
 rw [delete_run hN hl]
 rfl
end Go.Sx
