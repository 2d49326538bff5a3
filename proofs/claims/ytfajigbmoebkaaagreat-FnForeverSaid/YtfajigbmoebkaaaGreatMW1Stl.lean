/- Plain laws of the Lean functions. -/
import Derived.Test.YtfajigbmoebkaaaGreatMW1SmH

namespace Go.Sx
set_option linter.unusedVariables false
set_option linter.unusedSimpArgs false
def stl (x:Rt):Bool:=decide (x.phase = 8) || ((decide (x.phase = 5) && (decide (x.cm.phase = 4) || decide (x.cm.phase = 5))) || ((decide (x.phase = 6) || decide (x.phase = 7)) && decide (x.fate ≠ 0)))
def Wij (x:Rt):Int:=if stl x = true then (if x.phase = 5 then x.cm.wv else x.stamp) else 0
theorem Wed {x:Rt}:stl x = true ↔ x.phase = 8 ∨ (x.phase = 5 ∧ (x.cm.phase = 4 ∨ x.cm.phase = 5)) ∨ ((x.phase = 6 ∨ x.phase = 7) ∧ x.fate ≠ 0):=by
 unfold stl
 simp only [Bool.or_eq_true,Bool.and_eq_true,decide_eq_true_eq]
structure RX (x:Rt):Prop where
 doom:x.doomed = true → (1 ≤ x.phase ∧ x.phase ≤ 4) ∨ (x.phase = 5 ∧ x.cm.phase ≤ 3)
 fate:x.phase = 5 → x.fate ≠ 0
structure Stay (x y:Rt):Prop where
 tries:x.tries ≤ y.tries
 st:stl x = true → stl y = true ∧ Wij y = Wij x ∧ y.fate = x.fate ∧ y.regs = x.regs ∧ y.order = x.order
structure RG (w:Wo) (x:Rt) (q:Wo × Rt):Prop where
 doom:q.2.doomed = false
 fate:q.2.phase = 5 → q.2.fate ≠ 0
 tries:q.2.tries = x.tries
 mem:q.1.mem = w.mem
 hist:q.1.hist = w.hist
section
variable {w:Wo} {x y z:Rt} {k:Nat} {p:Pg} {n:Int} {o:Opn}
theorem Stay.refl (x:Rt):Stay x x:=⟨Int.le_refl _,fun h=>⟨h,rfl,rfl,rfl,rfl⟩⟩
theorem Stay.trans (h:Stay x y) (h':Stay y z):Stay x z :=
 ⟨Int.le_trans h.tries h'.tries,fun hs=>by
  obtain ⟨a,b,c,d,e⟩:=h.st hs
  obtain ⟨a',b',c',d',e'⟩:=h'.st a
  exact ⟨a',b'.trans b,c'.trans c,d'.trans d,e'.trans e⟩⟩
theorem Stay.un (h:stl x = false) (ht:x.tries ≤ y.tries):Stay x y:=⟨ht,fun hs=>by rw [h] at hs; cases hs⟩
theorem Wqm (hd:x.doomed = false):(Wdb x).doomed = false ∧ (Wdb x).phase ≠ 5 ∧ (Wdb x).tries = x.tries:=by
 unfold Wdb Wow
 split
 ·exact ⟨rfl,by simp,rfl⟩
 ·exact ⟨hd,by simp,rfl⟩
theorem rClose_g (hd:x.doomed = false) {out:Int} (ho:out ≠ 0):RG w x (Woo w x k out):=by
 unfold Woo rEnd
 simp only
 generalize (if out = 2 then [] else x.writes) = rows
 split
 ·exact ⟨rfl,by simp,rfl,rfl,rfl⟩
 ·exact ⟨hd,fun _=>ho,rfl,rfl,rfl⟩
theorem rUndo_g (hd:x.doomed = false) (h5:x.phase ≠ 5):RG w x (Wmy w x):=⟨hd,fun h=>absurd h h5,rfl,rfl,rfl⟩
theorem rRead_g (hd:x.doomed = false) (h5:x.phase ≠ 5):(Wum w x o).doomed = false ∧ (Wum w x o).phase ≠ 5 ∧ (Wum w x o).tries = x.tries:=by
 unfold Wum
 cases Wey x.writes o.2.2.1 with
 | some v=>exact ⟨hd,h5,rfl⟩
 | none =>
  simp only
  generalize Wcp w.mem x.rv _ = b
  split
  ·exact Wqm (x:={ x with busy:=true,pb:=b }) hd
  ·split
   ·exact ⟨hd,h5,rfl⟩
   ·exact ⟨hd,h5,rfl⟩
theorem rAbort_g (hd:x.doomed = false) (h5:x.phase ≠ 5) {code:List Opn}:RG w x (Wqy w x k code):=by
 unfold Wqy
 split
 ·exact rClose_g hd (by omega)
 ·split
  ·exact rUndo_g hd h5
  ·exact ⟨hd,fun h=>absurd h h5,rfl,rfl,rfl⟩
theorem rBoost_g (hd:x.doomed = false) (h5:x.phase ≠ 5):RG w x (Wod w x k o):=by
 unfold Wod
 cases Wiq w.holds ((k:Int) + 1) (Wgm o).1 (Wgm o).2 with
 | none =>
  obtain ⟨a,b,c⟩:=Wqm hd
  exact ⟨a,fun h=>absurd h b,c,rfl,rfl⟩
 | some hs=>exact ⟨hd,fun h=>absurd h h5,rfl,rfl,rfl⟩
theorem rRun_g (hd:x.doomed = false) (h5:x.phase ≠ 5):RG w x (rRun w x k p):=by
 unfold rRun
 split
 ·exact rClose_g hd (by omega)
 ·simp only
  generalize opN p.1 x.pc = o
  split
  ·obtain ⟨a,b,c⟩:=rRead_g (w:=w) (o:=o) hd h5
   exact ⟨a,fun h=>absurd h b,c,rfl,rfl⟩
  ·split
   ·exact rAbort_g hd h5
   ·split
    ·exact ⟨hd,fun h=>by (change (2:Int) = 5 at h; omega),rfl,rfl,rfl⟩
    ·split
     ·exact rBoost_g hd h5
     ·repeat' split
      all_goals exact ⟨hd,fun h=>absurd h h5,rfl,rfl,rfl⟩
theorem rIdle_g (hd:x.doomed = false) (h5:x.phase ≠ 5):RG w x (Wqb w x k):=by
 unfold Wqb
 repeat' split
 all_goals first | exact ⟨hd,fun h=>absurd h h5,rfl,rfl,rfl⟩ | exact ⟨rfl,fun h=>by (change (1:Int) = 5 at h; omega),rfl,rfl,rfl⟩
theorem rFork_g (hd:x.doomed = false) (h5:x.phase ≠ 5):RG w x (w,Wrw x):=by
 unfold Wrw
 split
 ·exact ⟨rfl,fun h=>by (change (6:Int) = 5 at h; omega),rfl,rfl,rfl⟩
 ·split
  ·exact ⟨hd,fun h=>by (change (1:Int) = 5 at h; omega),rfl,rfl,rfl⟩
  ·exact ⟨hd,fun h=>absurd h h5,rfl,rfl,rfl⟩
theorem rUnwind_g (hd:x.doomed = false) (h5:x.phase ≠ 5):RG w x (Who w x):=by
 unfold Who
 split
 ·exact rUndo_g hd h5
 ·exact ⟨hd,fun h=>by (change (4:Int) = 5 at h; omega),rfl,rfl,rfl⟩
theorem rExtend_g (hd:x.doomed = false) (h5:x.phase ≠ 5):RG w x (w,Wgj w x):=by
 unfold Wgj
 split
 ·simp only
  split
  ·exact ⟨rfl,fun h=>by (change (6:Int) = 5 at h; omega),rfl,rfl,rfl⟩
  ·exact ⟨hd,fun h=>absurd h h5,rfl,rfl,rfl⟩
 ·exact ⟨hd,fun h=>by (change (1:Int) = 5 at h; omega),rfl,rfl,rfl⟩
theorem cmStep_clock (m:Mm) (c:Cm):m.1 ≤ (Wdy m c).1.1:=by
 have hs:∀ i w,(setW m i w).1 = m.1:=fun _ _=>rfl
 unfold Wdy Wtu Wll mLock tick
 simp only
 repeat' split
 all_goals first | exact Int.le_refl _ | (simp only [hs]; omega) | (simp only; omega)
structure RS (w:Wo) (x:Rt) (q:Wo × Rt):Prop where
 rx:RX q.2
 stay:Stay x q.2
 clock:w.mem.1 ≤ q.1.mem.1
 hist:∃ l,q.1.hist = w.hist ++ l
theorem RG.rs {q:Wo × Rt} (h:RG w x q) (hs:stl x = false):RS w x q:=⟨⟨(fun hd=>by rw [h.doom] at hd; cases hd),h.fate⟩,Stay.un hs (by rw [h.tries]; omega),by rw [h.mem]; omega,[],by rw [h.hist]; simp⟩
theorem advTo6 (c:Cm):Wno c 6 = 6:=by unfold Wno; rw [if_neg (by omega),if_neg (by omega)]
theorem advTo5 (c:Cm):Wno c 5 = 5:=by unfold Wno; rw [if_neg (by omega),if_neg (by omega)]
theorem cmNext45 {c:Cm} {ph:Int} (h:ph = 5 ∨ ph = 6):(Wdx c ph).wv = c.wv ∧ ((Wdx c ph).phase = c.phase ∨ (Wdx c ph).phase = ph):=by
 unfold Wdx
 split
 ·refine ⟨rfl,.inr ?_⟩
  show Wno c ph = ph
  rcases h with rfl | rfl
  ·exact advTo5 c
  ·exact advTo6 c
 ·exact ⟨rfl,.inl rfl⟩
theorem rCommit_s (hx:RX x) (h5:x.phase = 5):RS w x (Wgi w x k):=by
 unfold Wgi
 split
 ·rename_i hd
  have h3:x.cm.phase ≤ 3:=by rcases hx.doom hd with h | h <;> omega
  have hun:stl x = false:=by rw [Bool.eq_false_iff,Ne,Wed]; omega
  split
  ·exact ⟨⟨(fun hd=>by cases hd),fun h=>by (change (6:Int) = 5 at h; omega)⟩,Stay.un hun (Int.le_refl _),Int.le_refl _,[],by simp⟩
  ·exact ⟨⟨(fun hd=>by cases hd),hx.fate⟩,Stay.un hun (Int.le_refl _),Int.le_refl _,[],by simp⟩
 ·rename_i hd
  have hd':x.doomed = false:=by simpa using hd
  have hck:=cmStep_clock w.mem x.cm
  have hf:=hx.fate h5
  simp only
  refine ⟨?_,?_,hck,?_⟩
  ·unfold Wqo Wow
   simp only
   split
   ·exact ⟨(fun hd=>by cases hd),fun h=>by (change (6:Int) = 5 at h; omega)⟩
   ·split
    ·have hph:(if x.fate = 2 then (6:Int) else 7) ≠ 5:=by split <;> omega
     exact ⟨(fun hd=>by (change x.doomed = true at hd; rw [hd'] at hd; cases hd)),fun h=>absurd h hph⟩
    ·exact ⟨(fun hd=>by (change x.doomed = true at hd; rw [hd'] at hd; cases hd)),fun _=>hf⟩
  ·have htr:(Wqo { x with cm:=(Wdy w.mem x.cm).2 }).tries = x.tries:=by
    unfold Wqo Wow; simp only; split
    ·rfl
    ·split <;> rfl
   refine ⟨by rw [htr]; omega,fun hs=>?_⟩
   have hsx:=Wed.1 hs
   have hst:Wij x = x.cm.wv:=by unfold Wij; rw [if_pos hs,if_pos h5]
   have key:(Wdy w.mem x.cm).2.wv = x.cm.wv ∧ ((Wdy w.mem x.cm).2.phase = 4 ∨ (Wdy w.mem x.cm).2.phase = 5 ∨ (Wdy w.mem x.cm).2.phase = 6):=by
    unfold Wdy
    simp only
    have e45:=hsx
    rcases (show x.cm.phase = 4 ∨ x.cm.phase = 5 by omega) with h4 | h4
    ·rw [if_neg (by omega),if_neg (by omega),if_neg (by omega),if_pos h4]
     have:=cmNext45 (c:=x.cm) (ph:=5) (.inl rfl)
     exact ⟨this.1,by show (Wdx x.cm 5).phase = 4 ∨ (Wdx x.cm 5).phase = 5 ∨ (Wdx x.cm 5).phase = 6; omega⟩
    ·rw [if_neg (by omega),if_neg (by omega),if_neg (by omega),if_neg (by omega),if_pos h4]
     have:=cmNext45 (c:=x.cm) (ph:=6) (.inr rfl)
     exact ⟨this.1,by show (Wdx x.cm 6).phase = 4 ∨ (Wdx x.cm 6).phase = 5 ∨ (Wdx x.cm 6).phase = 6; omega⟩
   obtain ⟨k1,k2⟩:=key
   rw [hst]
   generalize (Wdy w.mem x.cm).2 = c at *
   unfold Wqo
   simp only
   rw [if_neg (by omega)]
   by_cases h6:c.phase = 6
   ·rw [if_pos h6]
    have hph:(if x.fate = 2 then (6:Int) else 7) = 6 ∨ (if x.fate = 2 then (6:Int) else 7) = 7:=by split <;> simp
    generalize (if x.fate = 2 then (6:Int) else 7) = ph at *
    have hss:stl { x with stamp:=c.wv,cm:={},phase:=ph } = true:=Wed.2 (.inr (.inr ⟨hph,hf⟩))
    refine ⟨hss,?_,rfl,rfl,rfl⟩
    unfold Wij
    rw [if_pos hss,if_neg (by show ¬ ph = 5; omega)]
    exact k1
   ·rw [if_neg h6]
    have hss:stl { x with cm:=c } = true:=Wed.2 (.inr (.inl ⟨h5,by show c.phase = 4 ∨ c.phase = 5; omega⟩))
    refine ⟨hss,?_,rfl,rfl,rfl⟩
    unfold Wij
    rw [if_pos hss,if_pos h5]
    exact k1
  ·split
   ·exact ⟨_,rfl⟩
   ·exact ⟨[],by simp⟩
theorem rStep_s (hx:RX x) (hph:0 ≤ x.phase ∧ x.phase ≤ 8):RS w x (Wwj w x k p):=by
 have hun:x.phase ≤ 4 → stl x = false:=fun h=>by rw [Bool.eq_false_iff,Ne,Wed]; omega
 unfold Wwj
 by_cases hd:x.doomed = true ∧ 1 ≤ x.phase ∧ x.phase ≤ 4
 ·rw [if_pos hd]
  exact ⟨⟨(fun hd=>by cases hd),fun h=>by (change (6:Int) = 5 at h; omega)⟩,Stay.un (hun (by omega)) (Int.le_refl _),Int.le_refl _,[],by simp⟩
 rw [if_neg hd]
 have hd':x.phase ≠ 5 → x.doomed = false:=fun h5=>by
  rw [Bool.eq_false_iff]
  intro h
  rcases hx.doom h with h1 | h1
  ·exact hd ⟨h,h1⟩
  ·exact h5 h1.1
 by_cases h0:x.phase = 0
 ·rw [if_pos h0]; exact (rIdle_g (hd' (by omega)) (by omega)).rs (hun (by omega))
 rw [if_neg h0]
 by_cases h1:x.phase = 1
 ·rw [if_pos h1]; exact (rRun_g (hd' (by omega)) (by omega)).rs (hun (by omega))
 rw [if_neg h1]
 by_cases h2:x.phase = 2
 ·rw [if_pos h2]; exact (rFork_g (hd' (by omega)) (by omega)).rs (hun (by omega))
 rw [if_neg h2]
 by_cases h3:x.phase = 3
 ·rw [if_pos h3]; exact (rUnwind_g (hd' (by omega)) (by omega)).rs (hun (by omega))
 rw [if_neg h3]
 by_cases h4:x.phase = 4
 ·rw [if_pos h4]; exact (rExtend_g (hd' (by omega)) (by omega)).rs (hun (by omega))
 rw [if_neg h4]
 by_cases h5:x.phase = 5
 ·rw [if_pos h5]; exact rCommit_s hx h5
 rw [if_neg h5]
 have hdd:=hd' h5
 by_cases h6:x.phase = 6
 ·rw [if_pos h6]
  have hrx:∀ ph,ph ≠ 5 → RX { x with phase:=ph }:=fun ph hp=>⟨(fun hd=>by (change x.doomed = true at hd; rw [hdd] at hd; cases hd)),fun h=>absurd h hp⟩
  by_cases hz:x.undos.length > 0
  ·rw [if_pos hz]
   refine ⟨⟨(fun hd=>by (change x.doomed = true at hd; rw [hdd] at hd; cases hd)),fun h=>absurd h h5⟩,⟨Int.le_refl _,fun hs=>?_⟩,Int.le_refl _,[],by simp [Wmy]⟩
   have hss:stl (Wmy w x).2 = true:=by
    have:=Wed.1 hs
    rw [Wed]
    show x.phase = 8 ∨ (x.phase = 5 ∧ _) ∨ ((x.phase = 6 ∨ x.phase = 7) ∧ x.fate ≠ 0)
    omega
   refine ⟨hss,?_,rfl,rfl,rfl⟩
   unfold Wij
   rw [if_pos hss,if_pos hs]
   rfl
  ·rw [if_neg hz]
   refine ⟨hrx 7 (by omega),⟨Int.le_refl _,fun hs=>?_⟩,Int.le_refl _,[],by simp⟩
   have hss:stl { x with phase:=7 } = true:=by
    have:=Wed.1 hs
    exact Wed.2 (.inr (.inr ⟨.inr rfl,by show x.fate ≠ 0; omega⟩))
   refine ⟨hss,?_,rfl,rfl,rfl⟩
   unfold Wij
   rw [if_pos hss,if_pos hs,if_neg h5,if_neg (by show ¬ (7:Int) = 5; omega)]
 rw [if_neg h6]
 by_cases h7:x.phase = 7
 ·rw [if_pos h7]
  by_cases hf:x.fate = 0
  ·rw [if_pos hf]
   have hns:stl x = false:=by rw [Bool.eq_false_iff,Ne,Wed]; omega
   exact ⟨⟨(fun hd=>by cases hd),fun h=>by (change (0:Int) = 5 at h; omega)⟩,Stay.un hns (by show x.tries ≤ x.tries + 1; omega),Int.le_refl _,[],by simp⟩
  ·rw [if_neg hf]
   refine ⟨⟨(fun hd=>by cases hd),fun h=>by (change (8:Int) = 5 at h; omega)⟩,⟨Int.le_refl _,fun hs=>?_⟩,Int.le_refl _,[],by simp [rEnd]⟩
   have hss:stl (rEnd { w with holds:=War w.holds ((k:Int) + 1) } x k).2 = true:=Wed.2 (.inl rfl)
   refine ⟨hss,?_,rfl,rfl,rfl⟩
   unfold Wij
   rw [if_pos hss,if_pos hs,if_neg h5]
   rfl
 ·rw [if_neg h7]; exact ⟨hx,Stay.refl x,Int.le_refl _,[],by simp⟩
end
def WX (w:Wo):Prop:=∀ (i:Nat) (h:i < w.roots.length),RX w.roots[i]
structure WStay (w v:Wo):Prop where
 len:w.roots.length = v.roots.length
 root:∀ (i:Nat) (h:i < w.roots.length) (h':i < v.roots.length),Stay w.roots[i] v.roots[i]
 hist:∃ l,v.hist = w.hist ++ l
 clock:w.mem.1 ≤ v.mem.1
section
variable {s:Sc} {w v u:Wo} {n:Int} {a:Ac} {k:Nat}
theorem WStay.refl (w:Wo):WStay w w:=⟨rfl,fun i h h'=>Stay.refl _,⟨[],by simp⟩,Int.le_refl _⟩
theorem WStay.trans (h:WStay w v) (h':WStay v u):WStay w u:=by
 obtain ⟨l,hl⟩:=h.hist
 obtain ⟨l',hl'⟩:=h'.hist
 exact ⟨h.len.trans h'.len,fun i a b=>(h.root i a (by rw [← h.len]; exact a)).trans (h'.root i (by rw [← h.len]; exact a) b),⟨l ++ l',by rw [hl',hl,List.append_assoc]⟩,Int.le_trans h.clock h'.clock⟩
theorem Wwl {q:Wo × Rt} {w0:Wo} (hx:WX w0) (hk:k < w0.roots.length) (hr:q.1.roots = w0.roots) (hq:RS w0 w0.roots[k] q):WX (Wo.put q k) ∧ WStay w0 (Wo.put q k):=by
 have hlen:(q.1.roots.set k q.2).length = w0.roots.length:=by rw [List.length_set,hr]
 refine ⟨fun i hi=>?_,hlen.symm,fun i hi hi'=>?_,hq.hist,hq.clock⟩
 ·change i < (q.1.roots.set k q.2).length at hi
  show RX (q.1.roots.set k q.2)[i]
  rw [List.getElem_set]
  by_cases he:k = i
  ·rw [if_pos he]; exact hq.rx
  ·rw [if_neg he]; simp only [hr]; exact hx i (by rw [← hlen]; exact hi)
 ·have hi'':i < (q.1.roots.set k q.2).length:=hi'
  show Stay _ ((q.1.roots.set k q.2)[i]'hi'')
  rw [List.getElem_set]
  by_cases he:k = i
  ·subst he; rw [if_pos rfl]; exact hq.stay
  ·rw [if_neg he]; simp only [hr]; exact Stay.refl _
theorem rRoots (h:WOk s.2.1 n w) (hk:k < w.roots.length):(Wwj { w with now:=w.now + 1 } w.roots[k] k (s.2.1.getD k pg0)).1.roots = w.roots :=
 (rStep_ok (w:={ w with now:=w.now + 1 }) (k:=k) (pg_get h.progs (by rw [← h.len]; exact hk)) ⟨h.mem,h.shelf,h.holds⟩ (h.root k hk) (by have:=h.l4; have:=h.len; omega) h.n0).roots
theorem wAct_stay (h:WOk s.2.1 n w) (hx:WX w):WX (wAct s w a) ∧ WStay w (wAct s w a):=by
 have hx1:WX { w with now:=w.now + 1 }:=hx
 have hs1:WStay w { w with now:=w.now + 1 }:=⟨rfl,fun i h h'=>Stay.refl _,⟨[],by simp⟩,Int.le_refl _⟩
 unfold wAct
 simp only
 split
 ·rename_i hb
  have hk:a.2.1.toNat < w.roots.length:=by omega
  rw [Wae hk]
  have hxk:=hx _ hk
  split
  ·unfold wStep
   rw [Wae (show a.2.1.toNat < ({ w with now:=w.now + 1 }:Wo).roots.length from hk)]
   obtain ⟨c,d⟩:=Wwl (w0:={ w with now:=w.now + 1 }) hx1 hk (rRoots h hk) (rStep_s hxk (h.root _ hk).phase)
   exact ⟨c,hs1.trans d⟩
  ·split
   ·split
    ·rename_i hf
     have hph:=hf.1
     obtain ⟨c,d⟩:=Wwl (w0:={ w with now:=w.now + 1 }) (q:=({ w with now:=w.now + 1 },{ w.roots[a.2.1.toNat] with fam:=Wxb w.mem w.roots[a.2.1.toNat].fam a.2.2.toNat ((s.2.1.getD a.2.1.toNat pg0).2.getD a.2.2.toNat []) })) hx1 hk rfl
      ⟨⟨hxk.doom,hxk.fate⟩,Stay.un (by rw [Bool.eq_false_iff,Ne,Wed,hph]; omega) (Int.le_refl _),Int.le_refl _,[],by simp⟩
     exact ⟨c,hs1.trans d⟩
    ·exact ⟨hx1,hs1⟩
   ·split
    ·split
     ·rename_i hf
      have hns:stl w.roots[a.2.1.toNat] = false:=by rw [Bool.eq_false_iff,Ne,Wed]; omega
      obtain ⟨c,d⟩:=Wwl (w0:={ w with now:=w.now + 1 }) (q:=({ w with now:=w.now + 1 },{ w.roots[a.2.1.toNat] with doomed:=true })) hx1 hk rfl
       ⟨⟨fun _=>hf,hxk.fate⟩,Stay.un hns (Int.le_refl _),Int.le_refl _,[],by simp⟩
      exact ⟨c,hs1.trans d⟩
     ·exact ⟨hx1,hs1⟩
    ·exact ⟨hx1,hs1⟩
 ·exact ⟨hx1,hs1⟩
theorem Wpv:∀ (l:List Ac) (n:Int) (w:Wo),WOk s.2.1 n w → WX w → WX (l.foldl (wAct s) w) ∧ WStay w (l.foldl (wAct s) w)
 | [],n,w,h,hx=>⟨hx,WStay.refl w⟩
 | a :: l,n,w,h,hx=>by
  obtain ⟨c,d⟩:=wAct_stay (a:=a) h hx
  obtain ⟨e,f⟩:=Wpv l (n + 1) _ (wAct_ok (a:=a) h) c
  exact ⟨e,d.trans f⟩
theorem wNew_x:WX (wNew s):=fun i h=>by
 simp only [wNew,List.getElem_replicate]
 exact ⟨(fun hd=>by cases hd),fun h=>by (change (0:Int) = 5 at h; omega)⟩
end
end Go.Sx
