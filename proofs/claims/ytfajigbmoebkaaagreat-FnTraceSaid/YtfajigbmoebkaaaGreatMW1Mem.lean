/- Plain laws of the Lean functions. -/
import Derived.Test.YtfajigbmoebkaaaGreatMW1Stk

namespace Go.Sx
set_option linter.unusedVariables false
set_option linter.unusedSimpArgs false
abbrev Wd:=Int × Int × Int
abbrev Mm:=Int × List Wd
theorem Wif {α:Type} (a:Option α):both a a = a:=by unfold both; simp
def isWd (clock:Int) (w:Wd):Bool:=Wct w.1 && ((decide (0 ≤ w.2.1) && decide (w.2.1 ≤ clock)) && (decide (0 ≤ w.2.2) && decide (w.2.2 ≤ 99)))
def Wbi (m:Mm):Bool:=decide (m.2.length = 8) && ((decide (0 ≤ m.1) && decide (m.1 ≤ 1000000)) && m.2.all (isWd m.1))
theorem Wcl {N:Nat} {m:Mm} (hl:m.2.length ≤ 1048576) (hN:1048576 < N):Zb1 N m = ret (Wbi m):=by
 unfold Zb1 Wbi
 have h1:=Wad (l:=m.2) (V:=Unit) (R:=Unit × (Bool × Unit)) (lp:=fun n j v=>Zef N m.2 m (some ((),(false,()))) (fun t17 t18 =>
  (bif (ilen m.2) == (8:Int) then
  ((Zm N m.1 (0:Int) (1000000:Int)).bind fun o19 =>
  (some ((),(o19.2.1,()))))
  else
  (some ((),(false,()))))) n j) (n:=N) (by omega)
  (body:=fun j x v k=>bif !isWd m.1 x then some ((),(false,())) else k v) (K:=fun _ v=>(bif (ilen m.2) == (8:Int) then
  ((Zm N m.1 (0:Int) (1000000:Int)).bind fun o19 =>
  (some ((),(o19.2.1,()))))
  else
  (some ((),(false,())))))
  (fun n i v hi=>by
   simp only [Zef,Wba hi,Wp hi,Wu hi,Wi (show i < 4611686018427387904 by omega),cond_true,Wl,Wk,ret,Option.bind_some,isWd]
   cases Wct m.2[i].1 <;> cases (decide (0 ≤ m.2[i].2.1) && decide (m.2[i].2.1 ≤ m.1)) <;> cases (decide (0 ≤ m.2[i].2.2) && decide (m.2[i].2.2 ≤ 99)) <;> rfl)
  (fun n v=>by simp only [Zef,Wbj (Nat.le_refl m.2.length),cond_false]) ()
 refine h1.trans ?_
 rw [Wbm (p:=fun x=>!isWd m.1 x) (E:=fun _=>some ((),(false,()))) m.2 0 () (fun j x v k _=>rfl),Weu]
 have e:((ilen m.2) == (8:Int)) = decide (m.2.length = 8):=by
  by_cases h:m.2.length = 8
  ·simp [ilen,h]
  ·simp [ilen,h]; omega
 simp only [e,Wk,ret,Option.bind_some]
 cases m.2.all (isWd m.1) <;> cases decide (m.2.length = 8) <;> simp
def wd0 (v:Int):Wd:=(v,(0,0))
def memNew (l:List Int):Mm:=(0,l.map wd0)
theorem Wgz {α β R:Type} {body:Int → α → List β → (List β → Option R) → Option R} {K:Int → List β → Option R} {f:α → β}:∀ (l:List α) (j:Nat) (o:List β),o.length + l.length ≤ 1000000 →
  (∀ (j:Nat) x (v:List β) k,x ∈ l → body j x v k = bif room (v.length + [f x].length) then k (List.append v [f x]) else none) → Wdv body K l j o = K ((j + l.length:Nat):Int) (o ++ l.map f)
 | [],j,o,_,_=>by simp [Wdv]
 | x :: l,j,o,h,hb=>by
  rw [List.length_cons] at h
  rw [Wdv,hb j x o _ (List.mem_cons_self ..),Ws (by simp; omega)]
  simp only [cond_true]
  rw [Wgz l (j + 1) _ (by simp [List.append_eq]; omega) fun j y v k hy=>hb j y v k (List.mem_cons_of_mem _ hy)]
  rw [List.length_cons,show j + 1 + l.length = j + (l.length + 1) by omega]
  simp
theorem Wki {N:Nat} {l:List Int} (h:Wiq l = true) (hN:1048576 < N):Zak N l = some ((),(memNew l,(true,()))):=by
 have hl:l.length = 8:=by unfold Wiq at h; simp at h; exact h.1
 unfold Zak
 simp only [Wob (show l.length ≤ 1048576 by omega) hN,ret,Option.bind_some,h,Bool.not_true,cond_false]
 have h1:=Wad (l:=l) (V:=List Wd) (R:=Unit × (Mm × (Bool × Unit))) (lp:=fun n j v=>Zdc N l (fun t12 t13 l14=>(some ((),(((0:Int),l14),(true,()))))) n j v) (n:=N) (by omega)
  (body:=fun j x v k=>bif room (v.length + [wd0 x].length) then k (List.append v [wd0 x]) else none) (K:=fun _ v=>some ((),(((0:Int),v),(true,()))))
  (fun n i v hi=>by simp only [Zdc,Wba hi,Wp hi,Wu hi,Wi (show i < 4611686018427387904 by omega),cond_true,wd0])
  (fun n v=>by simp only [Zdc,Wbj (Nat.le_refl l.length),cond_false]) []
 refine h1.trans ?_
 rw [Wgz (f:=wd0) l 0 [] (by simp; omega) (fun j x v k _=>rfl)]
 rfl
theorem Wan {m:Mm} (h:Wbi m = true):m.2.length = 8 ∧ 0 ≤ m.1 ∧ m.1 ≤ 1000000 ∧ ∀ w ∈ m.2,isWd m.1 w = true:=by
 unfold Wbi at h
 simp only [Bool.and_eq_true,decide_eq_true_eq,List.all_eq_true] at h
 exact ⟨h.1,h.2.1.1,h.2.1.2,h.2.2⟩
def tick (m:Mm):Mm × Int:=if m.1 < 1000000 then ((m.1 + 1,m.2),m.1 + 1) else (m,0)
theorem implTick_run {N:Nat} {m:Mm} (h:Wbi m = true) (hN:1048576 < N):Zow N m = some ((),((tick m).1,((tick m).2,()))):=by
 obtain ⟨h8,h0,h1,_⟩:=Wan h
 have e:Zcb N m = ret m:=by unfold Zcb; rw [Ws (by omega)]; rfl
 unfold Zow tick
 simp only [e,Wcl (show m.2.length ≤ 1048576 by omega) hN,ret,Option.bind_some,h,Bool.not_true,cond_false]
 by_cases hc:m.1 < 1000000
 ·have e2:(m.1 == 1000000) = false:=by simp; omega
  have e3:iadd .i64 m.1 1 = m.1 + 1:=Wz (by unfold I64; omega)
  rw [e2,if_pos hc,e3]; rfl
 ·have e2:(m.1 == 1000000) = true:=by simp; omega
  rw [e2,if_neg hc]; rfl
abbrev Pb:=Int × Int × Int × Int
def pbOk (p:Pb):Bool:=Way p.1 && ((decide (0 ≤ p.2.1) && decide (p.2.1 ≤ 4)) && ((decide (0 ≤ p.2.2.1) && decide (p.2.2.1 ≤ 1000000)) && Wct p.2.2.2))
theorem Wze {N:Nat} {p:Pb}:Zl0 N p = ret (pbOk p):=by
 unfold Zl0 pbOk
 simp only [Wj,Wk,Wl,ret,Option.bind_some]
 cases Way p.1 <;> cases (decide (0 ≤ p.2.1) && decide (p.2.1 ≤ 4)) <;> cases (decide (0 ≤ p.2.2.1) && decide (p.2.2.1 ≤ 1000000)) <;> simp
def Wcs (m:Mm) (rv:Int) (p:Pb):Pb :=
 let w:=List.getD m.2 (Int.toNat p.1) (0,(0,0))
 bif p.2.1 == 0 then (bif w.2.2 == 0 then (bif decide (w.2.1 ≤ rv) then (p.1,(1,(w.2.1,p.2.2.2))) else (p.1,(4,p.2.2))) else (p.1,(4,p.2.2)))
 else bif p.2.1 == 1 then (p.1,(2,(p.2.2.1,w.1)))
 else bif p.2.1 == 2 then (bif w.2.2 == 0 then (bif w.2.1 == p.2.2.1 then (p.1,(3,p.2.2)) else (p.1,(4,p.2.2))) else (p.1,(4,p.2.2)))
 else p
theorem pb_inb {m:Mm} {p:Pb} (h:Wbi m = true) (hp:pbOk p = true):inb p.1 m.2.length = true:=by
 have h1:=(Wan h).1
 unfold pbOk Way at hp
 simp at hp
 unfold inb
 rw [h1]; simp; omega
theorem Wjw {N:Nat} {m:Mm} {rv:Int} {p:Pb} (h:Wbi m = true) (hp:pbOk p = true) (hN:1048576 < N):Zeg N m rv p = ret (Wcs m rv p):=by
 have h1:=(Wan h).1
 unfold Zeg Wcs
 simp only [Wcl (show m.2.length ≤ 1048576 by omega) hN,Wze,ret,Option.bind_some,h,hp,Bool.not_true,cond_false,pb_inb h hp,cond_true]
 generalize List.getD m.2 (Int.toNat p.1) (0,(0,0)) = w
 cases p.2.1 == 0 <;> cases p.2.1 == 1 <;> cases p.2.1 == 2 <;> cases w.2.2 == 0 <;> cases decide (w.2.1 ≤ rv) <;> cases w.2.1 == p.2.2.1 <;> rfl
def Wpn (l:List Rw) (c:Int):Nat → Option Int
 | 0=>none
 | i + 1=>if (List.getD l i (0,0)).1 = c then some (List.getD l i (0,0)).2 else Wpn l c i
def Wfe (l:List Rw) (c:Int):Option Int:=if Wcn l = true then Wpn l c l.length else none
def opI (o:Option Int):Option (Unit × (Int × (Bool × Unit))):=match o with
 | none=>some ((),((0:Int),(false,())))
 | some v=>some ((),(v,(true,())))
theorem Wqj {N:Nat} {l:List Rw} {c:Int} (hl:l.length ≤ 1048576):∀ (i n:Nat),i < n → i ≤ l.length → Zg1 N l c (fun t10=>(some ((),(t10,(true,()))))) (fun i11 t12=>(some ((),((0:Int),(false,()))))) n ((i:Int) - 1) = opI (Wpn l c i)
 | i,0,h,_=>by omega
 | 0,n + 1,h,_=>rfl
 | i + 1,n + 1,h,hi=>by
  have e:((i + 1:Nat):Int) - 1 = (i:Int):=by omega
  have e1:decide ((i:Int) ≥ 0) = true:=by simp
  have e2:isub .i64 (i:Int) 1 = (i:Int) - 1:=Wap (by unfold I64; omega)
  rw [e,Zg1,e1,Wp (show i < l.length by omega),e2,Wpn,Int.toNat_natCast]
  simp only [cond_true]
  by_cases hc:(List.getD l i ((0:Int),(0:Int))).1 = c
  ·rw [if_pos hc,beq_iff_eq.2 hc]; rfl
  ·rw [if_neg hc,beq_eq_false_iff_ne.2 hc]
   exact Wqj hl i n (by omega) (by omega)
theorem len_m1 {α:Type} {l:List α} (hl:l.length ≤ 1048576):isub .i64 (ilen l) 1 = ((l.length:Nat):Int) - 1:=by unfold ilen; exact Wap (by unfold I64; omega)
theorem Wjg {N:Nat} {l:List Rw} {c:Int} (hl:l.length ≤ 1048576) (hN:1048576 < N):Zff N l c = opI (Wfe l c):=by
 unfold Zff Wfe
 simp only [Wen hl hN,ret,Option.bind_some]
 cases Wcn l
 ·rfl
 ·simp only [Bool.not_true,cond_false,if_true,len_m1 hl]
  exact Wqj hl l.length N (by omega) (Nat.le_refl _)
end Go.Sx
