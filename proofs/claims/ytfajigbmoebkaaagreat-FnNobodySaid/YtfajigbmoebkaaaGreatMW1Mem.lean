/- Plain laws of the Lean functions. -/
import Derived.Test.YtfajigbmoebkaaaGreatMW1Stk

namespace Go.Sx
set_option linter.unusedVariables false
set_option linter.unusedSimpArgs false
abbrev Wd:=Int × Int × Int
abbrev Mm:=Int × List Wd
theorem Wix {α:Type} (a:Option α):both a a = a:=by unfold both; simp
def isWd (clock:Int) (w:Wd):Bool:=Wcx w.1 && ((decide (0 ≤ w.2.1) && decide (w.2.1 ≤ clock)) && (decide (0 ≤ w.2.2) && decide (w.2.2 ≤ 99)))
def Wbj (m:Mm):Bool:=decide (m.2.length = 8) && ((decide (0 ≤ m.1) && decide (m.1 ≤ 1000000)) && m.2.all (isWd m.1))
theorem Wcm {N:Nat} {m:Mm} (hl:m.2.length ≤ 1048576) (hN:1048576 < N):Zb3 N m = ret (Wbj m):=by
 unfold Zb3 Wbj
 have h1:=Wy (l:=m.2) (V:=Unit) (R:=Unit × (Bool × Unit)) (lp:=fun n j v=>Zem N m.2 m (some ((),(false,()))) (fun t17 t18 =>
  (bif (ilen m.2) == (8:Int) then
  ((Zq N m.1 (0:Int) (1000000:Int)).bind fun o19 =>
  (some ((),(o19.2.1,()))))
  else
  (some ((),(false,()))))) n j) (n:=N) (by omega)
  (body:=fun j x v k=>bif !isWd m.1 x then some ((),(false,())) else k v) (K:=fun _ v=>(bif (ilen m.2) == (8:Int) then
  ((Zq N m.1 (0:Int) (1000000:Int)).bind fun o19 =>
  (some ((),(o19.2.1,()))))
  else
  (some ((),(false,())))))
  (fun n i v hi=>by
   simp only [Zem,Waw hi,Wn hi,Wp hi,Wh (show i < 4611686018427387904 by omega),cond_true,Wk,Wl,ret,Option.bind_some,isWd]
   cases Wcx m.2[i].1 <;> cases (decide (0 ≤ m.2[i].2.1) && decide (m.2[i].2.1 ≤ m.1)) <;> cases (decide (0 ≤ m.2[i].2.2) && decide (m.2[i].2.2 ≤ 99)) <;> rfl)
  (fun n v=>by simp only [Zem,Wbi (Nat.le_refl m.2.length),cond_false]) ()
 refine h1.trans ?_
 rw [Wbn (p:=fun x=>!isWd m.1 x) (E:=fun _=>some ((),(false,()))) m.2 0 () (fun j x v k _=>rfl),Wey]
 have e:((ilen m.2) == (8:Int)) = decide (m.2.length = 8):=by
  by_cases h:m.2.length = 8
  ·simp [ilen,h]
  ·simp [ilen,h]; omega
 simp only [e,Wl,ret,Option.bind_some]
 cases m.2.all (isWd m.1) <;> cases decide (m.2.length = 8) <;> simp
def wd0 (v:Int):Wd:=(v,(0,0))
def memNew (l:List Int):Mm:=(0,l.map wd0)
theorem Wgv {α β R:Type} {body:Int → α → List β → (List β → Option R) → Option R} {K:Int → List β → Option R} {f:α → β}:∀ (l:List α) (j:Nat) (o:List β),o.length + l.length ≤ 1000000 →
  (∀ (j:Nat) x (v:List β) k,x ∈ l → body j x v k = bif room (v.length + [f x].length) then k (List.append v [f x]) else none) → Wex body K l j o = K ((j + l.length:Nat):Int) (o ++ l.map f)
 | [],j,o,_,_=>by simp [Wex]
 | x :: l,j,o,h,hb=>by
  rw [List.length_cons] at h
  rw [Wex,hb j x o _ (List.mem_cons_self ..),Ws (by simp; omega)]
  simp only [cond_true]
  rw [Wgv l (j + 1) _ (by simp [List.append_eq]; omega) fun j y v k hy=>hb j y v k (List.mem_cons_of_mem _ hy)]
  rw [List.length_cons,show j + 1 + l.length = j + (l.length + 1) by omega]
  simp
theorem Wrm {N:Nat} {l:List Int} (h:Wiv l = true) (hN:1048576 < N):Zbj N l = some ((),(memNew l,(true,()))):=by
 have hl:l.length = 8:=by unfold Wiv at h; simp at h; exact h.1
 unfold Zbj
 simp only [Wny (show l.length ≤ 1048576 by omega) hN,ret,Option.bind_some,h,Bool.not_true,cond_false]
 have h1:=Wy (l:=l) (V:=List Wd) (R:=Unit × (Mm × (Bool × Unit))) (lp:=fun n j v=>Zdi N l (fun t12 t13 l14=>(some ((),(((0:Int),l14),(true,()))))) n j v) (n:=N) (by omega)
  (body:=fun j x v k=>bif room (v.length + [wd0 x].length) then k (List.append v [wd0 x]) else none) (K:=fun _ v=>some ((),(((0:Int),v),(true,()))))
  (fun n i v hi=>by simp only [Zdi,Waw hi,Wn hi,Wp hi,Wh (show i < 4611686018427387904 by omega),cond_true,wd0])
  (fun n v=>by simp only [Zdi,Wbi (Nat.le_refl l.length),cond_false]) []
 refine h1.trans ?_
 rw [Wgv (f:=wd0) l 0 [] (by simp; omega) (fun j x v k _=>rfl)]
 rfl
theorem Waj {m:Mm} (h:Wbj m = true):m.2.length = 8 ∧ 0 ≤ m.1 ∧ m.1 ≤ 1000000 ∧ ∀ w ∈ m.2,isWd m.1 w = true:=by
 unfold Wbj at h
 simp only [Bool.and_eq_true,decide_eq_true_eq,List.all_eq_true] at h
 exact ⟨h.1,h.2.1.1,h.2.1.2,h.2.2⟩
def tick (m:Mm):Mm × Int:=if m.1 < 1000000 then ((m.1 + 1,m.2),m.1 + 1) else (m,0)
theorem Wya {N:Nat} {m:Mm} (h:Wbj m = true) (hN:1048576 < N):Zoz N m = some ((),((tick m).1,((tick m).2,()))):=by
 obtain ⟨h8,h0,h1,_⟩:=Waj h
 have e:Zce N m = ret m:=by unfold Zce; rw [Ws (by omega)]; rfl
 unfold Zoz tick
 simp only [e,Wcm (show m.2.length ≤ 1048576 by omega) hN,ret,Option.bind_some,h,Bool.not_true,cond_false]
 by_cases hc:m.1 < 1000000
 ·have e2:(m.1 == 1000000) = false:=by simp; omega
  have e3:iadd .i64 m.1 1 = m.1 + 1:=Wx (by unfold I64; omega)
  rw [e2,if_pos hc,e3]; rfl
 ·have e2:(m.1 == 1000000) = true:=by simp; omega
  rw [e2,if_neg hc]; rfl
abbrev Pb:=Int × Int × Int × Int
def pbOk (p:Pb):Bool:=Waz p.1 && ((decide (0 ≤ p.2.1) && decide (p.2.1 ≤ 4)) && ((decide (0 ≤ p.2.2.1) && decide (p.2.2.1 ≤ 1000000)) && Wcx p.2.2.2))
theorem Wyv {N:Nat} {p:Pb}:Zlz N p = ret (pbOk p):=by
 unfold Zlz pbOk
 simp only [Wj,Wl,Wk,ret,Option.bind_some]
 cases Waz p.1 <;> cases (decide (0 ≤ p.2.1) && decide (p.2.1 ≤ 4)) <;> cases (decide (0 ≤ p.2.2.1) && decide (p.2.2.1 ≤ 1000000)) <;> simp
def Wct (m:Mm) (rv:Int) (p:Pb):Pb :=
 let w:=List.getD m.2 (Int.toNat p.1) (0,(0,0))
 bif p.2.1 == 0 then (bif w.2.2 == 0 then (bif decide (w.2.1 ≤ rv) then (p.1,(1,(w.2.1,p.2.2.2))) else (p.1,(4,p.2.2))) else (p.1,(4,p.2.2)))
 else bif p.2.1 == 1 then (p.1,(2,(p.2.2.1,w.1)))
 else bif p.2.1 == 2 then (bif w.2.2 == 0 then (bif w.2.1 == p.2.2.1 then (p.1,(3,p.2.2)) else (p.1,(4,p.2.2))) else (p.1,(4,p.2.2)))
 else p
theorem pb_inb {m:Mm} {p:Pb} (h:Wbj m = true) (hp:pbOk p = true):inb p.1 m.2.length = true:=by
 have h1:=(Waj h).1
 unfold pbOk Waz at hp
 simp at hp
 unfold inb
 rw [h1]; simp; omega
theorem Wjp {N:Nat} {m:Mm} {rv:Int} {p:Pb} (h:Wbj m = true) (hp:pbOk p = true) (hN:1048576 < N):Zen N m rv p = ret (Wct m rv p):=by
 have h1:=(Waj h).1
 unfold Zen Wct
 simp only [Wcm (show m.2.length ≤ 1048576 by omega) hN,Wyv,ret,Option.bind_some,h,hp,Bool.not_true,cond_false,pb_inb h hp,cond_true]
 generalize List.getD m.2 (Int.toNat p.1) (0,(0,0)) = w
 cases p.2.1 == 0 <;> cases p.2.1 == 1 <;> cases p.2.1 == 2 <;> cases w.2.2 == 0 <;> cases decide (w.2.1 ≤ rv) <;> cases w.2.1 == p.2.2.1 <;> rfl
def Wpi (l:List Rw) (c:Int):Nat → Option Int
 | 0=>none
 | i + 1=>if (List.getD l i (0,0)).1 = c then some (List.getD l i (0,0)).2 else Wpi l c i
def Wez (l:List Rw) (c:Int):Option Int:=if Wco l = true then Wpi l c l.length else none
def opI (o:Option Int):Option (Unit × (Int × (Bool × Unit))):=match o with
 | none=>some ((),((0:Int),(false,())))
 | some v=>some ((),(v,(true,())))
theorem Wpq {N:Nat} {l:List Rw} {c:Int} (hl:l.length ≤ 1048576):∀ (i n:Nat),i < n → i ≤ l.length → Zg2 N l c (fun t10=>(some ((),(t10,(true,()))))) (fun i11 t12=>(some ((),((0:Int),(false,()))))) n ((i:Int) - 1) = opI (Wpi l c i)
 | i,0,h,_=>by omega
 | 0,n + 1,h,_=>rfl
 | i + 1,n + 1,h,hi=>by
  have e:((i + 1:Nat):Int) - 1 = (i:Int):=by omega
  have e1:decide ((i:Int) ≥ 0) = true:=by simp
  have e2:isub .i64 (i:Int) 1 = (i:Int) - 1:=Wbd (by unfold I64; omega)
  rw [e,Zg2,e1,Wn (show i < l.length by omega),e2,Wpi,Int.toNat_natCast]
  simp only [cond_true]
  by_cases hc:(List.getD l i ((0:Int),(0:Int))).1 = c
  ·rw [if_pos hc,beq_iff_eq.2 hc]; rfl
  ·rw [if_neg hc,beq_eq_false_iff_ne.2 hc]
   exact Wpq hl i n (by omega) (by omega)
theorem len_m1 {α:Type} {l:List α} (hl:l.length ≤ 1048576):isub .i64 (ilen l) 1 = ((l.length:Nat):Int) - 1:=by unfold ilen; exact Wbd (by unfold I64; omega)
theorem Wim {N:Nat} {l:List Rw} {c:Int} (hl:l.length ≤ 1048576) (hN:1048576 < N):Zfk N l c = opI (Wez l c):=by
 unfold Zfk Wez
 simp only [Wen hl hN,ret,Option.bind_some]
 cases Wco l
 ·rfl
 ·simp only [Bool.not_true,cond_false,if_true,len_m1 hl]
  exact Wpq hl l.length N (by omega) (Nat.le_refl _)
end Go.Sx
