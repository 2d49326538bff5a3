/- Plain laws of the Lean functions. -/
import Derived.Test.YtfajigbmoebkaaaGreatMW1Sl

namespace Go.Sx
set_option linter.unusedVariables false
set_option linter.unusedSimpArgs false
abbrev Shf:=List Int × Int
abbrev Un:=Int × Int × Int
structure ShOk (s:Shf):Prop where
 slots:SlOk s.1
 cnt:0 ≤ s.2 ∧ s.2 ≤ 65535
def UnV (u:Un):Prop:=(u.1 = 1 ∧ (0 ≤ u.2.1 ∧ u.2.1 ≤ 7) ∧ 0 ≤ u.2.2 ∧ u.2.2 ≤ 65535) ∨ (u.1 = 2 ∧ (0 ≤ u.2.1 ∧ u.2.1 ≤ 7) ∧ u.2.2 = 0) ∨ (u.1 = 3 ∧ u.2.1 = 0 ∧ 0 ≤ u.2.2 ∧ u.2.2 ≤ 65535)
def Wqo (s:Shf) (u:Un):Shf :=
 if u.1 = 1 then (slPut s.1 u.2.1 u.2.2,s.2) else if u.1 = 2 then (Wuc s.1 u.2.1,s.2) else if u.1 = 3 then (s.1,(s.2 - u.2.2 + 65536) % 65536) else s
def Won (k e:Int):Un:=if e = 0 then (2,k,0) else (1,k,e - 1)
def Wdr (s:Shf) (o:Opn) (r:List Int):Shf × List Int × Un :=
 if o.1 = 12 then ((slPut s.1 o.2.1 (getI r o.2.2.1 0),s.2),setI r o.2.2.2 (Wje s.1 o.2.1 % 65536),Won o.2.1 (Wje s.1 o.2.1)) else
 if o.1 = 13 then (s,setI r o.2.1 (Wje s.1 o.2.2.1 % 65536),(0,0,0)) else
 if o.1 = 14 then ((Wuc s.1 o.2.1,s.2),setI r o.2.2.1 (Wje s.1 o.2.1 % 65536),Won o.2.1 (Wje s.1 o.2.1)) else
 if o.1 = 15 then ((s.1,(s.2 + getI r o.2.1 0) % 65536),r,(3,0,getI r o.2.1 0)) else
 (s,setI r o.2.1 s.2,(0,0,0))
def Whi (o:Opn):Int × Int :=
 if o.1 = 12 ∨ o.1 = 14 then (o.2.1,2) else if o.1 = 13 then (o.2.2.1,1) else if o.1 = 15 then (8,1) else (8,2)
section
variable {o:Opn}
theorem ok_12 (h:opOk o = true) (h5:o.1 = 12):Wed o.2.1 = true ∧ Wh o.2.2.1 = true ∧ Wh o.2.2.2 = true:=by
 obtain ⟨k,a,b,c⟩:=o
 simp only at h5; subst h5
 have:(Wed a && Wh b && Wh c) = true:=h
 simp only [Bool.and_eq_true] at this
 exact ⟨this.1.1,this.1.2,this.2⟩
theorem ok_13 (h:opOk o = true) (h5:o.1 = 13):Wh o.2.1 = true ∧ Wed o.2.2.1 = true:=by
 obtain ⟨k,a,b,c⟩:=o
 simp only at h5; subst h5
 have:(Wh a && Wed b && (c == (0:Int))) = true:=h
 simp only [Bool.and_eq_true] at this
 exact this.1
theorem ok_14 (h:opOk o = true) (h5:o.1 = 14):Wed o.2.1 = true ∧ Wh o.2.2.1 = true:=by
 obtain ⟨k,a,b,c⟩:=o
 simp only at h5; subst h5
 have:(Wed a && Wh b && (c == (0:Int))) = true:=h
 simp only [Bool.and_eq_true] at this
 exact this.1
theorem ok_15 (h:opOk o = true) (h5:o.1 = 15):Wh o.2.1 = true:=by
 obtain ⟨k,a,b,c⟩:=o
 simp only at h5; subst h5
 have:(Wh a && (b == (0:Int)) && (c == (0:Int))) = true:=h
 simp only [Bool.and_eq_true] at this
 exact this.1.1
theorem ok_16r (h:opOk o = true) (h5:o.1 = 16):Wh o.2.1 = true:=by
 obtain ⟨k,a,b,c⟩:=o
 simp only at h5; subst h5
 have:(Wh a && (b == (0:Int)) && (c == (0:Int))) = true:=h
 simp only [Bool.and_eq_true] at this
 exact this.1.1
end
theorem Wdu {x:Int}:Wed x = true ↔ 0 ≤ x ∧ x ≤ 7:=by unfold Wed; simp
variable {N:Nat} {s:Shf} {u:Un} {o:Opn} {r:List Int}
theorem Wxk {k e:Int} (hk:0 ≤ k ∧ k ≤ 7) (he:0 ≤ e ∧ e ≤ 65536):UnV (Won k e):=by
 unfold Won UnV
 split
 ·exact .inr (.inl ⟨rfl,hk,rfl⟩)
 ·exact .inl ⟨rfl,hk,by simp only; omega⟩
theorem undoOne_ok (h:ShOk s) (hu:UnV u):ShOk (Wqo s u):=by
 unfold Wqo
 rcases hu with ⟨h1,h2,h3⟩ | ⟨h1,h2,h3⟩ | ⟨h1,h2,h3⟩
 ·rw [if_pos h1]; exact ⟨Wpg h.slots h2 h3,h.cnt⟩
 ·rw [if_neg (by omega),if_pos h1]; exact ⟨Wzp h.slots,h.cnt⟩
 ·rw [if_neg (by omega),if_neg (by omega),if_pos h1]; exact ⟨h.slots,by simp only; omega⟩
theorem boostDo_ok (h:ShOk s) (hr:Vals 4 r) (ho:opOk o = true) (h12:12 ≤ o.1):ShOk (Wdr s o r).1 ∧ Vals 4 (Wdr s o r).2.1 ∧ ((Wdr s o r).2.2.1 ≠ 0 → UnV (Wdr s o r).2.2) ∧ ((Wdr s o r).2.2.1 = 0 → (Wdr s o r).1 = s):=by
 have h16:=ok_16 ho
 unfold Wdr
 split
 ·obtain ⟨a,b,c⟩:=ok_12 ho ‹_›
  rw [Wdu] at a
  have hg:=Wmi s.1 o.2.1
  exact ⟨⟨Wpg h.slots a (hr.get _),h.cnt⟩,hr.set _ (by omega),fun _=>Wxk a hg,fun h=>by unfold Won at h; split at h <;> (simp only at h; omega)⟩
 ·split
  ·exact ⟨h,hr.set _ (by omega),fun h=>absurd rfl h,fun _=>rfl⟩
  ·split
   ·obtain ⟨a,b⟩:=ok_14 ho ‹_›
    rw [Wdu] at a
    have hg:=Wmi s.1 o.2.1
    exact ⟨⟨Wzp h.slots,h.cnt⟩,hr.set _ (by omega),fun _=>Wxk a hg,fun h=>by unfold Won at h; split at h <;> (simp only at h; omega)⟩
   ·split
    ·have:=hr.get o.2.1.toNat
     have:=h.cnt
     refine ⟨⟨h.slots,by simp only; unfold getI; omega⟩,hr,fun _=>.inr (.inr ⟨rfl,rfl,hr.get _⟩),fun h=>by (simp only at h; omega)⟩
    ·exact ⟨h,hr.set _ h.cnt,fun h=>absurd rfl h,fun _=>rfl⟩
theorem Wji (h:ShOk s) (hN:1048576 < N):Zjb N s = ret true:=by
 unfold Zjb
 rw [Wdq h.slots hN,Wl,Wci.2 h.cnt]; rfl
theorem Wmq (h:ShOk s):Zhs N s = ret s:=by
 unfold Zhs
 rw [Wep (by have:=h.slots.len; omega)]; rfl
theorem Wrt (hu:UnV u):Zmw N u = ret true:=by
 unfold Zmw
 simp only [Ww,Wix,Wl,ret,Option.bind_some]
 rcases hu with ⟨h1,h2,h3⟩ | ⟨h1,h2,h3⟩ | ⟨h1,h2,h3⟩
 ·rw [if_neg (by omega),if_pos h1,Wci.2 h3]
  simp [h2]
 ·rw [if_neg (by omega),if_neg (by omega),if_pos h1]
  simp [h2,h3]
 ·rw [if_neg (by omega),if_neg (by omega),if_neg (by omega),if_pos h1,if_pos h2,Wci.2 h3]
theorem Wrg (h:ShOk s) (hu:UnV u) (hN:1048576 < N):Zl1 N s u = some ((),(Wqo s u,(true,()))):=by
 unfold Zl1 Wqo
 rw [Wmq h,Wrt hu]
 simp only [ret,Option.bind_some]
 rw [Wji h hN]
 simp only [ret,Option.bind_some,Bool.not_true,cond_false,Ww]
 have hc:=h.cnt
 rcases hu with ⟨h1,h2,h3⟩ | ⟨h1,h2,h3⟩ | ⟨h1,h2,h3⟩
 ·rw [if_pos h1,if_pos h1,Wfj h.slots h2 h3 hN]; rfl
 ·rw [if_neg (by omega),if_pos h1,if_neg (by omega),if_pos h1,Wic h.slots h2 hN]; rfl
 ·rw [if_neg (by omega),if_neg (by omega),if_pos h1,if_neg (by omega),if_neg (by omega),if_pos h1]
  rw [Wap (by unfold I64; omega),Wz (by unfold I64; omega),Wek (by omega)]; rfl
theorem Wkg {k e:Int} (he:0 ≤ e ∧ e ≤ 65536):Zki N k e = ret (Won k e):=by
 unfold Zki Won
 rw [Ww,Wap (by unfold I64; omega)]
 split <;> rfl
theorem Wwf (ho:opOk o = true) (h12:12 ≤ o.1):Zjo N o = some ((),((Whi o).1,((Whi o).2,()))):=by
 have h16:=ok_16 ho
 unfold Zjo Whi
 rw [Wjk,ho]
 simp only [ret,Option.bind_some,Bool.not_true,cond_false,Ww]
 have:o.1 = 12 ∨ o.1 = 13 ∨ o.1 = 14 ∨ o.1 = 15 ∨ o.1 = 16:=by omega
 rcases this with h | h | h | h | h <;> simp [h]
theorem Wqa (h:ShOk s) (hr:Vals 4 r) (ho:opOk o = true) (h12:12 ≤ o.1) (hN:1048576 < N) :
  Zl2 N s o r = some ((),((Wdr s o r).1,((Wdr s o r).2.1,((Wdr s o r).2.2,(true,()))))):=by
 have h16:=ok_16 ho
 have hrl:=hr.len
 have hc:=h.cnt
 unfold Zl2 Wdr
 rw [Wmq h,Wep (by omega)]
 simp only [ret,Option.bind_some]
 rw [Wji h hN,Wga (by omega) hN,Wjr.2 hr,Wmb,touch_2 ho h12]
 simp only [ret,Option.bind_some,Bool.not_true,cond_false,bne_self_eq_false,Ww,show inz (65536:Int) = true from rfl,cond_true,Wq,List.length_set]
 by_cases e1:o.1 = 12
 ·obtain ⟨a,b,c⟩:=ok_12 ho e1
  rw [Wdu] at a
  rw [if_pos e1,if_pos e1,Wcg b hrl,Wcg c hrl]
  have hg:=Wmi s.1 o.2.1
  rw [Wfj h.slots a (hr.get _) hN]
  simp only [cond_true,Option.bind_some,Wkg hg,ret]
  rw [Wek (by omega)]; rfl
 ·rw [if_neg e1,if_neg e1]
  by_cases e2:o.1 = 13
  ·obtain ⟨a,b⟩:=ok_13 ho e2
   rw [Wdu] at b
   have hg:=Wmi s.1 o.2.2.1
   rw [if_pos e2,if_pos e2,Wcg a hrl,Wfr h.slots b hN]
   simp only [cond_true,Option.bind_some]
   by_cases hz:Wje s.1 o.2.2.1 = 0
   ·rw [hz]; rfl
   ·rw [if_neg hz,decide_eq_true hz,Wz (by unfold I64; omega),Wek (by omega),Int.sub_add_cancel]
    simp only [cond_true,List.set_set]; rfl
  ·rw [if_neg e2,if_neg e2]
   by_cases e3:o.1 = 14
   ·obtain ⟨a,b⟩:=ok_14 ho e3
    rw [Wdu] at a
    have hg:=Wmi s.1 o.2.1
    rw [if_pos e3,if_pos e3,Wcg b hrl,Wic h.slots a hN]
    simp only [cond_true,Option.bind_some,Wkg hg,ret]
    rw [Wek (by omega)]; rfl
   ·rw [if_neg e3,if_neg e3]
    by_cases e4:o.1 = 15
    ·have a:=ok_15 ho e4
     have hv:=hr.get o.2.1.toNat
     rw [if_pos e4,if_pos e4,Wcg a hrl]
     simp only [cond_true]
     rw [Wz (by unfold I64; omega),Wek (by omega)]; rfl
    ·have a:=ok_16r ho (by omega)
     rw [if_neg e4,if_neg e4,Wcg a hrl]; rfl
def mapOk (l:List Int):Bool:=decide (l.length = 8) && l.all fun x=>decide (0 ≤ x) && decide (x ≤ 65536)
structure ThOk (t:List Int × List Int × Int):Prop where
 cells:Vals 8 t.1
 map:t.2.1.length = 8 ∧ ∀ x ∈ t.2.1,0 ≤ x ∧ x ≤ 65536
 cnt:0 ≤ t.2.2 ∧ t.2.2 ≤ 65535
def thOk (t:List Int × List Int × Int):Bool:=Wiq t.1 && (mapOk t.2.1 && Wct t.2.2)
theorem thOk_iff {t:List Int × List Int × Int}:thOk t = true ↔ ThOk t:=by
 unfold thOk mapOk
 simp only [Bool.and_eq_true,Wvr,Wci,decide_eq_true_eq,List.all_eq_true]
 exact ⟨fun h=>⟨h.1,h.2.1,h.2.2⟩,fun h=>⟨h.cells,h.map,h.cnt⟩⟩
theorem Wpr {l:List Int} (hl:l.length ≤ 1048576) (hN:1048576 < N):Zfk N l = ret (mapOk l):=by
 unfold Zfk mapOk
 have h1:=Wad (l:=l) (V:=Unit) (R:=Unit × (Bool × Unit)) (lp:=fun n j v=>Zei N l (some ((),(false,()))) (fun t11 t12=>(some ((),((ilen l) == (8:Int),())))) n j) (n:=N) (by omega)
  (body:=fun j x v k=>bif !(decide (0 ≤ x) && decide (x ≤ 65536)) then some ((),(false,())) else k v) (K:=fun _ v=>some ((),((ilen l) == (8:Int),())))
  (fun n i v hi=>by simp only [Zei,Wba hi,Wp hi,Wu hi,Wi (show i < 4611686018427387904 by omega),cond_true,Wk,ret,Option.bind_some])
  (fun n v=>by simp only [Zei,Wbj (Nat.le_refl l.length),cond_false]) ()
 refine h1.trans ?_
 rw [Wbm (p:=fun x=>!(decide (0 ≤ x) && decide (x ≤ 65536))) (E:=fun _=>some ((),(false,()))) l 0 () (fun j x v k _=>rfl),Weu]
 have e:((ilen l) == (8:Int)) = decide (l.length = 8):=by
  by_cases h:l.length = 8
  ·simp [ilen,h]
  ·simp [ilen,h]; omega
 rw [e]
 cases l.all _ <;> cases decide (l.length = 8) <;> rfl
theorem Wry {t:List Int × List Int × Int} (h1:t.1.length ≤ 1048576) (h2:t.2.1.length ≤ 1048576) (hN:1048576 < N):Zkx N t = ret (thOk t):=by
 unfold Zkx thOk
 rw [Wob h1 hN,Wpr h2 hN,Wl]
 cases Wiq t.1 <;> cases mapOk t.2.1 <;> rfl
def Wjv:List Int → Nat → List Int → List Int
 | [],_,l=>l
 | x :: m,k,l=>Wjv m (k + 1) (if x > 0 then slPut l k (x - 1) else l)
def slFrom (m:List Int):List Int:=Wjv m 0 (List.replicate 16 0)
theorem slZero_ok:SlOk (List.replicate 16 0) where
 len:=by simp
 each:=fun i h=>.inl (List.getElem_replicate ..)
 one:=fun i j hi hj _ h=>absurd (List.getElem_replicate ..) h
theorem Wpp:∀ (m:List Int) (k:Nat) (l:List Int),k + m.length ≤ 8 → (∀ x ∈ m,0 ≤ x ∧ x ≤ 65536) → SlOk l → SlOk (Wjv m k l)
 | [],_,l,_,_,h=>h
 | x :: m,k,l,hk,hx,h=>by
  have h0:=hx x (List.mem_cons_self ..)
  rw [List.length_cons] at hk
  refine Wpp m (k + 1) _ (by omega) (fun y hy=>hx y (List.mem_cons_of_mem _ hy)) ?_
  split
  ·exact Wpg h (by omega) (by omega)
  ·exact h
theorem slFrom_ok {m:List Int} (hl:m.length = 8) (hx:∀ x ∈ m,0 ≤ x ∧ x ≤ 65536):SlOk (slFrom m):=Wpp m 0 _ (by omega) hx slZero_ok
theorem Wgu {m:List Int} (hl:m.length = 8) (hx:∀ x ∈ m,0 ≤ x ∧ x ≤ 65536) (hN:1048576 < N):Z2 N m = ret (slFrom m):=by
 have hm:mapOk m = true:=by unfold mapOk; simp only [Bool.and_eq_true,decide_eq_true_eq,List.all_eq_true]; exact ⟨hl,hx⟩
 unfold Z2 slFrom
 rw [Wpr (by omega) hN,hm]
 simp only [ret,Option.bind_some,Bool.not_true,cond_false]
 rw [show Zok N = ret (List.replicate 16 0) from rfl]
 simp only [ret,Option.bind_some]
 have lp:∀ (d j n:Nat) (l:List Int),j + d = m.length → d < n → SlOk l → Zbk N m (fun t14 t15 l16=>(some ((),(l16,())))) n (j:Int) l = ret (Wjv (m.drop j) j l):=by
  intro d
  induction d with
  | zero =>
   intro j n l hj hn hs
   obtain ⟨n,rfl⟩:∃ n',n = n' + 1:=⟨n - 1,by omega⟩
   have:j = m.length:=by omega
   subst this
   simp only [Zbk,Wbj (Nat.le_refl _),cond_false,List.drop_length,Wjv]
  | succ d ih =>
   intro j n l hj hn hs
   obtain ⟨n,rfl⟩:∃ n',n = n' + 1:=⟨n - 1,by omega⟩
   have hlt:j < m.length:=by omega
   have hb:=hx m[j] (List.getElem_mem hlt)
   simp only [Zbk,Wba hlt,Wp hlt,Wu hlt,Wi (show j < 4611686018427387904 by omega),cond_true,Wby]
   rw [List.drop_eq_getElem_cons hlt,Wjv]
   by_cases h0:m[j] > 0
   ·rw [if_pos h0,if_pos h0,Wap (by unfold I64; omega),Wfj hs (by omega) (by omega) hN]
    exact ih (j + 1) n _ (by omega) (by omega) (Wpg hs (by omega) (by omega))
   ·rw [if_neg h0,if_neg h0]
    exact ih (j + 1) n _ (by omega) (by omega) hs
 have:=lp m.length 0 N (List.replicate 16 0) (by omega) (by omega) slZero_ok
 rw [List.drop_zero] at this
 exact this
end Go.Sx
