/- Plain laws of the Lean functions. -/
import Derived.Test.YtfajigbmoebkaaaGreatMW1Sl

namespace Go.Sx
set_option linter.unusedVariables false
set_option linter.unusedSimpArgs false
abbrev Shf:=List Int × Int
abbrev Un:=Int × Int × Int
structure ShOk (s:Shf):Prop where
 slots:SlOk s.1
 cnt:0 ≤ s.2 ∧ s.2 ≤ 65535
def UnV (u:Un):Prop:=(u.1 = 1 ∧ (0 ≤ u.2.1 ∧ u.2.1 ≤ 7) ∧ 0 ≤ u.2.2 ∧ u.2.2 ≤ 65535) ∨ (u.1 = 2 ∧ (0 ≤ u.2.1 ∧ u.2.1 ≤ 7) ∧ u.2.2 = 0) ∨ (u.1 = 3 ∧ u.2.1 = 0 ∧ 0 ≤ u.2.2 ∧ u.2.2 ≤ 65535)
def Wqp (s:Shf) (u:Un):Shf :=
 if u.1 = 1 then (slPut s.1 u.2.1 u.2.2,s.2) else if u.1 = 2 then (Wtn s.1 u.2.1,s.2) else if u.1 = 3 then (s.1,(s.2 - u.2.2 + 65536) % 65536) else s
def Wof (k e:Int):Un:=if e = 0 then (2,k,0) else (1,k,e - 1)
def Wdv (s:Shf) (o:Opn) (r:List Int):Shf × List Int × Un :=
 if o.1 = 12 then ((slPut s.1 o.2.1 (getI r o.2.2.1 0),s.2),setI r o.2.2.2 (Wir s.1 o.2.1 % 65536),Wof o.2.1 (Wir s.1 o.2.1)) else
 if o.1 = 13 then (s,setI r o.2.1 (Wir s.1 o.2.2.1 % 65536),(0,0,0)) else
 if o.1 = 14 then ((Wtn s.1 o.2.1,s.2),setI r o.2.2.1 (Wir s.1 o.2.1 % 65536),Wof o.2.1 (Wir s.1 o.2.1)) else
 if o.1 = 15 then ((s.1,(s.2 + getI r o.2.1 0) % 65536),r,(3,0,getI r o.2.1 0)) else
 (s,setI r o.2.1 s.2,(0,0,0))
def Wgm (o:Opn):Int × Int :=
 if o.1 = 12 ∨ o.1 = 14 then (o.2.1,2) else if o.1 = 13 then (o.2.2.1,1) else if o.1 = 15 then (8,1) else (8,2)
section
variable {o:Opn}
theorem ok_12 (h:opOk o = true) (h5:o.1 = 12):Wea o.2.1 = true ∧ Wh o.2.2.1 = true ∧ Wh o.2.2.2 = true:=by
 obtain ⟨k,a,b,c⟩:=o
 simp only at h5; subst h5
 have:(Wea a && Wh b && Wh c) = true:=h
 simp only [Bool.and_eq_true] at this
 exact ⟨this.1.1,this.1.2,this.2⟩
theorem ok_13 (h:opOk o = true) (h5:o.1 = 13):Wh o.2.1 = true ∧ Wea o.2.2.1 = true:=by
 obtain ⟨k,a,b,c⟩:=o
 simp only at h5; subst h5
 have:(Wh a && Wea b && (c == (0:Int))) = true:=h
 simp only [Bool.and_eq_true] at this
 exact this.1
theorem ok_14 (h:opOk o = true) (h5:o.1 = 14):Wea o.2.1 = true ∧ Wh o.2.2.1 = true:=by
 obtain ⟨k,a,b,c⟩:=o
 simp only at h5; subst h5
 have:(Wea a && Wh b && (c == (0:Int))) = true:=h
 simp only [Bool.and_eq_true] at this
 exact this.1
theorem ok_15 (h:opOk o = true) (h5:o.1 = 15):Wh o.2.1 = true:=by
 obtain ⟨k,a,b,c⟩:=o
 simp only at h5; subst h5
 have:(Wh a && (b == (0:Int)) && (c == (0:Int))) = true:=h
 simp only [Bool.and_eq_true] at this
 exact this.1.1
theorem ok_16r (h:opOk o = true) (h5:o.1 = 16):Wh o.2.1 = true:=by
 obtain ⟨k,a,b,c⟩:=o
 simp only at h5; subst h5
 have:(Wh a && (b == (0:Int)) && (c == (0:Int))) = true:=h
 simp only [Bool.and_eq_true] at this
 exact this.1.1
end
theorem Wdo {x:Int}:Wea x = true ↔ 0 ≤ x ∧ x ≤ 7:=by unfold Wea; simp
variable {N:Nat} {s:Shf} {u:Un} {o:Opn} {r:List Int}
theorem Wyw {k e:Int} (hk:0 ≤ k ∧ k ≤ 7) (he:0 ≤ e ∧ e ≤ 65536):UnV (Wof k e):=by
 unfold Wof UnV
 split
 ·exact .inr (.inl ⟨rfl,hk,rfl⟩)
 ·exact .inl ⟨rfl,hk,by simp only; omega⟩
theorem undoOne_ok (h:ShOk s) (hu:UnV u):ShOk (Wqp s u):=by
 unfold Wqp
 rcases hu with ⟨h1,h2,h3⟩ | ⟨h1,h2,h3⟩ | ⟨h1,h2,h3⟩
 ·rw [if_pos h1]; exact ⟨Wpe h.slots h2 h3,h.cnt⟩
 ·rw [if_neg (by omega),if_pos h1]; exact ⟨Wyv h.slots,h.cnt⟩
 ·rw [if_neg (by omega),if_neg (by omega),if_pos h1]; exact ⟨h.slots,by simp only; omega⟩
theorem boostDo_ok (h:ShOk s) (hr:Vals 4 r) (ho:opOk o = true) (h12:12 ≤ o.1):ShOk (Wdv s o r).1 ∧ Vals 4 (Wdv s o r).2.1 ∧ ((Wdv s o r).2.2.1 ≠ 0 → UnV (Wdv s o r).2.2) ∧ ((Wdv s o r).2.2.1 = 0 → (Wdv s o r).1 = s):=by
 have h16:=ok_16 ho
 unfold Wdv
 split
 ·obtain ⟨a,b,c⟩:=ok_12 ho ‹_›
  rw [Wdo] at a
  have hg:=Wlt s.1 o.2.1
  exact ⟨⟨Wpe h.slots a (hr.get _),h.cnt⟩,hr.set _ (by omega),fun _=>Wyw a hg,fun h=>by unfold Wof at h; split at h <;> (simp only at h; omega)⟩
 ·split
  ·exact ⟨h,hr.set _ (by omega),fun h=>absurd rfl h,fun _=>rfl⟩
  ·split
   ·obtain ⟨a,b⟩:=ok_14 ho ‹_›
    rw [Wdo] at a
    have hg:=Wlt s.1 o.2.1
    exact ⟨⟨Wyv h.slots,h.cnt⟩,hr.set _ (by omega),fun _=>Wyw a hg,fun h=>by unfold Wof at h; split at h <;> (simp only at h; omega)⟩
   ·split
    ·have:=hr.get o.2.1.toNat
     have:=h.cnt
     refine ⟨⟨h.slots,by simp only; unfold getI; omega⟩,hr,fun _=>.inr (.inr ⟨rfl,rfl,hr.get _⟩),fun h=>by (simp only at h; omega)⟩
    ·exact ⟨h,hr.set _ h.cnt,fun h=>absurd rfl h,fun _=>rfl⟩
theorem Wiv (h:ShOk s) (hN:1048576 < N):Zi5 N s = ret true:=by
 unfold Zi5
 rw [Wdr h.slots hN,Wl,Wci.2 h.cnt]; rfl
theorem Wlq (h:ShOk s):Zhl N s = ret s:=by
 unfold Zhl
 rw [Wes (by have:=h.slots.len; omega)]; rfl
theorem Wsi (hu:UnV u):Zmt N u = ret true:=by
 unfold Zmt
 simp only [Ws,Wjl,Wl,ret,Option.bind_some]
 rcases hu with ⟨h1,h2,h3⟩ | ⟨h1,h2,h3⟩ | ⟨h1,h2,h3⟩
 ·rw [if_neg (by omega),if_pos h1,Wci.2 h3]
  simp [h2]
 ·rw [if_neg (by omega),if_neg (by omega),if_pos h1]
  simp [h2,h3]
 ·rw [if_neg (by omega),if_neg (by omega),if_neg (by omega),if_pos h1,if_pos h2,Wci.2 h3]
theorem Wpz (h:ShOk s) (hu:UnV u) (hN:1048576 < N):Zlv N s u = some ((),(Wqp s u,(true,()))):=by
 unfold Zlv Wqp
 rw [Wlq h,Wsi hu]
 simp only [ret,Option.bind_some]
 rw [Wiv h hN]
 simp only [ret,Option.bind_some,Bool.not_true,cond_false,Ws]
 have hc:=h.cnt
 rcases hu with ⟨h1,h2,h3⟩ | ⟨h1,h2,h3⟩ | ⟨h1,h2,h3⟩
 ·rw [if_pos h1,if_pos h1,Wfo h.slots h2 h3 hN]; rfl
 ·rw [if_neg (by omega),if_pos h1,if_neg (by omega),if_pos h1,Wid h.slots h2 hN]; rfl
 ·rw [if_neg (by omega),if_neg (by omega),if_pos h1,if_neg (by omega),if_neg (by omega),if_pos h1]
  rw [Wbc (by unfold I64; omega),Wx (by unfold I64; omega),Wel (by omega)]; rfl
theorem Wkj {k e:Int} (he:0 ≤ e ∧ e ≤ 65536):Zkc N k e = ret (Wof k e):=by
 unfold Zkc Wof
 rw [Ws,Wbc (by unfold I64; omega)]
 split <;> rfl
theorem Wvn (ho:opOk o = true) (h12:12 ≤ o.1):Zji N o = some ((),((Wgm o).1,((Wgm o).2,()))):=by
 have h16:=ok_16 ho
 unfold Zji Wgm
 rw [Wjo,ho]
 simp only [ret,Option.bind_some,Bool.not_true,cond_false,Ws]
 have:o.1 = 12 ∨ o.1 = 13 ∨ o.1 = 14 ∨ o.1 = 15 ∨ o.1 = 16:=by omega
 rcases this with h | h | h | h | h <;> simp [h]
theorem Wqu (h:ShOk s) (hr:Vals 4 r) (ho:opOk o = true) (h12:12 ≤ o.1) (hN:1048576 < N) :
  Zlw N s o r = some ((),((Wdv s o r).1,((Wdv s o r).2.1,((Wdv s o r).2.2,(true,()))))):=by
 have h16:=ok_16 ho
 have hrl:=hr.len
 have hc:=h.cnt
 unfold Zlw Wdv
 rw [Wlq h,Wes (by omega)]
 simp only [ret,Option.bind_some]
 rw [Wiv h hN,Wgc (by omega) hN,Wjz.2 hr,Wmf,touch_2 ho h12]
 simp only [ret,Option.bind_some,Bool.not_true,cond_false,bne_self_eq_false,Ws,show inz (65536:Int) = true from rfl,cond_true,Wp,List.length_set]
 by_cases e1:o.1 = 12
 ·obtain ⟨a,b,c⟩:=ok_12 ho e1
  rw [Wdo] at a
  rw [if_pos e1,if_pos e1,Wcf b hrl,Wcf c hrl]
  have hg:=Wlt s.1 o.2.1
  rw [Wfo h.slots a (hr.get _) hN]
  simp only [cond_true,Option.bind_some,Wkj hg,ret]
  rw [Wel (by omega)]; rfl
 ·rw [if_neg e1,if_neg e1]
  by_cases e2:o.1 = 13
  ·obtain ⟨a,b⟩:=ok_13 ho e2
   rw [Wdo] at b
   have hg:=Wlt s.1 o.2.2.1
   rw [if_pos e2,if_pos e2,Wcf a hrl,Wfs h.slots b hN]
   simp only [cond_true,Option.bind_some]
   by_cases hz:Wir s.1 o.2.2.1 = 0
   ·rw [hz]; rfl
   ·rw [if_neg hz,decide_eq_true hz,Wx (by unfold I64; omega),Wel (by omega),Int.sub_add_cancel]
    simp only [cond_true,List.set_set]; rfl
  ·rw [if_neg e2,if_neg e2]
   by_cases e3:o.1 = 14
   ·obtain ⟨a,b⟩:=ok_14 ho e3
    rw [Wdo] at a
    have hg:=Wlt s.1 o.2.1
    rw [if_pos e3,if_pos e3,Wcf b hrl,Wid h.slots a hN]
    simp only [cond_true,Option.bind_some,Wkj hg,ret]
    rw [Wel (by omega)]; rfl
   ·rw [if_neg e3,if_neg e3]
    by_cases e4:o.1 = 15
    ·have a:=ok_15 ho e4
     have hv:=hr.get o.2.1.toNat
     rw [if_pos e4,if_pos e4,Wcf a hrl]
     simp only [cond_true]
     rw [Wx (by unfold I64; omega),Wel (by omega)]; rfl
    ·have a:=ok_16r ho (by omega)
     rw [if_neg e4,if_neg e4,Wcf a hrl]; rfl
def Wxr (l:List Int):Bool:=decide (l.length = 8) && l.all fun x=>decide (0 ≤ x) && decide (x ≤ 65536)
structure ThOk (t:List Int × List Int × Int):Prop where
 cells:Vals 8 t.1
 map:t.2.1.length = 8 ∧ ∀ x ∈ t.2.1,0 ≤ x ∧ x ≤ 65536
 cnt:0 ≤ t.2.2 ∧ t.2.2 ≤ 65535
def thOk (t:List Int × List Int × Int):Bool:=Wjc t.1 && (Wxr t.2.1 && Wcz t.2.2)
theorem thOk_iff {t:List Int × List Int × Int}:thOk t = true ↔ ThOk t:=by
 unfold thOk Wxr
 simp only [Bool.and_eq_true,vals_iff,Wci,decide_eq_true_eq,List.all_eq_true]
 exact ⟨fun h=>⟨h.1,h.2.1,h.2.2⟩,fun h=>⟨h.cells,h.map,h.cnt⟩⟩
theorem Wru {l:List Int} (hl:l.length ≤ 1048576) (hN:1048576 < N):Zfl N l = ret (Wxr l):=by
 unfold Zfl Wxr
 have h1:=Wz (l:=l) (V:=Unit) (R:=Unit × (Bool × Unit)) (lp:=fun n j v=>Zel N l (some ((),(false,()))) (fun t11 t12=>(some ((),((ilen l) == (8:Int),())))) n j) (n:=N) (by omega)
  (body:=fun j x v k=>bif !(decide (0 ≤ x) && decide (x ≤ 65536)) then some ((),(false,())) else k v) (K:=fun _ v=>some ((),((ilen l) == (8:Int),())))
  (fun n i v hi=>by simp only [Zel,Waz hi,Wn hi,Wq hi,Wi (show i < 4611686018427387904 by omega),cond_true,Wk,ret,Option.bind_some])
  (fun n v=>by simp only [Zel,Wbj (Nat.le_refl l.length),cond_false]) ()
 refine h1.trans ?_
 rw [Wbn (p:=fun x=>!(decide (0 ≤ x) && decide (x ≤ 65536))) (E:=fun _=>some ((),(false,()))) l 0 () (fun j x v k _=>rfl),Wfb]
 have e:((ilen l) == (8:Int)) = decide (l.length = 8):=by
  by_cases h:l.length = 8
  ·simp [ilen,h]
  ·simp [ilen,h]; omega
 rw [e]
 cases l.all _ <;> cases decide (l.length = 8) <;> rfl
theorem Wry {t:List Int × List Int × Int} (h1:t.1.length ≤ 1048576) (h2:t.2.1.length ≤ 1048576) (hN:1048576 < N):Zks N t = ret (thOk t):=by
 unfold Zks thOk
 rw [Wnw h1 hN,Wru h2 hN,Wl]
 cases Wjc t.1 <;> cases Wxr t.2.1 <;> rfl
def Wjy:List Int → Nat → List Int → List Int
 | [],_,l=>l
 | x :: m,k,l=>Wjy m (k + 1) (if x > 0 then slPut l k (x - 1) else l)
def slFrom (m:List Int):List Int:=Wjy m 0 (List.replicate 16 0)
theorem Wxk:SlOk (List.replicate 16 0) where
 len:=by simp
 each:=fun i h=>.inl (List.getElem_replicate ..)
 one:=fun i j hi hj _ h=>absurd (List.getElem_replicate ..) h
theorem Wqw:∀ (m:List Int) (k:Nat) (l:List Int),k + m.length ≤ 8 → (∀ x ∈ m,0 ≤ x ∧ x ≤ 65536) → SlOk l → SlOk (Wjy m k l)
 | [],_,l,_,_,h=>h
 | x :: m,k,l,hk,hx,h=>by
  have h0:=hx x (List.mem_cons_self ..)
  rw [List.length_cons] at hk
  refine Wqw m (k + 1) _ (by omega) (fun y hy=>hx y (List.mem_cons_of_mem _ hy)) ?_
  split
  ·exact Wpe h (by omega) (by omega)
  ·exact h
theorem slFrom_ok {m:List Int} (hl:m.length = 8) (hx:∀ x ∈ m,0 ≤ x ∧ x ≤ 65536):SlOk (slFrom m):=Wqw m 0 _ (by omega) hx Wxk
theorem Wnn {m:List Int} (hl:m.length = 8) (hx:∀ x ∈ m,0 ≤ x ∧ x ≤ 65536) (hN:1048576 < N):Zay N m = ret (slFrom m):=by
 have hm:Wxr m = true:=by unfold Wxr; simp only [Bool.and_eq_true,decide_eq_true_eq,List.all_eq_true]; exact ⟨hl,hx⟩
 unfold Zay slFrom
 rw [Wru (by omega) hN,hm]
 simp only [ret,Option.bind_some,Bool.not_true,cond_false]
 rw [show Zoi N = ret (List.replicate 16 0) from rfl]
 simp only [ret,Option.bind_some]
 have lp:∀ (d j n:Nat) (l:List Int),j + d = m.length → d < n → SlOk l → Zbi N m (fun t14 t15 l16=>(some ((),(l16,())))) n (j:Int) l = ret (Wjy (m.drop j) j l):=by
  intro d
  induction d with
  | zero =>
   intro j n l hj hn hs
   obtain ⟨n,rfl⟩:∃ n',n = n' + 1:=⟨n - 1,by omega⟩
   have:j = m.length:=by omega
   subst this
   simp only [Zbi,Wbj (Nat.le_refl _),cond_false,List.drop_length,Wjy]
  | succ d ih =>
   intro j n l hj hn hs
   obtain ⟨n,rfl⟩:∃ n',n = n' + 1:=⟨n - 1,by omega⟩
   have hlt:j < m.length:=by omega
   have hb:=hx m[j] (List.getElem_mem hlt)
   simp only [Zbi,Waz hlt,Wn hlt,Wq hlt,Wi (show j < 4611686018427387904 by omega),cond_true,Wbr]
   rw [List.drop_eq_getElem_cons hlt,Wjy]
   by_cases h0:m[j] > 0
   ·rw [if_pos h0,if_pos h0,Wbc (by unfold I64; omega),Wfo hs (by omega) (by omega) hN]
    exact ih (j + 1) n _ (by omega) (by omega) (Wpe hs (by omega) (by omega))
   ·rw [if_neg h0,if_neg h0]
    exact ih (j + 1) n _ (by omega) (by omega) hs
 have:=lp m.length 0 N (List.replicate 16 0) (by omega) (by omega) Wxk
 rw [List.drop_zero] at this
 exact this
end Go.Sx
