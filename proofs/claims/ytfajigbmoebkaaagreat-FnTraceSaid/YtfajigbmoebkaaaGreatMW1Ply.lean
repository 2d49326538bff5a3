/- Plain laws of the Lean functions. -/
import Derived.Test.YtfajigbmoebkaaaGreatMW1Act

namespace Go.Sx
set_option linter.unusedVariables false
set_option linter.unusedSimpArgs false
noncomputable def pgOk (p:Pg):Bool:=p.2.all Wno && (cdOk p.1 && (decide (p.2.length ≤ 3) && beq (p.1.any fun o=>o.1 == 11) (decide (p.2.length > 0))))
noncomputable def scOk (s:Sc):Bool:=thOk s.1 && (decide (s.2.1.length ≤ 4) && (decide (s.2.2.length ≤ 400) && s.2.1.all pgOk))
structure PB (p:Pg):Prop where
 code:p.1.length ≤ 1000
 kids:p.2.length ≤ 1000
 each:∀ c ∈ p.2,c.length ≤ 1000
structure SB (s:Sc):Prop where
 cells:s.1.1.length ≤ 100
 map:s.1.2.1.length ≤ 100
 progs:s.2.1.length ≤ 100
 each:∀ p ∈ s.2.1,PB p
 acts:s.2.2.length ≤ 1000
variable {N:Nat} {s:Sc} {p:Pg} {w:Wo} {n:Int} {a:Ac}
theorem pgOk_of (h:pgOk p = true):POk p:=by
 unfold pgOk at h
 simp only [Bool.and_eq_true,List.all_eq_true,decide_eq_true_eq] at h
 exact ⟨cc_of h.2.1,fun c hc=>kc_of (h.1 c hc),h.2.2.1⟩
theorem Wvm (h:scOk s = true):ThOk s.1 ∧ s.2.1.length ≤ 4 ∧ s.2.2.length ≤ 400 ∧ ∀ p ∈ s.2.1,POk p:=by
 unfold scOk at h
 simp only [Bool.and_eq_true,List.all_eq_true,decide_eq_true_eq] at h
 exact ⟨thOk_iff.1 h.1,h.2.1,h.2.2.1,fun p hp=>pgOk_of (h.2.2.2 p hp)⟩
theorem ilen_le {α:Type} (l:List α) (k:Nat):decide ((ilen l) ≤ (k:Int)) = decide (l.length ≤ k):=by
 unfold ilen; by_cases h:l.length ≤ k
 ·rw [decide_eq_true h,decide_eq_true (by omega)]
 ·rw [decide_eq_false h,decide_eq_false (by omega)]
theorem Wqk {α:Type} (l:List α) (k:Nat):decide ((ilen l) > (k:Int)) = decide (l.length > k):=by
 unfold ilen; by_cases h:l.length > k
 ·rw [decide_eq_true h,decide_eq_true (by omega)]
 ·rw [decide_eq_false h,decide_eq_false (by omega)]
theorem Wqg (l k:Nat):decide (l > k) = !decide (l ≤ k):=by
 by_cases h:l ≤ k
 ·rw [decide_eq_true h,decide_eq_false (by omega)]; rfl
 ·rw [decide_eq_false h,decide_eq_true (by omega)]; rfl
theorem Wxl {l:List Opn} (hl:l.length ≤ 1048576) (hN:1048576 < N):Zhj N l = ret (l.any fun o=>o.1 == 11):=by
 unfold Zhj Za0 Zs
 have h1:=Wwg (l:=l) (p:=fun o=>o.1 == 11) (N:=N) (lp:=fun n j=>Zq N l (fun t11=>(some ((),(t11,())))) (fun t12 t13=>(some ((),((-1:Int),())))) n j) (K0:=fun j=>some ((),(j,()))) (K1:=some ((),((-1:Int),()))) (by omega) (by omega)
  (fun n j hj=>by
   simp only [Zq,Wba hj,Wp hj,Wu hj,Wi (show j < 4611686018427387904 by omega),cond_true,Zm5,Option.bind_some])
  (fun n=>by simp only [Zq,Wbj (Nat.le_refl _),cond_false])
 rw [h1]
 have h2:=Wwh (p:=fun o:Opn=>o.1 == 11) l 0
 cases hf:fnd (fun o:Opn=>o.1 == 11) l 0 with
 | some r =>
  rw [hf] at h2
  simp only [Option.bind_some,decide_eq_true (show ((r.1:Int) ≥ 0) by omega),ret]
  rw [← h2]; rfl
 | none =>
  rw [hf] at h2
  rw [← h2]; rfl
theorem Wyn (h:PB p) (hN:1048576 < N):Zf7 N p = ret (pgOk p):=by
 have hc:=h.code
 have hk:=h.kids
 unfold Zf7 pgOk
 have h1:=Wad (l:=p.2) (V:=Unit) (R:=Unit × (Bool × Unit)) (lp:=fun n j v=>Zdd N p.2 p (some ((),(false,()))) (fun t11 t12 =>
  ((Zby N p.1).bind fun o13 =>
 (bif o13.2.1 then
 (bif decide ((ilen p.2) ≤ (3:Int)) then
 ((Zhj N p.1).bind fun o14 =>
 (some ((),(beq o14.2.1 (decide ((ilen p.2) > (0:Int))),()))))
 else
 (some ((),(false,()))))
 else
 (some ((),(false,())))))) n j) (n:=N) (by omega)
  (body:=fun j x v k=>(Zfh N x).bind fun o=>bif !o.2.1 then some ((),(false,())) else k v) (K:=fun _ v=>((Zby N p.1).bind fun o13 =>
 (bif o13.2.1 then
 (bif decide ((ilen p.2) ≤ (3:Int)) then
 ((Zhj N p.1).bind fun o14 =>
 (some ((),(beq o14.2.1 (decide ((ilen p.2) > (0:Int))),()))))
 else
 (some ((),(false,()))))
 else
 (some ((),(false,()))))))
  (fun n i v hi=>by simp only [Zdd,Wba hi,Wp hi,Wu hi,Wi (show i < 4611686018427387904 by omega),cond_true])
  (fun n v=>by simp only [Zdd,Wbj (Nat.le_refl p.2.length),cond_false]) ()
 refine h1.trans ?_
 rw [Wbm (p:=fun x=>!Wno x) (E:=fun _=>some ((),(false,()))) p.2 0 () (fun j x v k hx=>by rw [implKid_run (by have:=h.each x hx; omega) hN]; rfl),Weu,Woe (by omega) hN,Wxl (by omega) hN]
 simp only [ret,Option.bind_some]
 rw [show (3:Int) = ((3:Nat):Int) from rfl,ilen_le,show (0:Int) = ((0:Nat):Int) from rfl,Wqk]
 cases p.2.all Wno <;> cases cdOk p.1 <;> cases decide (p.2.length ≤ 3) <;> rfl
theorem specProg_run (h:PB p) (hN:1048576 < N):Zd3 N p = ret (pgOk p):=by
 have hc:=h.code
 have hk:=h.kids
 unfold Zd3 pgOk
 have h1:=Wad (l:=p.2) (V:=Unit) (R:=Unit × (Bool × Unit)) (lp:=fun n j v=>Zcg N p (some ((),(false,()))) (fun i10 t11=>(some ((),(true,())))) n j) (n:=N) (by omega)
  (body:=fun j x v k=>(Zfg N x).bind fun o=>bif !o.2.1 then some ((),(false,())) else k v) (K:=fun _ v=>some ((),(true,())))
  (fun n i v hi=>by simp only [Zcg,Wba hi,Wp hi,Wu hi,Wi (show i < 4611686018427387904 by omega),cond_true])
  (fun n v=>by simp only [Zcg,Wbj (Nat.le_refl p.2.length),cond_false]) ()
 have h2:Zcg N p (some ((),(false,()))) (fun i10 t11=>(some ((),(true,())))) N 0 = ret (p.2.all Wno):=by
  refine h1.trans ?_
  rw [Wbm (p:=fun x=>!Wno x) (E:=fun _=>some ((),(false,()))) p.2 0 () (fun j x v k hx=>by rw [specKid_run (by have:=h.each x hx; omega) hN]; rfl),Weu]
  cases p.2.all Wno <;> rfl
 rw [h2,Wos (by omega) hN,Wop (by omega) hN]
 simp only [ret,Option.bind_some]
 rw [show (3:Int) = ((3:Nat):Int) from rfl,Wqk,Wqg,show (0:Int) = ((0:Nat):Int) from rfl,Wqk]
 generalize beq (p.1.any fun o=>o.1 == 11) (decide (p.2.length > 0)) = b
 cases p.2.all Wno <;> cases cdOk p.1 <;> cases decide (p.2.length ≤ 3) <;> cases b <;> rfl
theorem Wsc {t:List Int × List Int × Int} (h1:t.1.length ≤ 1048576) (h2:t.2.1.length ≤ 1048576) (hN:1048576 < N):Zdi N t = ret (thOk t):=by
 unfold Zdi thOk mapOk
 have e:((ilen t.2.1) != (8:Int)) = !decide (t.2.1.length = 8):=by
  by_cases h:t.2.1.length = 8
  ·simp [ilen,h]
  ·simp [ilen,h]; omega
 have h3:=Wad (l:=t.2.1) (V:=Unit) (R:=Unit × (Bool × Unit)) (lp:=fun n j v=>Zbs N t (some ((),(false,()))) (fun i10 t11=>(some ((),(true,())))) n j) (n:=N) (by omega)
  (body:=fun j x v k=>bif !(decide (0 ≤ x) && decide (x ≤ 65536)) then some ((),(false,())) else k v) (K:=fun _ v=>some ((),(true,())))
  (fun n i v hi=>by simp only [Zbs,Wba hi,Wp hi,Wu hi,Wi (show i < 4611686018427387904 by omega),cond_true,Wgl,ret,Option.bind_some])
  (fun n v=>by simp only [Zbs,Wbj (Nat.le_refl t.2.1.length),cond_false]) ()
 have h4:Zbs N t (some ((),(false,()))) (fun i10 t11=>(some ((),(true,())))) N 0 = ret (t.2.1.all fun x=>decide (0 ≤ x) && decide (x ≤ 65536)):=by
  refine h3.trans ?_
  rw [Wbm (p:=fun x=>!(decide (0 ≤ x) && decide (x ≤ 65536))) (E:=fun _=>some ((),(false,()))) t.2.1 0 () (fun j x v k _=>rfl),Weu]
  cases t.2.1.all _ <;> rfl
 rw [Wzg h1 hN,e,Wah,h4]
 cases Wiq t.1 <;> cases decide (t.2.1.length = 8) <;> cases Wct t.2.2 <;> cases t.2.1.all _ <;> rfl
theorem Wrz (h:SB s) (hN:1048576 < N):Zdj N s = ret (scOk s):=by
 have h1:=h.cells
 have h2:=h.map
 have h3:=h.progs
 unfold Zdj scOk
 have h4:=Wad (l:=s.2.1) (V:=Unit) (R:=Unit × (Bool × Unit)) (lp:=fun n j v=>Zbt N s (some ((),(false,()))) (fun i9 t10=>(some ((),(true,())))) n j) (n:=N) (by omega)
  (body:=fun j x v k=>(Zd3 N x).bind fun o=>bif !o.2.1 then some ((),(false,())) else k v) (K:=fun _ v=>some ((),(true,())))
  (fun n i v hi=>by simp only [Zbt,Wba hi,Wp hi,Wu hi,Wi (show i < 4611686018427387904 by omega),cond_true])
  (fun n v=>by simp only [Zbt,Wbj (Nat.le_refl s.2.1.length),cond_false]) ()
 have h5:Zbt N s (some ((),(false,()))) (fun i9 t10=>(some ((),(true,())))) N 0 = ret (s.2.1.all pgOk):=by
  refine h4.trans ?_
  rw [Wbm (p:=fun x=>!pgOk x) (E:=fun _=>some ((),(false,()))) s.2.1 0 () (fun j x v k hx=>by rw [specProg_run (h.each x hx) hN]; rfl),Weu]
  cases s.2.1.all pgOk <;> rfl
 rw [h5,Wsc (by omega) (by omega) hN]
 simp only [ret,Option.bind_some]
 rw [show (4:Int) = ((4:Nat):Int) from rfl,Wqk,Wqg,show (400:Int) = ((400:Nat):Int) from rfl,Wqk,Wqg]
 cases thOk s.1 <;> cases decide (s.2.1.length ≤ 4) <;> cases decide (s.2.2.length ≤ 400) <;> rfl
theorem Wgf (h:SB s) (hN:1048576 < N):Zg2 N s = ret (scOk s):=by
 have h1:=h.cells
 have h2:=h.map
 have h3:=h.progs
 unfold Zg2 scOk Zaq Zo
 have h4:=Wad (l:=s.2.1) (V:=Unit) (R:=Unit × (Int × Unit)) (lp:=fun n j v=>Zf N s.2.1 (fun t11=>(some ((),(t11,())))) (fun t12 t13=>(some ((),((-1:Int),())))) n j) (n:=N) (by omega)
  (body:=fun j x v k=>(Zix N x).bind fun o=>bif o.2.1 then some ((),(j,())) else k v) (K:=fun _ v=>some ((),((-1:Int),())))
  (fun n i v hi=>by simp only [Zf,Wba hi,Wp hi,Wu hi,Wi (show i < 4611686018427387904 by omega),cond_true])
  (fun n v=>by simp only [Zf,Wbj (Nat.le_refl s.2.1.length),cond_false]) ()
 have h5:((Zf N s.2.1 (fun t11=>(some ((),(t11,())))) (fun t12 t13=>(some ((),((-1:Int),())))) N 0).bind fun o2=>some ((),(decide (o2.2.1 ≥ (0:Int)),()))) = ret (!s.2.1.all pgOk):=by
  have h6:=h4
  rw [h6,Wmm (p:=fun x=>!pgOk x) (E:=fun j _=>some ((),(j,()))) s.2.1 0 () (fun j x v k hx=>by unfold Zix; rw [Wyn (h.each x hx) hN]; rfl)]
  have h7:=Wwh (p:=fun x=>!pgOk x) s.2.1 0
  rw [Weu] at h7
  rw [← h7]
  cases hf:fnd (fun x=>!pgOk x) s.2.1 0 with
  | some r=>simp only [Option.bind_some,decide_eq_true (show ((r.1:Int) ≥ 0) by omega)]; rfl
  | none=>rfl
 rw [Wry (by omega) (by omega) hN]
 simp only [ret,Option.bind_some]
 rw [h5,show (4:Int) = ((4:Nat):Int) from rfl,ilen_le,show (400:Int) = ((400:Nat):Int) from rfl,ilen_le]
 cases thOk s.1 <;> cases decide (s.2.1.length ≤ 4) <;> cases decide (s.2.2.length ≤ 400) <;> cases s.2.1.all pgOk <;> rfl
end Go.Sx
