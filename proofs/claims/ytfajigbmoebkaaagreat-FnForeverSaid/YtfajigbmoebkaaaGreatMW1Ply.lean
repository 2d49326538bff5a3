/- Plain laws of the Lean functions. -/
import Derived.Test.YtfajigbmoebkaaaGreatMW1Act

namespace Go.Sx
set_option linter.unusedVariables false
set_option linter.unusedSimpArgs false
noncomputable def pgOk (p:Pg):Bool:=p.2.all Wnm && (cdOk p.1 && (decide (p.2.length ≤ 3) && beq (p.1.any fun o=>o.1 == 11) (decide (p.2.length > 0))))
noncomputable def scOk (s:Sc):Bool:=thOk s.1 && (decide (s.2.1.length ≤ 4) && (decide (s.2.2.length ≤ 400) && s.2.1.all pgOk))
structure PB (p:Pg):Prop where
 code:p.1.length ≤ 1000
 kids:p.2.length ≤ 1000
 each:∀ c ∈ p.2,c.length ≤ 1000
structure SB (s:Sc):Prop where
 cells:s.1.1.length ≤ 100
 map:s.1.2.1.length ≤ 100
 progs:s.2.1.length ≤ 100
 each:∀ p ∈ s.2.1,PB p
 acts:s.2.2.length ≤ 1000
variable {N:Nat} {s:Sc} {p:Pg} {w:Wo} {n:Int} {a:Ac}
theorem pgOk_of (h:pgOk p = true):POk p:=by
 unfold pgOk at h
 simp only [Bool.and_eq_true,List.all_eq_true,decide_eq_true_eq] at h
 exact ⟨cc_of h.2.1,fun c hc=>kc_of (h.1 c hc),h.2.2.1⟩
theorem scOk_of (h:scOk s = true):ThOk s.1 ∧ s.2.1.length ≤ 4 ∧ s.2.2.length ≤ 400 ∧ ∀ p ∈ s.2.1,POk p:=by
 unfold scOk at h
 simp only [Bool.and_eq_true,List.all_eq_true,decide_eq_true_eq] at h
 exact ⟨thOk_iff.1 h.1,h.2.1,h.2.2.1,fun p hp=>pgOk_of (h.2.2.2 p hp)⟩
theorem ilen_le {α:Type} (l:List α) (k:Nat):decide ((ilen l) ≤ (k:Int)) = decide (l.length ≤ k):=by
 unfold ilen; by_cases h:l.length ≤ k
 ·rw [decide_eq_true h,decide_eq_true (by omega)]
 ·rw [decide_eq_false h,decide_eq_false (by omega)]
theorem Wqt {α:Type} (l:List α) (k:Nat):decide ((ilen l) > (k:Int)) = decide (l.length > k):=by
 unfold ilen; by_cases h:l.length > k
 ·rw [decide_eq_true h,decide_eq_true (by omega)]
 ·rw [decide_eq_false h,decide_eq_false (by omega)]
theorem Wqr (l k:Nat):decide (l > k) = !decide (l ≤ k):=by
 by_cases h:l ≤ k
 ·rw [decide_eq_true h,decide_eq_false (by omega)]; rfl
 ·rw [decide_eq_false h,decide_eq_true (by omega)]; rfl
theorem Wzh {l:List Opn} (hl:l.length ≤ 1048576) (hN:1048576 < N):Zhb N l = ret (l.any fun o=>o.1 == 11):=by
 unfold Zhb Zax Zs
 have h1:=Wun (l:=l) (p:=fun o=>o.1 == 11) (N:=N) (lp:=fun n j=>Zp N l (fun t11=>(some ((),(t11,())))) (fun t12 t13=>(some ((),((-1:Int),())))) n j) (K0:=fun j=>some ((),(j,()))) (K1:=some ((),((-1:Int),()))) (by omega) (by omega)
  (fun n j hj=>by
   simp only [Zp,Waz hj,Wn hj,Wq hj,Wi (show j < 4611686018427387904 by omega),cond_true,Zm1,Option.bind_some])
  (fun n=>by simp only [Zp,Wbj (Nat.le_refl _),cond_false])
 rw [h1]
 have h2:=Wvo (p:=fun o:Opn=>o.1 == 11) l 0
 cases hf:fnd (fun o:Opn=>o.1 == 11) l 0 with
 | some r =>
  rw [hf] at h2
  simp only [Option.bind_some,decide_eq_true (show ((r.1:Int) ≥ 0) by omega),ret]
  rw [← h2]; rfl
 | none =>
  rw [hf] at h2
  rw [← h2]; rfl
theorem Wzg (h:PB p) (hN:1048576 < N):Zf8 N p = ret (pgOk p):=by
 have hc:=h.code
 have hk:=h.kids
 unfold Zf8 pgOk
 have h1:=Wz (l:=p.2) (V:=Unit) (R:=Unit × (Bool × Unit)) (lp:=fun n j v=>Zdf N p.2 p (some ((),(false,()))) (fun t11 t12 =>
  ((Zbw N p.1).bind fun o13 =>
 (bif o13.2.1 then
 (bif decide ((ilen p.2) ≤ (3:Int)) then
 ((Zhb N p.1).bind fun o14 =>
 (some ((),(beq o14.2.1 (decide ((ilen p.2) > (0:Int))),()))))
 else
 (some ((),(false,()))))
 else
 (some ((),(false,())))))) n j) (n:=N) (by omega)
  (body:=fun j x v k=>(Zfi N x).bind fun o=>bif !o.2.1 then some ((),(false,())) else k v) (K:=fun _ v=>((Zbw N p.1).bind fun o13 =>
 (bif o13.2.1 then
 (bif decide ((ilen p.2) ≤ (3:Int)) then
 ((Zhb N p.1).bind fun o14 =>
 (some ((),(beq o14.2.1 (decide ((ilen p.2) > (0:Int))),()))))
 else
 (some ((),(false,()))))
 else
 (some ((),(false,()))))))
  (fun n i v hi=>by simp only [Zdf,Waz hi,Wn hi,Wq hi,Wi (show i < 4611686018427387904 by omega),cond_true])
  (fun n v=>by simp only [Zdf,Wbj (Nat.le_refl p.2.length),cond_false]) ()
 refine h1.trans ?_
 rw [Wbn (p:=fun x=>!Wnm x) (E:=fun _=>some ((),(false,()))) p.2 0 () (fun j x v k hx=>by rw [implKid_run (by have:=h.each x hx; omega) hN]; rfl),Wfb,Wom (by omega) hN,Wzh (by omega) hN]
 simp only [ret,Option.bind_some]
 rw [show (3:Int) = ((3:Nat):Int) from rfl,ilen_le,show (0:Int) = ((0:Nat):Int) from rfl,Wqt]
 cases p.2.all Wnm <;> cases cdOk p.1 <;> cases decide (p.2.length ≤ 3) <;> rfl
theorem specProg_run (h:PB p) (hN:1048576 < N):Zd6 N p = ret (pgOk p):=by
 have hc:=h.code
 have hk:=h.kids
 unfold Zd6 pgOk
 have h1:=Wz (l:=p.2) (V:=Unit) (R:=Unit × (Bool × Unit)) (lp:=fun n j v=>Zcf N p (some ((),(false,()))) (fun i10 t11=>(some ((),(true,())))) n j) (n:=N) (by omega)
  (body:=fun j x v k=>(Zfh N x).bind fun o=>bif !o.2.1 then some ((),(false,())) else k v) (K:=fun _ v=>some ((),(true,())))
  (fun n i v hi=>by simp only [Zcf,Waz hi,Wn hi,Wq hi,Wi (show i < 4611686018427387904 by omega),cond_true])
  (fun n v=>by simp only [Zcf,Wbj (Nat.le_refl p.2.length),cond_false]) ()
 have h2:Zcf N p (some ((),(false,()))) (fun i10 t11=>(some ((),(true,())))) N 0 = ret (p.2.all Wnm):=by
  refine h1.trans ?_
  rw [Wbn (p:=fun x=>!Wnm x) (E:=fun _=>some ((),(false,()))) p.2 0 () (fun j x v k hx=>by rw [specKid_run (by have:=h.each x hx; omega) hN]; rfl),Wfb]
  cases p.2.all Wnm <;> rfl
 rw [h2,Wny (by omega) hN,Woa (by omega) hN]
 simp only [ret,Option.bind_some]
 rw [show (3:Int) = ((3:Nat):Int) from rfl,Wqt,Wqr,show (0:Int) = ((0:Nat):Int) from rfl,Wqt]
 generalize beq (p.1.any fun o=>o.1 == 11) (decide (p.2.length > 0)) = b
 cases p.2.all Wnm <;> cases cdOk p.1 <;> cases decide (p.2.length ≤ 3) <;> cases b <;> rfl
theorem Wsl {t:List Int × List Int × Int} (h1:t.1.length ≤ 1048576) (h2:t.2.1.length ≤ 1048576) (hN:1048576 < N):Zdk N t = ret (thOk t):=by
 unfold Zdk thOk Wxr
 have e:((ilen t.2.1) != (8:Int)) = !decide (t.2.1.length = 8):=by
  by_cases h:t.2.1.length = 8
  ·simp [ilen,h]
  ·simp [ilen,h]; omega
 have h3:=Wz (l:=t.2.1) (V:=Unit) (R:=Unit × (Bool × Unit)) (lp:=fun n j v=>Zbq N t (some ((),(false,()))) (fun i10 t11=>(some ((),(true,())))) n j) (n:=N) (by omega)
  (body:=fun j x v k=>bif !(decide (0 ≤ x) && decide (x ≤ 65536)) then some ((),(false,())) else k v) (K:=fun _ v=>some ((),(true,())))
  (fun n i v hi=>by simp only [Zbq,Waz hi,Wn hi,Wq hi,Wi (show i < 4611686018427387904 by omega),cond_true,Wgv,ret,Option.bind_some])
  (fun n v=>by simp only [Zbq,Wbj (Nat.le_refl t.2.1.length),cond_false]) ()
 have h4:Zbq N t (some ((),(false,()))) (fun i10 t11=>(some ((),(true,())))) N 0 = ret (t.2.1.all fun x=>decide (0 ≤ x) && decide (x ≤ 65536)):=by
  refine h3.trans ?_
  rw [Wbn (p:=fun x=>!(decide (0 ≤ x) && decide (x ≤ 65536))) (E:=fun _=>some ((),(false,()))) t.2.1 0 () (fun j x v k _=>rfl),Wfb]
  cases t.2.1.all _ <;> rfl
 rw [Wyl h1 hN,e,Wah,h4]
 cases Wjc t.1 <;> cases decide (t.2.1.length = 8) <;> cases Wcz t.2.2 <;> cases t.2.1.all _ <;> rfl
theorem Wsd (h:SB s) (hN:1048576 < N):Zdl N s = ret (scOk s):=by
 have h1:=h.cells
 have h2:=h.map
 have h3:=h.progs
 unfold Zdl scOk
 have h4:=Wz (l:=s.2.1) (V:=Unit) (R:=Unit × (Bool × Unit)) (lp:=fun n j v=>Zbr N s (some ((),(false,()))) (fun i9 t10=>(some ((),(true,())))) n j) (n:=N) (by omega)
  (body:=fun j x v k=>(Zd6 N x).bind fun o=>bif !o.2.1 then some ((),(false,())) else k v) (K:=fun _ v=>some ((),(true,())))
  (fun n i v hi=>by simp only [Zbr,Waz hi,Wn hi,Wq hi,Wi (show i < 4611686018427387904 by omega),cond_true])
  (fun n v=>by simp only [Zbr,Wbj (Nat.le_refl s.2.1.length),cond_false]) ()
 have h5:Zbr N s (some ((),(false,()))) (fun i9 t10=>(some ((),(true,())))) N 0 = ret (s.2.1.all pgOk):=by
  refine h4.trans ?_
  rw [Wbn (p:=fun x=>!pgOk x) (E:=fun _=>some ((),(false,()))) s.2.1 0 () (fun j x v k hx=>by rw [specProg_run (h.each x hx) hN]; rfl),Wfb]
  cases s.2.1.all pgOk <;> rfl
 rw [h5,Wsl (by omega) (by omega) hN]
 simp only [ret,Option.bind_some]
 rw [show (4:Int) = ((4:Nat):Int) from rfl,Wqt,Wqr,show (400:Int) = ((400:Nat):Int) from rfl,Wqt,Wqr]
 cases thOk s.1 <;> cases decide (s.2.1.length ≤ 4) <;> cases decide (s.2.2.length ≤ 400) <;> rfl
theorem Wsp (h:SB s) (hN:1048576 < N):Zkt N s = ret (scOk s):=by
 have h1:=h.cells
 have h2:=h.map
 have h3:=h.progs
 unfold Zkt scOk Zan Zn
 have h4:=Wz (l:=s.2.1) (V:=Unit) (R:=Unit × (Int × Unit)) (lp:=fun n j v=>Zf N s.2.1 (fun t11=>(some ((),(t11,())))) (fun t12 t13=>(some ((),((-1:Int),())))) n j) (n:=N) (by omega)
  (body:=fun j x v k=>(Zio N x).bind fun o=>bif o.2.1 then some ((),(j,())) else k v) (K:=fun _ v=>some ((),((-1:Int),())))
  (fun n i v hi=>by simp only [Zf,Waz hi,Wn hi,Wq hi,Wi (show i < 4611686018427387904 by omega),cond_true])
  (fun n v=>by simp only [Zf,Wbj (Nat.le_refl s.2.1.length),cond_false]) ()
 have h5:((Zf N s.2.1 (fun t11=>(some ((),(t11,())))) (fun t12 t13=>(some ((),((-1:Int),())))) N 0).bind fun o2=>some ((),(decide (o2.2.1 ≥ (0:Int)),()))) = ret (!s.2.1.all pgOk):=by
  have h6:=h4
  rw [h6,Wmv (p:=fun x=>!pgOk x) (E:=fun j _=>some ((),(j,()))) s.2.1 0 () (fun j x v k hx=>by unfold Zio; rw [Wzg (h.each x hx) hN]; rfl)]
  have h7:=Wvo (p:=fun x=>!pgOk x) s.2.1 0
  rw [Wfb] at h7
  rw [← h7]
  cases hf:fnd (fun x=>!pgOk x) s.2.1 0 with
  | some r=>simp only [Option.bind_some,decide_eq_true (show ((r.1:Int) ≥ 0) by omega)]; rfl
  | none=>rfl
 rw [Wry (by omega) (by omega) hN]
 simp only [ret,Option.bind_some]
 rw [h5,show (4:Int) = ((4:Nat):Int) from rfl,ilen_le,show (400:Int) = ((400:Nat):Int) from rfl,ilen_le]
 cases thOk s.1 <;> cases decide (s.2.1.length ≤ 4) <;> cases decide (s.2.2.length ≤ 400) <;> cases s.2.1.all pgOk <;> rfl
end Go.Sx
