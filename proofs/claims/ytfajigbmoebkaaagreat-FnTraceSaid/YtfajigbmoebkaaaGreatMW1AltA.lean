/- Plain laws of the Lean functions. -/
import Derived.Test.YtfajigbmoebkaaaGreatMW1Ent

namespace Go.Sx
set_option linter.unusedVariables false
set_option linter.unusedSimpArgs false
theorem touch_ex {N:Nat} {o:Opn}:∃ t:Int,Zca N o = ret t ∧ Zhi N o = ret t:=by
 unfold Zca Zhi
 rw [Wgp,Wjk]
 simp only [ret,Option.bind_some]
 cases opOk o
 ·exact ⟨0,rfl,rfl⟩
 ·cases o.1 == 5 <;> cases o.1 == 6 <;> cases o.1 == 12 <;> cases o.1 == 13 <;> cases o.1 == 14 <;> cases o.1 == 15 <;> cases o.1 == 16 <;> exact ⟨_,rfl,rfl⟩
noncomputable def Wrr (o:Opn):Int:=match Zca 0 o with | some (_,(t,_))=>t | none=>0
theorem touchN {N:Nat} {o:Opn}:Zca N o = Zca 0 o:=by
 unfold Zca
 rw [Wgp,Wgp]
theorem Wha {N:Nat} {o:Opn}:Zca N o = ret (Wrr o):=by
 rw [touchN]
 obtain ⟨t,h,_⟩:=touch_ex (N:=0) (o:=o)
 unfold Wrr
 rw [h]
theorem Wmb {N:Nat} {o:Opn}:Zhi N o = ret (Wrr o):=by
 obtain ⟨t,h,h2⟩:=touch_ex (N:=N) (o:=o)
 rw [h2,← h,Wha]
noncomputable def Wlw (o:Opn):Bool:=(o.1 == 11) || (Wrr o == 2)
noncomputable def Wno (l:List Opn):Bool:=cdOk l && !l.any Wlw
theorem Wop {N:Nat} {l:List Opn} (hl:l.length ≤ 1048576) (hN:1048576 < N):Zc2 N l = ret (l.any fun o=>o.1 == 11):=by
 unfold Zc2
 have h1:=Wad (l:=l) (V:=Unit) (R:=Unit × (Bool × Unit)) (lp:=fun n j v=>Zcq N l (some ((),(true,()))) (fun i8 t9=>some ((),(false,()))) n j) (n:=N) (by omega)
  (body:=fun j x v k=>bif x.1 == 11 then some ((),(true,())) else k v) (K:=fun _ v=>some ((),(false,())))
  (fun n i v hi=>by simp only [Zcq,Wba hi,Wp hi,Wu hi,Wi (show i < 4611686018427387904 by omega),cond_true])
  (fun n v=>by simp only [Zcq,Wbj (Nat.le_refl l.length),cond_false]) ()
 refine h1.trans ?_
 rw [Wbm (p:=fun x:Opn=>x.1 == 11) (E:=fun _=>some ((),(true,()))) l 0 () (fun j x v k _=>rfl)]
 cases l.any fun o:Opn=>o.1 == 11 <;> rfl
theorem specKid_run {N:Nat} {l:List Opn} (hl:l.length ≤ 1048576) (hN:1048576 < N):Zfg N l = ret (Wno l):=by
 unfold Zfg Wno
 simp only [Wos hl hN,ret,Option.bind_some]
 cases cdOk l with
 | false=>rfl
 | true =>
  simp only [Wop hl hN,ret,Option.bind_some,Bool.not_true,cond_false,Bool.true_and]
  have h1:=Wad (l:=l) (V:=Unit) (R:=Unit × (Bool × Unit)) (lp:=fun n j v=>Zed N l (some ((),(false,()))) (fun i8 t9=>some ((),(true,()))) n j) (n:=N) (by omega)
   (body:=fun j x v k=>bif Wrr x == 2 then some ((),(false,())) else k v) (K:=fun _ v=>some ((),(true,())))
   (fun n i v hi=>by simp only [Zed,Wba hi,Wp hi,Wu hi,Wi (show i < 4611686018427387904 by omega),cond_true,Wha,ret,Option.bind_some])
   (fun n v=>by simp only [Zed,Wbj (Nat.le_refl l.length),cond_false]) ()
  (try simp only [] at h1)
  rw [h1,Wbm (p:=fun x=>Wrr x == 2) (E:=fun _=>some ((),(false,()))) l 0 () (fun j x v k _=>rfl)]
  have e:l.any Wlw = ((l.any fun o=>o.1 == 11) || l.any fun o=>Wrr o == 2):=by
   clear h1 hl
   induction l with
   | nil=>rfl
   | cons x l ih =>
    simp only [List.any_cons,ih,Wlw]
    cases x.1 == 11 <;> cases Wrr x == 2 <;> simp
  rw [e]
  cases l.any fun o:Opn=>o.1 == 11 <;> cases l.any fun o=>Wrr o == 2 <;> rfl
theorem implKid_run {N:Nat} {l:List Opn} (hl:l.length ≤ 1048576) (hN:1048576 < N):Zfh N l = ret (Wno l):=by
 unfold Zfh Wno
 have h1:=Wad (l:=l) (V:=Unit) (R:=Unit × (Bool × Unit)) (lp:=fun n j v=>Zee N l (some ((),(false,()))) (fun t11 t12=>((Zby N l).bind fun o13=>(some ((),(o13.2.1,()))))) n j) (n:=N) (by omega)
  (body:=fun j x v k=>bif Wlw x then some ((),(false,())) else k v) (K:=fun _ v=>ret (cdOk l))
  (fun n i v hi=>by
   simp only [Zee,Wba hi,Wp hi,Wu hi,Wi (show i < 4611686018427387904 by omega),cond_true,Wmb,ret,Option.bind_some,Wlw]
   cases l[i].1 == 11 <;> rfl)
  (fun n v=>by simp only [Zee,Wbj (Nat.le_refl l.length),cond_false,Woe hl hN,ret,Option.bind_some]) ()
 refine h1.trans ?_
 rw [Wbm (p:=Wlw) (E:=fun _=>some ((),(false,()))) l 0 () (fun j x v k _=>rfl)]
 cases l.any Wlw <;> cases cdOk l <;> rfl
def Wkd (l:List Int):Bool:=decide (l.length = 4) && l.all Wct
theorem Wga {N:Nat} {l:List Int} (hl:l.length ≤ 1048576) (hN:1048576 < N):Zac N l 4 = ret (Wkd l):=by
 unfold Zac Wkd
 have h1:=Wad (l:=l) (V:=Unit) (R:=Unit × (Bool × Unit)) (lp:=fun n j v=>Za1 N l 4 (some ((),(false,()))) (fun i8 t9=>some ((),((ilen l) == (4:Int),()))) n j) (n:=N) (by omega)
  (body:=fun j x v k=>bif !Wct x then some ((),(false,())) else k v) (K:=fun _ v=>some ((),((ilen l) == (4:Int),())))
  (fun n i v hi=>by simp only [Za1,Wba hi,Wp hi,Wu hi,Wi (show i < 4611686018427387904 by omega),cond_true,Wl,ret,Option.bind_some])
  (fun n v=>by simp only [Za1,Wbj (Nat.le_refl l.length),cond_false]) ()
 refine h1.trans ?_
 rw [Wbm (p:=fun x=>!Wct x) (E:=fun _=>some ((),(false,()))) l 0 () (fun j x v k _=>rfl),Weu]
 have e:((ilen l) == (4:Int)) = decide (l.length = 4):=by
  by_cases h:l.length = 4
  ·simp [ilen,h]
  ·simp [ilen,h]; omega
 rw [e]
 cases l.all Wct <;> simp
end Go.Sx
