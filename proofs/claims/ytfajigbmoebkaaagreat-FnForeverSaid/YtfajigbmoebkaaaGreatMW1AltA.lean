/- Plain laws of the Lean functions. -/
import Derived.Test.YtfajigbmoebkaaaGreatMW1Ent

namespace Go.Sx
set_option linter.unusedVariables false
set_option linter.unusedSimpArgs false
theorem touch_ex {N:Nat} {o:Opn}:∃ t:Int,Zb9 N o = ret t ∧ Zha N o = ret t:=by
 unfold Zb9 Zha
 rw [Wgy,Wjo]
 simp only [ret,Option.bind_some]
 cases opOk o
 ·exact ⟨0,rfl,rfl⟩
 ·cases o.1 == 5 <;> cases o.1 == 6 <;> cases o.1 == 12 <;> cases o.1 == 13 <;> cases o.1 == 14 <;> cases o.1 == 15 <;> cases o.1 == 16 <;> exact ⟨_,rfl,rfl⟩
noncomputable def Wsb (o:Opn):Int:=match Zb9 0 o with | some (_,(t,_))=>t | none=>0
theorem touchN {N:Nat} {o:Opn}:Zb9 N o = Zb9 0 o:=by
 unfold Zb9
 rw [Wgy,Wgy]
theorem Whr {N:Nat} {o:Opn}:Zb9 N o = ret (Wsb o):=by
 rw [touchN]
 obtain ⟨t,h,_⟩:=touch_ex (N:=0) (o:=o)
 unfold Wsb
 rw [h]
theorem Wmf {N:Nat} {o:Opn}:Zha N o = ret (Wsb o):=by
 obtain ⟨t,h,h2⟩:=touch_ex (N:=N) (o:=o)
 rw [h2,← h,Whr]
noncomputable def Wly (o:Opn):Bool:=(o.1 == 11) || (Wsb o == 2)
noncomputable def Wnm (l:List Opn):Bool:=cdOk l && !l.any Wly
theorem Woa {N:Nat} {l:List Opn} (hl:l.length ≤ 1048576) (hN:1048576 < N):Zc4 N l = ret (l.any fun o=>o.1 == 11):=by
 unfold Zc4
 have h1:=Wz (l:=l) (V:=Unit) (R:=Unit × (Bool × Unit)) (lp:=fun n j v=>Zcu N l (some ((),(true,()))) (fun i8 t9=>some ((),(false,()))) n j) (n:=N) (by omega)
  (body:=fun j x v k=>bif x.1 == 11 then some ((),(true,())) else k v) (K:=fun _ v=>some ((),(false,())))
  (fun n i v hi=>by simp only [Zcu,Waz hi,Wn hi,Wq hi,Wi (show i < 4611686018427387904 by omega),cond_true])
  (fun n v=>by simp only [Zcu,Wbj (Nat.le_refl l.length),cond_false]) ()
 refine h1.trans ?_
 rw [Wbn (p:=fun x:Opn=>x.1 == 11) (E:=fun _=>some ((),(true,()))) l 0 () (fun j x v k _=>rfl)]
 cases l.any fun o:Opn=>o.1 == 11 <;> rfl
theorem specKid_run {N:Nat} {l:List Opn} (hl:l.length ≤ 1048576) (hN:1048576 < N):Zfh N l = ret (Wnm l):=by
 unfold Zfh Wnm
 simp only [Wny hl hN,ret,Option.bind_some]
 cases cdOk l with
 | false=>rfl
 | true =>
  simp only [Woa hl hN,ret,Option.bind_some,Bool.not_true,cond_false,Bool.true_and]
  have h1:=Wz (l:=l) (V:=Unit) (R:=Unit × (Bool × Unit)) (lp:=fun n j v=>Zeg N l (some ((),(false,()))) (fun i8 t9=>some ((),(true,()))) n j) (n:=N) (by omega)
   (body:=fun j x v k=>bif Wsb x == 2 then some ((),(false,())) else k v) (K:=fun _ v=>some ((),(true,())))
   (fun n i v hi=>by simp only [Zeg,Waz hi,Wn hi,Wq hi,Wi (show i < 4611686018427387904 by omega),cond_true,Whr,ret,Option.bind_some])
   (fun n v=>by simp only [Zeg,Wbj (Nat.le_refl l.length),cond_false]) ()
  (try simp only [] at h1)
  rw [h1,Wbn (p:=fun x=>Wsb x == 2) (E:=fun _=>some ((),(false,()))) l 0 () (fun j x v k _=>rfl)]
  have e:l.any Wly = ((l.any fun o=>o.1 == 11) || l.any fun o=>Wsb o == 2):=by
   clear h1 hl
   induction l with
   | nil=>rfl
   | cons x l ih =>
    simp only [List.any_cons,ih,Wly]
    cases x.1 == 11 <;> cases Wsb x == 2 <;> simp
  rw [e]
  cases l.any fun o:Opn=>o.1 == 11 <;> cases l.any fun o=>Wsb o == 2 <;> rfl
theorem implKid_run {N:Nat} {l:List Opn} (hl:l.length ≤ 1048576) (hN:1048576 < N):Zfi N l = ret (Wnm l):=by
 unfold Zfi Wnm
 have h1:=Wz (l:=l) (V:=Unit) (R:=Unit × (Bool × Unit)) (lp:=fun n j v=>Zeh N l (some ((),(false,()))) (fun t11 t12=>((Zbw N l).bind fun o13=>(some ((),(o13.2.1,()))))) n j) (n:=N) (by omega)
  (body:=fun j x v k=>bif Wly x then some ((),(false,())) else k v) (K:=fun _ v=>ret (cdOk l))
  (fun n i v hi=>by
   simp only [Zeh,Waz hi,Wn hi,Wq hi,Wi (show i < 4611686018427387904 by omega),cond_true,Wmf,ret,Option.bind_some,Wly]
   cases l[i].1 == 11 <;> rfl)
  (fun n v=>by simp only [Zeh,Wbj (Nat.le_refl l.length),cond_false,Wom hl hN,ret,Option.bind_some]) ()
 refine h1.trans ?_
 rw [Wbn (p:=Wly) (E:=fun _=>some ((),(false,()))) l 0 () (fun j x v k _=>rfl)]
 cases l.any Wly <;> cases cdOk l <;> rfl
def Wkf (l:List Int):Bool:=decide (l.length = 4) && l.all Wcz
theorem Wgc {N:Nat} {l:List Int} (hl:l.length ≤ 1048576) (hN:1048576 < N):Z9 N l 4 = ret (Wkf l):=by
 unfold Z9 Wkf
 have h1:=Wz (l:=l) (V:=Unit) (R:=Unit × (Bool × Unit)) (lp:=fun n j v=>Zaz N l 4 (some ((),(false,()))) (fun i8 t9=>some ((),((ilen l) == (4:Int),()))) n j) (n:=N) (by omega)
  (body:=fun j x v k=>bif !Wcz x then some ((),(false,())) else k v) (K:=fun _ v=>some ((),((ilen l) == (4:Int),())))
  (fun n i v hi=>by simp only [Zaz,Waz hi,Wn hi,Wq hi,Wi (show i < 4611686018427387904 by omega),cond_true,Wl,ret,Option.bind_some])
  (fun n v=>by simp only [Zaz,Wbj (Nat.le_refl l.length),cond_false]) ()
 refine h1.trans ?_
 rw [Wbn (p:=fun x=>!Wcz x) (E:=fun _=>some ((),(false,()))) l 0 () (fun j x v k _=>rfl),Wfb]
 have e:((ilen l) == (4:Int)) = decide (l.length = 4):=by
  by_cases h:l.length = 4
  ·simp [ilen,h]
  ·simp [ilen,h]; omega
 rw [e]
 cases l.all Wcz <;> simp
end Go.Sx
