/- Plain laws of the Lean functions. -/
import Derived.Test.YtfajigbmoebkaaaGreatMW1Ent

namespace Go.Sx
set_option linter.unusedVariables false
set_option linter.unusedSimpArgs false
theorem touch_ex {N:Nat} {o:Opn}:∃ t:Int,Zcd N o = ret t ∧ Zhe N o = ret t:=by
 unfold Zcd Zhe
 rw [Wgl,Wjh]
 simp only [ret,Option.bind_some]
 cases opOk o
 ·exact ⟨0,rfl,rfl⟩
 ·cases o.1 == 5 <;> cases o.1 == 6 <;> cases o.1 == 12 <;> cases o.1 == 13 <;> cases o.1 == 14 <;> cases o.1 == 15 <;> cases o.1 == 16 <;> exact ⟨_,rfl,rfl⟩
noncomputable def Wrx (o:Opn):Int:=match Zcd 0 o with | some (_,(t,_))=>t | none=>0
theorem touchN {N:Nat} {o:Opn}:Zcd N o = Zcd 0 o:=by
 unfold Zcd
 rw [Wgl,Wgl]
theorem Whn {N:Nat} {o:Opn}:Zcd N o = ret (Wrx o):=by
 rw [touchN]
 obtain ⟨t,h,_⟩:=touch_ex (N:=0) (o:=o)
 unfold Wrx
 rw [h]
theorem Wlk {N:Nat} {o:Opn}:Zhe N o = ret (Wrx o):=by
 obtain ⟨t,h,h2⟩:=touch_ex (N:=N) (o:=o)
 rw [h2,← h,Whn]
noncomputable def Wma (o:Opn):Bool:=(o.1 == 11) || (Wrx o == 2)
noncomputable def Wmt (l:List Opn):Bool:=cdOk l && !l.any Wma
theorem Woh {N:Nat} {l:List Opn} (hl:l.length ≤ 1048576) (hN:1048576 < N):Zc9 N l = ret (l.any fun o=>o.1 == 11):=by
 unfold Zc9
 have h1:=Wy (l:=l) (V:=Unit) (R:=Unit × (Bool × Unit)) (lp:=fun n j v=>Zcy N l (some ((),(true,()))) (fun i8 t9=>some ((),(false,()))) n j) (n:=N) (by omega)
  (body:=fun j x v k=>bif x.1 == 11 then some ((),(true,())) else k v) (K:=fun _ v=>some ((),(false,())))
  (fun n i v hi=>by simp only [Zcy,Waw hi,Wn hi,Wp hi,Wh (show i < 4611686018427387904 by omega),cond_true])
  (fun n v=>by simp only [Zcy,Wbi (Nat.le_refl l.length),cond_false]) ()
 refine h1.trans ?_
 rw [Wbn (p:=fun x:Opn=>x.1 == 11) (E:=fun _=>some ((),(true,()))) l 0 () (fun j x v k _=>rfl)]
 cases l.any fun o:Opn=>o.1 == 11 <;> rfl
theorem specKid_run {N:Nat} {l:List Opn} (hl:l.length ≤ 1048576) (hN:1048576 < N):Zfl N l = ret (Wmt l):=by
 unfold Zfl Wmt
 simp only [Wnr hl hN,ret,Option.bind_some]
 cases cdOk l with
 | false=>rfl
 | true =>
  simp only [Woh hl hN,ret,Option.bind_some,Bool.not_true,cond_false,Bool.true_and]
  have h1:=Wy (l:=l) (V:=Unit) (R:=Unit × (Bool × Unit)) (lp:=fun n j v=>Zek N l (some ((),(false,()))) (fun i8 t9=>some ((),(true,()))) n j) (n:=N) (by omega)
   (body:=fun j x v k=>bif Wrx x == 2 then some ((),(false,())) else k v) (K:=fun _ v=>some ((),(true,())))
   (fun n i v hi=>by simp only [Zek,Waw hi,Wn hi,Wp hi,Wh (show i < 4611686018427387904 by omega),cond_true,Whn,ret,Option.bind_some])
   (fun n v=>by simp only [Zek,Wbi (Nat.le_refl l.length),cond_false]) ()
  (try simp only [] at h1)
  rw [h1,Wbn (p:=fun x=>Wrx x == 2) (E:=fun _=>some ((),(false,()))) l 0 () (fun j x v k _=>rfl)]
  have e:l.any Wma = ((l.any fun o=>o.1 == 11) || l.any fun o=>Wrx o == 2):=by
   clear h1 hl
   induction l with
   | nil=>rfl
   | cons x l ih =>
    simp only [List.any_cons,ih,Wma]
    cases x.1 == 11 <;> cases Wrx x == 2 <;> simp
  rw [e]
  cases l.any fun o:Opn=>o.1 == 11 <;> cases l.any fun o=>Wrx o == 2 <;> rfl
theorem implKid_run {N:Nat} {l:List Opn} (hl:l.length ≤ 1048576) (hN:1048576 < N):Zfm N l = ret (Wmt l):=by
 unfold Zfm Wmt
 have h1:=Wy (l:=l) (V:=Unit) (R:=Unit × (Bool × Unit)) (lp:=fun n j v=>Zel N l (some ((),(false,()))) (fun t11 t12=>((Zb0 N l).bind fun o13=>(some ((),(o13.2.1,()))))) n j) (n:=N) (by omega)
  (body:=fun j x v k=>bif Wma x then some ((),(false,())) else k v) (K:=fun _ v=>ret (cdOk l))
  (fun n i v hi=>by
   simp only [Zel,Waw hi,Wn hi,Wp hi,Wh (show i < 4611686018427387904 by omega),cond_true,Wlk,ret,Option.bind_some,Wma]
   cases l[i].1 == 11 <;> rfl)
  (fun n v=>by simp only [Zel,Wbi (Nat.le_refl l.length),cond_false,Wnz hl hN,ret,Option.bind_some]) ()
 refine h1.trans ?_
 rw [Wbn (p:=Wma) (E:=fun _=>some ((),(false,()))) l 0 () (fun j x v k _=>rfl)]
 cases l.any Wma <;> cases cdOk l <;> rfl
def Wjz (l:List Int):Bool:=decide (l.length = 4) && l.all Wcx
theorem Wgc {N:Nat} {l:List Int} (hl:l.length ≤ 1048576) (hN:1048576 < N):Z9 N l 4 = ret (Wjz l):=by
 unfold Z9 Wjz
 have h1:=Wy (l:=l) (V:=Unit) (R:=Unit × (Bool × Unit)) (lp:=fun n j v=>Za3 N l 4 (some ((),(false,()))) (fun i8 t9=>some ((),((ilen l) == (4:Int),()))) n j) (n:=N) (by omega)
  (body:=fun j x v k=>bif !Wcx x then some ((),(false,())) else k v) (K:=fun _ v=>some ((),((ilen l) == (4:Int),())))
  (fun n i v hi=>by simp only [Za3,Waw hi,Wn hi,Wp hi,Wh (show i < 4611686018427387904 by omega),cond_true,Wk,ret,Option.bind_some])
  (fun n v=>by simp only [Za3,Wbi (Nat.le_refl l.length),cond_false]) ()
 refine h1.trans ?_
 rw [Wbn (p:=fun x=>!Wcx x) (E:=fun _=>some ((),(false,()))) l 0 () (fun j x v k _=>rfl),Wey]
 have e:((ilen l) == (4:Int)) = decide (l.length = 4):=by
  by_cases h:l.length = 4
  ·simp [ilen,h]
  ·simp [ilen,h]; omega
 rw [e]
 cases l.all Wcx <;> simp
end Go.Sx
