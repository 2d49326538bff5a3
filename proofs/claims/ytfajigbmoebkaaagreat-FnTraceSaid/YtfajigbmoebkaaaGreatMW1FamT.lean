/- Plain laws of the Lean functions. -/
import Derived.Test.YtfajigbmoebkaaaGreatMW1FamS

namespace Go.Sx
set_option linter.unusedVariables false
set_option linter.unusedSimpArgs false
theorem Wtw {α β R:Type} {body:Int → α → List β → (List β → Option R) → Option R} {K:Int → List β → Option R} {f:α → β}:∀ (l:List α) (d r:List β),l.length ≤ r.length →
  (∀ (j:Nat) x (v:List β) k,x ∈ l → j < v.length → body j x v k = k (v.set j (f x))) → Wdv body K l d.length (d ++ r) = K ((d.length + l.length:Nat):Int) (d ++ (l.map f ++ r.drop l.length))
 | [],d,r,_,_=>by simp [Wdv]
 | x :: l,d,[],h,_=>by simp at h
 | x :: l,d,y :: r,h,hb=>by
  rw [Wdv,hb d.length x _ _ (List.mem_cons_self ..) (by simp),Wgg]
  have:=Wtw (body:=body) (K:=K) (f:=f) l (d ++ [f x]) r (by simpa using h) fun j z v k hz=>hb j z v k (List.mem_cons_of_mem _ hz)
  simp only [List.length_append,List.length_singleton,List.append_assoc,List.singleton_append] at this
  rw [this]
  simp only [List.length_cons,List.map_cons,List.drop_succ_cons,List.cons_append]
  rw [show d.length + 1 + l.length = d.length + (l.length + 1) by omega]
theorem Wwg {α:Type} {R:Type} {l:List α} {p:α → Bool} {lp:Nat → Int → Option R} {N:Nat} {K0:Int → Option R} {K1:Option R} (hl:l.length < N) (hl2:l.length ≤ 1048576) (hs:∀ n (j:Nat) (h:j < l.length),lp (n + 1) (j:Int) = bif p l[j] then K0 j else lp n ((j + 1:Nat):Int)) (he:∀ n,lp (n + 1) (l.length:Int) = K1):lp N 0 = match fnd p l 0 with | some r=>K0 r.1 | none=>K1:=by
 have h1:=Wad (l:=l) (V:=Unit) (lp:=fun n j _=>lp n j) hl (body:=fun j x v k=>bif p x then K0 j else k v) (K:=fun _ _=>K1) (fun n j v h=>hs n j h) (fun n v=>he n) ()
 refine h1.trans ?_
 rw [Wmm (p:=p) (E:=fun j _=>K0 j) l 0 () (fun j x v k _=>rfl)]
 cases fnd p l 0 <;> rfl
theorem Wwh {α:Type} {p:α → Bool}:∀ (l:List α) (j:Nat),(fnd p l j).isSome = l.any p
 | [],_=>rfl
 | x :: l,j=>by
  unfold fnd
  rw [List.any_cons]
  cases p x
  ·simp [Wwh l]
  ·rfl
variable {N:Nat}
theorem Wxi {f:Fm} (h3:f.kids.length ≤ 3) (hN:1048576 < N):Zl3 N f.e = ret (Wkp f):=by
 unfold Zl3 Zal Zn
 have e:f.e.2.2.2.2.2.2.2.2.2 = f.kids.map Kd.e:=rfl
 rw [e]
 have hl:(f.kids.map Kd.e).length ≤ 3:=by simpa using h3
 have h1:=Wwg (l:=f.kids.map Kd.e) (p:=fun x=>x.1 != 3) (N:=N) (lp:=fun n j=>Zi N (f.kids.map Kd.e) (fun t11=>(some ((),(t11,())))) (fun t12 t13=>(some ((),((-1:Int),())))) n j) (K0:=fun j=>some ((),(j,()))) (K1:=some ((),((-1:Int),()))) (by omega) (by omega)
  (fun n j hj=>by
   simp only [Zi,Wba hj,Wp hj,Wu hj,Wi (show j < 4611686018427387904 by omega),cond_true,Zm6,Option.bind_some])
  (fun n=>by simp only [Zi,Wbj (Nat.le_refl _),cond_false])
 rw [h1]
 have h2:=Wwh (p:=fun x:Y_KidRun=>x.1 != 3) (f.kids.map Kd.e) 0
 have h3:(f.kids.map Kd.e).any (fun x=>x.1 != 3) = !Wkp f:=by
  unfold Wkp
  rw [List.any_map,← Weu]
  have:((fun x:Y_KidRun=>x.1 != 3) ∘ Kd.e) = fun x:Kd=>!decide (x.phase = 3):=by
   funext x
   show (x.phase != 3) = !decide (x.phase = 3)
   by_cases h:x.phase = 3 <;> simp [h]
  rw [this]
 rw [h3] at h2
 cases hf:fnd (fun x:Y_KidRun=>x.1 != 3) (f.kids.map Kd.e) 0 with
 | some r =>
  rw [hf] at h2
  simp only [Option.bind_some,decide_eq_true (show ((r.1:Int) ≥ 0) by omega),Bool.not_true,ret]
  rw [show Wkp f = false by simpa using h2.symm]
 | none =>
  rw [hf] at h2
  rw [show Wkp f = true by simpa using h2.symm]
  rfl
theorem Wyc {f:Fm} (h:f.buf.length ≤ 1000) (hN:1048576 < N):Zew N f.e = ret (Wnv f):=by
 unfold Zew
 have e:f.e.2.2.2.2.2.2.1 = f.buf:=rfl
 rw [e]
 have h1:=Wad (l:=f.buf) (V:=List Rw) (R:=Unit × (List Rw × Unit)) (lp:=fun n j v=>Zcv N f.buf (ilen f.buf) (fun t9 t10 l11=>(some ((),(l11,())))) n j v) (n:=N) (by omega)
  (body:=fun j x v k=>bif room (v.length + [(x.1,x.2.1)].length) then k (List.append v [(x.1,x.2.1)]) else none) (K:=fun _ v=>ret v)
  (fun n i v hi=>by simp only [Zcv,Wba hi,Wp hi,Wu hi,Wi (show i < 4611686018427387904 by omega),cond_true])
  (fun n v=>by simp only [Zcv,Wbj (Nat.le_refl f.buf.length),cond_false]) []
 refine h1.trans ?_
 rw [Wgz (f:=fun x:En=>(x.1,x.2.1)) f.buf 0 [] (by simp; omega) (fun j x v k _=>rfl)]
 rfl
theorem Www {f:Fm} (hr:Vals 4 f.regs) (h3:f.kids.length ≤ 3) (hx:∀ x ∈ f.kids,x.regs.length ≤ 1000) (hN:1048576 < N):Zev N f.e = ret (Wqx f):=by
 unfold Zev Wqx
 have e:f.e.2.2.2.2.1 = f.regs:=rfl
 have e2:f.e.2.2.2.2.2.2.2.2.2 = f.kids.map Kd.e:=rfl
 have hrk:Wkd f.regs = true:=Wjr.2 hr
 have hl:=hr.len
 have hm:(f.kids.map Kd.e).length = f.kids.length:=by simp
 rw [e,e2,Wga (by omega) hN,if_pos ⟨hrk,h3⟩]
 simp only [ret,Option.bind_some,hrk,Bool.not_true,cond_false]
 rw [decide_eq_false (by unfold ilen; omega),Wcv (by omega)]
 simp only [ret,Option.bind_some,cond_false]
 have h1:=Wad (l:=f.kids.map Kd.e) (V:=List Int) (R:=Unit × (List Int × Unit)) (lp:=fun n j v=>Zbl N (f.kids.map Kd.e) (ilen (f.kids.map Kd.e)) (fun t15 t16 l17=>(some ((),(l17,())))) n j v) (n:=N) (by omega)
  (body:=fun j x v k=>bif inb j v.length then (bif x.2.2.2.2.2.1 == (1:Int) then ((Zac N (P6 x) (4:Int)).bind fun o13=>(bif o13.2.1 then (bif inb 0 (P6 x).length then (bif inb j (List.set v j.toNat 0).length then k (List.set (List.set v j.toNat 0) j.toNat (List.getD (P6 x) (Int.toNat (0:Int)) 0)) else none) else none) else k (List.set v j.toNat 0))) else k (List.set v j.toNat 0)) else none) (K:=fun _ v=>ret v)
  (fun n i v hi=>by simp only [Zbl,Wq,Wba hi,Wp hi,Wu hi,Wi (show i < 4611686018427387904 by omega),cond_true]; rfl)
  (fun n v=>by simp only [Zbl,Wbj (Nat.le_refl _),cond_false]) f.regs
 refine h1.trans ?_
 have h2:=Wtw (β:=Int) (K:=fun _ v=>ret v) (f:=fun x:Y_KidRun=>if P5 x = 1 ∧ Wkd (P6 x) = true then getI (P6 x) 0 0 else 0) (f.kids.map Kd.e) [] f.regs (by omega) (body:=fun j x v k=>bif inb j v.length then (bif x.2.2.2.2.2.1 == (1:Int) then ((Zac N (P6 x) (4:Int)).bind fun o13=>(bif o13.2.1 then (bif inb 0 (P6 x).length then (bif inb j (List.set v j.toNat 0).length then k (List.set (List.set v j.toNat 0) j.toNat (List.getD (P6 x) (Int.toNat (0:Int)) 0)) else none) else none) else k (List.set v j.toNat 0))) else k (List.set v j.toNat 0)) else none)
  (fun j x v k hxm hj=>by
   obtain ⟨y,hy,rfl⟩:=List.mem_map.1 hxm
   have hyl:=hx y hy
   have p5:(Kd.e y).2.2.2.2.2.1 = y.out:=rfl
   have p5':P5 (Kd.e y) = y.out:=rfl
   have p6:P6 (Kd.e y) = y.regs:=rfl
   simp only [p5,p5',p6,War,decide_eq_true hj,cond_true,Wga (show y.regs.length ≤ 1048576 by omega) hN,ret,Option.bind_some,Ww,Int.toNat_natCast,List.length_set]
   by_cases h1:y.out = 1
   ·rw [if_pos h1]
    cases hrk:Wkd y.regs
    ·rw [if_neg (by simp)]; rfl
    ·have:y.regs.length = 4:=(Wjr.1 hrk).len
     rw [if_pos ⟨h1,rfl⟩,show inb (0:Int) y.regs.length = true by rw [this]; rfl]
     simp only [cond_true,List.set_set]
     rfl
   ·rw [if_neg h1,if_neg (fun h=>h1 h.1)])
 simp only [List.length_nil,List.nil_append,List.length_map,List.map_map] at h2
 exact h2
theorem Wrw {rv:Int} {regs:List Int} {writes:List Rw} {kids:Nat} (hr:regs.length ≤ 1000) (hw:writes.length ≤ 1000) (hk:kids ≤ 3) (hN:1048576 < N) :
  Zdh N rv regs writes (kids:Int) = ret (Wib rv regs writes kids).e:=by
 unfold Zdh
 rw [Wcv (by omega),Whf (by omega) hN]
 have hn:=Wlz writes
 simp only [ret,Option.bind_some]
 have h1:=Wad (l:=netR writes) (V:=List En) (R:=Unit × (Y_Family × Unit)) (lp:=fun n j v=>Zcj N regs kids (ilen (netR writes)) rv (netR writes) regs (fun t25 t26 l27 =>
  (Zbe N regs kids rv regs (netR writes) l27
 (fun t49 t50 l51 =>
  (some ((),((rv,((0:Int),((0:Int),(false,(regs,(netR writes,(l27,(([]:List Int),(([]:List (Int × Int)),l51))))))))),()))))
 N (0:Int) ([]:List Y_KidRun))) n j v) (n:=N) (by omega)
  (body:=fun j x v k=>bif room (v.length + [(x.1,(x.2,(0:Int)))].length) then k (List.append v [(x.1,(x.2,(0:Int)))]) else none) (K:=fun _ l27=>(Zbe N regs kids rv regs (netR writes) l27
 (fun t49 t50 l51 =>
  (some ((),((rv,((0:Int),((0:Int),(false,(regs,(netR writes,(l27,(([]:List Int),(([]:List (Int × Int)),l51))))))))),()))))
 N (0:Int) ([]:List Y_KidRun)))
  (fun n i v hi=>by simp only [Zcj,Wba hi,Wp hi,Wu hi,Wi (show i < 4611686018427387904 by omega),cond_true])
  (fun n v=>by simp only [Zcj,Wbj (Nat.le_refl _),cond_false]) []
 refine h1.trans ?_
 rw [Wgz (f:=fun x:Rw=>(x.1,(x.2,(0:Int)))) (netR writes) 0 [] (by simp; omega) (fun j x v k _=>rfl)]
 simp only [List.nil_append]
 obtain ⟨b,hb⟩:∃ b,(netR writes).map (fun x:Rw=>(x.1,(x.2,(0:Int)))) = b:=⟨_,rfl⟩
 rw [hb]
 have lp:∀ (d j n:Nat) (v:List Y_KidRun),j + d = kids → d < n → v = List.replicate j (Kd.e { regs:=regs }) → Zbe N regs kids rv regs (netR writes) b (fun t49 t50 l51=>(some ((),((rv,((0:Int),((0:Int),(false,(regs,(netR writes,(b,(([]:List Int),(([]:List (Int × Int)),l51))))))))),())))) n (j:Int) v = some ((),((rv,((0:Int),((0:Int),(false,(regs,(netR writes,(b,(([]:List Int),(([]:List (Int × Int)),List.replicate kids (Kd.e { regs:=regs })))))))))),())):=by
  intro d
  induction d with
  | zero =>
   intro j n v hj hn hv
   obtain ⟨n,rfl⟩:∃ n',n = n' + 1:=⟨n - 1,by omega⟩
   have:j = kids:=by omega
   subst this
   simp only [Zbe,Int.lt_irrefl,decide_false,cond_false,hv]
  | succ d ih =>
   intro j n v hj hn hv
   obtain ⟨n,rfl⟩:∃ n',n = n' + 1:=⟨n - 1,by omega⟩
   have hlt:(j:Int) < (kids:Int):=by omega
   have hvl:v.length = j:=by rw [hv]; simp
   simp only [Zbe,decide_eq_true hlt,cond_true,Wcv (show regs.length ≤ 1048576 by omega),ret,Option.bind_some]
   rw [Ws (by simp; omega)]
   simp only [cond_true]
   rw [Wi (by omega)]
   refine ih (j + 1) n _ (by omega) (by omega) ?_
   rw [hv,List.replicate_succ']
   rfl
 have:=lp kids 0 N [] (by omega) (by omega) rfl
 refine this.trans ?_
 unfold Wib Fm.e
 simp only [List.map_replicate,hb]
end Go.Sx
