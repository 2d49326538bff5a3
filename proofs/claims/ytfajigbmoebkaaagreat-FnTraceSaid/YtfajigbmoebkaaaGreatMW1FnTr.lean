/- Plain laws of the Lean functions. -/
import Derived.Test.YtfajigbmoebkaaaGreatMW1Trc

namespace Go.Sx
set_option linter.unusedVariables false
set_option linter.unusedSimpArgs false
variable {N:Nat} {s:Sc} {w v:Wo} {a:Ac} {n:Int} {k:Nat}
def phs (w:Wo):List Int:=w.roots.map (·.phase)
theorem act_other (h:WOk s.2.1 n w) {i:Nat} (hi:i < w.roots.length) (hne:(i:Int) ≠ a.2.1):(wAct s w a).roots.getD i rt0 = w.roots[i]:=by
 have hput:∀ (q:Wo × Rt) (k:Nat),q.1.roots = w.roots → k ≠ i → (Wo.put q k).roots.getD i rt0 = w.roots[i]:=fun q k hr hk=>by
  show (q.1.roots.set k q.2).getD i rt0 = _
  rw [hr,Wm (show i < (w.roots.set k q.2).length by rw [List.length_set]; exact hi),List.getElem_set,if_neg hk]
 have hs:w.roots.getD i rt0 = w.roots[i]:=Wm hi _
 unfold wAct
 simp only
 split
 ·rename_i hb
  have hk:a.2.1.toNat < w.roots.length:=by omega
  have hki:a.2.1.toNat ≠ i:=by omega
  split
  ·unfold wStep
   refine hput _ _ ?_ hki
   rw [Wm (show a.2.1.toNat < ({ w with now:=w.now + 1 }:Wo).roots.length from hk)]
   exact rRoots h hk
  ·split
   ·split
    ·exact hput _ _ rfl hki
    ·exact hs
   ·split
    ·split
     ·exact hput _ _ rfl hki
     ·exact hs
    ·exact hs
 ·exact hs
theorem Wkz (w:Wo):(phs w).length = w.roots.length:=by unfold phs; simp
theorem Wxs {i:Nat} (h:i < (phs w).length) (h':i < w.roots.length):(phs w)[i] = w.roots[i].phase:=List.getElem_map ..
theorem phs_get (h:k < w.roots.length):(phs w).getD k 0 = w.roots[k].phase:=by
 unfold phs
 rw [Wm (show k < (w.roots.map (·.phase)).length by simpa using h),List.getElem_map]
theorem act_phs (h:WOk s.2.1 n w):phs (wAct s w a) = if 0 ≤ a.2.1 ∧ a.2.1 < w.roots.length then (phs w).set a.2.1.toNat (phOf (wAct s w a) a.2.1) else phs w:=by
 have hv:=Wni (a:=a) h
 have hlen:(wAct s w a).roots.length = w.roots.length:=by rw [hv.len,h.len]
 have key:∀ i (hi:i < w.roots.length),(i:Int) ≠ a.2.1 → (wAct s w a).roots[i]'(by rw [hlen]; exact hi) = w.roots[i]:=fun i hi hne=>by
  have:=act_other (a:=a) h hi hne
  rw [Wm (show i < (wAct s w a).roots.length by rw [hlen]; exact hi)] at this
  exact this
 split
 ·rename_i hb
  refine List.ext_getElem (by rw [List.length_set,Wkz,Wkz,hlen]) fun i h1 h2=>?_
  have hi:i < w.roots.length:=by rw [Wkz] at h1; omega
  rw [List.getElem_set,Wxs h1 (by omega)]
  by_cases he:a.2.1.toNat = i
  ·rw [if_pos he]
   unfold phOf
   rw [he,Wm (show i < (wAct s w a).roots.length by rw [hlen]; exact hi)]
  ·rw [if_neg he,Wxs (by rw [Wkz]; exact hi) hi,key i hi (by omega)]
 ·rename_i hb
  refine List.ext_getElem (by rw [Wkz,Wkz,hlen]) fun i h1 h2=>?_
  have hi:i < w.roots.length:=by rw [Wkz] at h1; omega
  rw [Wxs h1 (by omega),Wxs h2 hi,key i hi (by omega)]
theorem done_phase (h:WOk s.2.1 n w) (hb:0 ≤ a.2.1 ∧ a.2.1 < w.roots.length) (h8:phOf w a.2.1 = 8):phOf (wAct s w a) a.2.1 = 8:=by
 have hk:a.2.1.toNat < w.roots.length:=by omega
 unfold phOf at h8 ⊢
 rw [Wm hk] at h8
 unfold wAct
 simp only
 rw [if_pos hb,Wm hk]
 have hself:Wo.put ({ w with now:=w.now + 1 },w.roots[a.2.1.toNat]) a.2.1.toNat = { w with now:=w.now + 1 }:=by unfold Wo.put; simp only [List.set_getElem_self]
 have hsame:(({ w with now:=w.now + 1 }:Wo).roots.getD a.2.1.toNat rt0).phase = 8:=by
  show (w.roots.getD a.2.1.toNat rt0).phase = 8
  rw [Wm hk]; exact h8
 by_cases h1:a.1 = 1
 ·rw [if_pos h1]
  unfold wStep
  rw [Wm (show a.2.1.toNat < ({ w with now:=w.now + 1 }:Wo).roots.length from hk)]
  have:Wur { w with now:=w.now + 1 } w.roots[a.2.1.toNat] a.2.1.toNat (s.2.1.getD a.2.1.toNat pg0) = ({ w with now:=w.now + 1 },w.roots[a.2.1.toNat]):=by
   unfold Wur
   rw [if_neg (by omega),if_neg (by omega),if_neg (by omega),if_neg (by omega),if_neg (by omega),if_neg (by omega),if_neg (by omega),if_neg (by omega),if_neg (by omega)]
  simp only [this,hself]
  exact hsame
 ·rw [if_neg h1]
  by_cases h2:a.1 = 2
  ·rw [if_pos h2,if_neg (by omega)]; exact hsame
  ·rw [if_neg h2]
   by_cases h3:a.1 = 3
   ·rw [if_pos h3,if_neg (by omega)]; exact hsame
   ·rw [if_neg h3]; exact hsame
theorem Wus {R:Type} (hN:1048576 < N) {K:Int → List Int → Option R} {body:Int → Tn → Int × List Int → (Int × List Int → Option R) → Option R} (hacts:s.2.2.length ≤ 1000)
  (hbody:∀ (j:Nat) (e:Tn) (v:Int × List Int) k,0 ≤ e.2.1 → e.2.1 < v.2.length → e.1 > v.1 → e.1 < s.2.2.length → e.2.2.1 = v.2.getD e.2.1.toNat 0 → e.2.2.2 ≠ e.2.2.1 → e.2.2.1 ≠ 8 → (0 ≤ e.1 ∧ e.2.1 ≤ 10) → (0 ≤ e.2.2.1 ∧ e.2.2.1 ≤ 8) → (0 ≤ e.2.2.2 ∧ e.2.2.2 ≤ 8) → body j e v k = k (e.1,v.2.set e.2.1.toNat e.2.2.2)) :
  ∀ (l:List Ac) (i j:Nat) (m last:Int) (w:Wo),i + l.length = s.2.2.length → WOk s.2.1 m w → last < i →
  ∃ last',Wdv body (fun _ v=>K v.1 v.2) (Wmh s l i w) j (last,phs w) = K last' (phs (l.foldl (wAct s) w))
 | [],i,j,m,last,w,hi,h,hl=>⟨last,by simp [Wmh,Wdv]⟩
 | a :: l,i,j,m,last,w,hi,h,hl=>by
  rw [List.length_cons] at hi
  have hv:=Wni (a:=a) h
  have hl4:w.roots.length ≤ 4:=by rw [h.len]; exact h.l4
  have hap:=act_phs (a:=a) h
  rw [Wmh,List.foldl_cons]
  by_cases hb:0 ≤ a.2.1 ∧ a.2.1 < w.roots.length
  ·rw [if_pos hb] at hap
   have hk:a.2.1.toNat < w.roots.length:=by omega
   have hg:(phs w).getD a.2.1.toNat 0 = phOf w a.2.1:=by rw [phs_get hk]; unfold phOf; rw [Wm hk]
   by_cases hne:phOf (wAct s w a) a.2.1 = phOf w a.2.1
   ·have ht:Wfy s i w a = []:=by unfold Wfy; rw [if_neg (fun hc=>hc.2 hne)]
    have hp:phs (wAct s w a) = phs w:=by
     rw [hap,hne,← hg,Wm (show a.2.1.toNat < (phs w).length by unfold phs; simpa using hk),List.set_getElem_self]
    rw [ht,List.nil_append,← hp]
    exact Wus hN hacts hbody l (i + 1) j (m + 1) last _ (by omega) hv (by omega)
   ·have ht:Wfy s i w a = [((i:Int),a.2.1,phOf w a.2.1,phOf (wAct s w a) a.2.1)]:=by unfold Wfy; rw [if_pos ⟨hb,hne⟩]
    have h8:phOf w a.2.1 ≠ 8:=fun h8=>hne (by rw [done_phase h hb h8,h8])
    have hr1:0 ≤ phOf w a.2.1 ∧ phOf w a.2.1 ≤ 8:=by unfold phOf; rw [Wm hk]; exact (h.root _ hk).phase
    have hkv:a.2.1.toNat < (wAct s w a).roots.length:=by rw [hv.len,← h.len]; exact hk
    have hr2:0 ≤ phOf (wAct s w a) a.2.1 ∧ phOf (wAct s w a) a.2.1 ≤ 8:=by unfold phOf; rw [Wm hkv]; exact (hv.root _ hkv).phase
    rw [ht,List.singleton_append,Wdv]
    rw [hbody j _ _ _ hb.1 (by show a.2.1 < ((phs w).length:Int); unfold phs; simp; omega) (by simp only; omega) (by simp only; omega) hg.symm hne h8 (by simp only; omega) hr1 hr2]
    simp only
    rw [← hap]
    exact Wus hN hacts hbody l (i + 1) (j + 1) (m + 1) i _ (by omega) hv (by omega)
  ·rw [if_neg hb] at hap
   have ht:Wfy s i w a = []:=by unfold Wfy; rw [if_neg (fun hc=>hb hc.1)]
   rw [ht,List.nil_append,← hap]
   exact Wus hN hacts hbody l (i + 1) j (m + 1) last _ (by omega) hv (by omega)
theorem Wye:∀ (l:List Ac) (i:Nat) (w:Wo),(Wmh s l i w).length ≤ l.length
 | [],_,_=>by simp [Wmh]
 | a :: l,i,w=>by
  have:=Wye l (i + 1) (wAct s w a)
  have:=Wti (s:=s) (w:=w) (a:=a) i
  rw [Wmh,List.length_append,List.length_cons]; omega
theorem Wwl (hN:1048576 < N) {code:List Int} (h:code.length ≤ 1048576):∃ s:Sc,Zil N code = ret s ∧ SB s:=by
 unfold Zil
 obtain ⟨c,hc,e0⟩:=new_draw h hN
 obtain ⟨c1,s,e3,hc1,hs⟩:=dAny17 (most:=150) hN (by omega) hc
 simp only [e0,ret,Option.bind_some,e3]
 exact ⟨_,rfl,hs⟩
theorem fnTrace_run {code:List Int} (hw:∀ x ∈ code,0 ≤ x ∧ x ≤ 255) (hN:1048576 < N):Zc7 N code = ret true:=by
 unfold Zc7 Ztc
 simp only [Option.bind_some]
 by_cases hb:code.length ≤ 1048576
 ·have e0:decide (ilen code > 1048576) = false:=by simp [ilen]; omega
  obtain ⟨s,es,hs⟩:=Wwl hN hb
  rw [e0,es]
  simp only [cond_false,ret,Option.bind_some]
  rw [Wrz hs hN,traceOf_run hs hN,play_run hs hN]
  simp only [ret,Option.bind_some]
  cases hok:scOk s with
  | false=>rfl
  | true =>
   obtain ⟨h1,h2,h3,h4⟩:=Wvm hok
   have hW:=wPlay_ok hok
   have h0:=Wrb hok
   have hmk:=make_ok s.2.1 (by omega)
   simp only [Bool.not_true,cond_false,if_true]
   have eW:ilen (Wfn s).e.2.2.2.2.2.1 = ilen s.2.1:=by show ilen ((Wfn s).roots.map Rt.e) = _; unfold ilen; rw [List.length_map,hW.len]
   rw [eW,hmk,Wnh]
   simp only [bne_self_eq_false,cond_false,cond_true]
   have htl:=Wye (s:=s) s.2.2 0 (wNew s)
   have hph0:List.replicate s.2.1.length (0:Int) = phs (wNew s):=by unfold phs wNew; simp
   rw [hph0]
   have hlp1:∀ l:List Int,l = phs (Wfn s) → Za4 N (Wfn s).e l (some ((),(false,()))) (fun i28 t29=>(some ((),(true,())))) N 0 = (ret true:Option (Unit × (Bool × Unit))):=fun l hl=>by
    have hll:l.length = (Wfn s).roots.length:=by rw [hl]; unfold phs; simp
    have hl4:(Wfn s).roots.length ≤ 4:=by rw [hW.len]; exact h2
    have h1:=Wad (l:=l) (V:=Unit) (R:=Unit × (Bool × Unit)) (lp:=fun n j _=>Za4 N (Wfn s).e l (some ((),(false,()))) (fun i28 t29=>(some ((),(true,())))) n j) (n:=N) (by omega)
     (body:=fun j x v k=>k v) (K:=fun _ v=>some ((),(true,())))
     (fun n i v hi=>by
      have hi':i < (Wfn s).roots.length:=by omega
      have eR:(Wfn s).e.2.2.2.2.2.1 = (Wfn s).roots.map Rt.e:=rfl
      have hir:i < ((Wfn s).roots.map Rt.e).length:=by simpa using hi'
      have he:(l[i] != (Rt.e (Wfn s).roots[i]).1) = false:=by
       have:l[i] = (Wfn s).roots[i].phase:=by subst hl; exact Wxs hi hi'
       rw [this]; show ((Wfn s).roots[i].phase != (Wfn s).roots[i].phase) = false; simp
      simp only [Za4,eR,Wba hi,Wp hi,Wu hi,Wp hir,Wu hir,List.getElem_map,Wi (show i < 4611686018427387904 by omega),cond_true,he,cond_false])
     (fun n v=>by simp only [Za4,Wbj (Nat.le_refl l.length),cond_false]) ()
    refine h1.trans ?_
    rw [Wna (f:=fun v _=>v) l 0 () (fun j x v k _=>rfl)]
   have h5:=Wad (l:=Wmh s s.2.2 0 (wNew s)) (V:=Int × List Int) (R:=Unit × (Bool × Unit)) (lp:=fun n j v=>Zcx N s (Wmh s s.2.2 0 (wNew s)) (Wfn s).e (some ((),(false,())))
 (fun last19 i20 t21 l22 =>
  (Za4 N (Wfn s).e l22
 (some ((),(false,())))
 (fun i28 t29 =>
  (some ((),(true,()))))
 N (0:Int))) n v.1 j v.2) (n:=N) (by omega)
    (body:=fun j e v k=>bif decide (e.2.1 < (0:Int)) then some ((),(false,())) else bif decide (e.2.1 ≥ ilen v.2) then some ((),(false,())) else bif decide (e.1 ≤ v.1) then some ((),(false,())) else bif decide (e.1 ≥ ilen s.2.2) then some ((),(false,())) else
     bif inb e.2.1 v.2.length then bif e.2.2.1 != List.getD v.2 (Int.toNat e.2.1) (0:Int) then some ((),(false,())) else bif e.2.2.2 == e.2.2.1 then some ((),(false,())) else bif e.2.2.1 == (8:Int) then some ((),(false,())) else
     (Zg3 N e).bind fun bq1=>bif seq bq1.2.1 ([]:List UInt8) then some ((),(false,())) else bif inb e.2.1 v.2.length then k (e.1,List.set v.2 (Int.toNat e.2.1) e.2.2.2) else none else none) (K:=fun _ v=>(Za4 N (Wfn s).e v.2
 (some ((),(false,())))
 (fun i28 t29 =>
  (some ((),(true,()))))
 N (0:Int)))
    (fun n i v hi=>by simp only [Zcx,Wq,Wba hi,Wp hi,Wu hi,Wi (show i < 4611686018427387904 by omega),cond_true])
    (fun n v=>by simp only [Zcx,Wbj (Nat.le_refl _),cond_false]) (-1,phs (wNew s))
   refine h5.trans ?_
   obtain ⟨last',h6⟩:=Wus (s:=s) (N:=N) (K:=fun _ l=>(Za4 N (Wfn s).e l (some ((),(false,()))) (fun i28 t29=>(some ((),(true,())))) N (0:Int):Option (Unit × (Bool × Unit)))) hN (by omega) (body:=fun j e v k=>bif decide (e.2.1 < (0:Int)) then some ((),(false,())) else bif decide (e.2.1 ≥ ilen v.2) then some ((),(false,())) else bif decide (e.1 ≤ v.1) then some ((),(false,())) else bif decide (e.1 ≥ ilen s.2.2) then some ((),(false,())) else
     bif inb e.2.1 v.2.length then bif e.2.2.1 != List.getD v.2 (Int.toNat e.2.1) (0:Int) then some ((),(false,())) else bif e.2.2.2 == e.2.2.1 then some ((),(false,())) else bif e.2.2.1 == (8:Int) then some ((),(false,())) else
     (Zg3 N e).bind fun bq1=>bif seq bq1.2.1 ([]:List UInt8) then some ((),(false,())) else bif inb e.2.1 v.2.length then k (e.1,List.set v.2 (Int.toNat e.2.1) e.2.2.2) else none else none)
    (fun j e v k a1 a2 a3 a4 a5 a6 a7 a8 a9 a10=>by
     obtain ⟨t,ht1,ht2⟩:=turn_run (N:=N) (e:=e) (by unfold I64; omega) (by unfold I64; omega) a9 a10 hN
     have hin:inb e.2.1 v.2.length = true:=by unfold inb; simp; omega
     have b1:decide (e.2.1 < (0:Int)) = false:=decide_eq_false (by omega)
     have b2:decide (e.2.1 ≥ ilen v.2) = false:=decide_eq_false (by unfold ilen; omega)
     have b3:decide (e.1 ≤ v.1) = false:=decide_eq_false (by omega)
     have b4:decide (e.1 ≥ ilen s.2.2) = false:=decide_eq_false (by unfold ilen; omega)
     have b5:(e.2.2.1 != List.getD v.2 (Int.toNat e.2.1) (0:Int)) = false:=by rw [← a5]; simp
     have b6:(e.2.2.2 == e.2.2.1) = false:=by simpa using a6
     have b7:(e.2.2.1 == (8:Int)) = false:=by simpa using a7
     simp only [b1,b2,b3,b4,b5,b6,b7,hin,cond_false,cond_true,ht1,ret,Option.bind_some,ht2])
    s.2.2 0 0 0 (-1) (wNew s) (by omega) h0 (by omega)
   refine h6.trans ?_
   exact hlp1 _ rfl
 ·have e0:decide (ilen code > 1048576) = true:=by simp [ilen]; omega
  rw [e0]; rfl
theorem law_FnTrace (d:PDen [.v (.slice (.int .u8)) false]) (hw:WfArgs [.v (.slice (.int .u8)) false] d):∃ N o,Zc7 N d.1 = some (o,(true,())) :=
 ⟨1048577,(),fnTrace_run (N:=1048577) (fun x hx=>bounds_u8 (hw.1.2 x hx)) (by omega)⟩
end Go.Sx
