/- Plain laws of the Lean functions. -/
import Derived.Test.YtfajigbmoebkaaaGreatMW1FamM

namespace Go.Sx
set_option linter.unusedVariables false
set_option linter.unusedSimpArgs false
section
variable {codes:List (List Opn)} {n:Int} {f f':Fm} {k:Nat} {code:List Opn} {m:Mm} {x y:Kd}
theorem FOk.len3 (h:FOk codes n f) (h3:codes.length ≤ 3):f.order.length ≤ 3:=by
 have h1:=h.done
 have:=List.countP_le_length (p:=fun x:Kd=>decide (x.phase = 3)) (l:=f.kids)
 have:=h.len
 omega
theorem FOk.put1 (h:FOk codes n f) (hk:k < f.kids.length) (hcode:codes.getD k [] = code) {o:Int} {l:Bool} (ho:0 ≤ o ∧ o ≤ f.kids.length) (hy:KOk code f.clock (n + 1) y) (hp:f.kids[k].phase ≠ 3) (hyp:y.phase ≠ 3) :
  FOk codes (n + 1) (Fm.put ({ f with owner:=o,lost:=l },y) k) where
 len:=by show (f.kids.set k y).length = _; rw [List.length_set]; exact h.len
 regs:=h.regs
 clock:=h.clock
 done:=by
  show f.order.length = (f.kids.set k y).countP _
  rw [List.countP_set hk,if_neg (by simpa using hp),if_neg (by simpa using hyp)]
  exact h.done
 bufR:=h.bufR
 bufE:=h.bufE
 readsL:=h.readsL
 readsE:=h.readsE
 owner:=by show 0 ≤ o ∧ o ≤ ((f.kids.set k y).length:Int); rw [List.length_set]; exact ho
 kid:=fun i hi=>by
  change i < (f.kids.set k y).length at hi
  rw [List.length_set] at hi
  show KOk (codes.getD i []) f.clock (n + 1) (f.kids.set k y)[i]
  rw [List.getElem_set]
  by_cases he:k = i
  ·subst he; rw [if_pos rfl,hcode]; exact hy
  ·rw [if_neg he]; exact (h.kid i hi).wk (by omega) (by omega)
theorem FOk.wk (h:FOk codes n f) {n':Int} (hn:n ≤ n'):FOk codes n' f :=
 { h with kid:=fun k hk=>(h.kid k hk).wk (by omega) hn }
theorem Wvd (h:∀ e ∈ x.seen,(0 ≤ e.1 ∧ e.1 ≤ 7) ∧ (0 ≤ e.2.1 ∧ e.2.1 ≤ 65535) ∧ -1 ≤ e.2.2 ∧ e.2.2 ≤ x.since):Rows (Wcm x.seen):=by
 intro r hr
 unfold Wcm at hr
 obtain ⟨e,he,rfl⟩:=List.mem_map.1 hr
 have:=h e (List.mem_filter.1 he).1
 exact ⟨this.1,this.2.1⟩
theorem Wyo (l:List En):(Wcm l).length ≤ l.length:=by
 unfold Wcm; rw [List.length_map]; exact List.length_filter_le _ _
theorem Wol {c:Int}:∀ {rows:List Rw} {M:List En},Ris cfE M → Ris cfE (Whs c M rows)
 | [],_,h=>h
 | r :: rows,M,h=>Wol (rows:=rows) (Wfl linE h)
theorem kMerge_ok (hF:FOk codes n f) (hk:k < f.kids.length) (hkc:code.length ≤ 24) (hcode:codes.getD k [] = code) (hxe:f.kids[k] = x) (h2:x.phase = 2) :
  FOk codes (n + 1) (Fm.put (kMerge f x k) k):=by
 have hx:=hF.kid k hk
 rw [hcode,hxe] at hx
 have hc:=hF.clock
 unfold kMerge Fm.put
 refine { len:=?_,regs:=hF.regs,clock:=?_,done:=?_,bufR:=Wol hF.bufR,bufE:=?_,readsL:=?_,readsE:=?_,owner:=?_,kid:=?_ }
 ·simp only [List.length_set]; exact hF.len
 ·simp only [List.length_append,List.length_singleton]; omega
 ·simp only [List.length_append,List.length_singleton]
  rw [List.countP_set hk,hxe,if_neg (by simp [h2]),if_pos (by simp),← hF.done]; rfl
 ·simp only
  refine Wjd hF.bufR (fun e he=>?_) fun r hr=>?_
  ·have:=hF.bufE e he; exact ⟨this.1,this.2.1,this.2.2.1,by omega⟩
  ·have:=Wmv r hr; exact ⟨this.1,this.2,by simp only; omega,by simp only; omega⟩
 ·have h1:=hF.readsL
  have h2:=Wyo x.seen
  have h3:=hx.sl
  have h4:=hx.pc
  simp only [List.length_append,List.length_singleton]; omega
 ·intro r hr
  rcases List.mem_append.1 hr with hr | hr
  ·exact hF.readsE r hr
  ·exact Wvd hx.seen r hr
 ·simp only [List.length_set]; omega
 ·intro i hi
  simp only [List.length_set] at hi
  simp only [List.getElem_set]
  by_cases he:k = i
  ·subst he; rw [if_pos rfl,hcode]
   refine KOk.wk (c:=f.clock) (n:=n) ?_ (by omega) (by omega)
   exact { hx with marks:=(fun h=>by (change (3:Int) = 0 at h; omega)),pos:=⟨Int.le_refl _,by show (0:Int) ≤ _; omega⟩,phase:=by (show (0:Int) ≤ 3 ∧ (3:Int) ≤ 3; omega) }
  ·rw [if_neg he]; exact (hF.kid i hi).wk (by omega) (by omega)
theorem fStep_ok (hk:k < f.kids.length) (hm:Wbi m = true) (hkc:KC code) (hF:FOk codes n f) (hcode:codes.getD k [] = code):FOk codes (n + 1) (fStep m f k code):=by
 obtain ⟨x,hxe⟩:∃ x,f.kids[k] = x:=⟨_,rfl⟩
 have hx:=hF.kid k hk
 rw [hcode,hxe] at hx
 have e4:Fm.put (f,x) k = f:=by unfold Fm.put; simp only; rw [← hxe,List.set_getElem_self]
 have hFw:=hF.wk (show n ≤ n + 1 by omega)
 unfold fStep kStep
 split
 ·exact hFw
 rw [Wm hk,hxe]
 split
 ·rename_i h0
  obtain ⟨h1,h2⟩:=kRun_ok hkc hF hx h0 hm
  have hnp:(kRun m f x code).2.phase ≠ 3:=by
   unfold kRun Wow Wxu
   simp only
   repeat' split
   all_goals simp [h0,Fm.again]
  have:=h1
  have key:∀ q:Fm × Kd,(q.1 = f ∨ q.1 = { f with lost:=true }) → KOk code f.clock (n + 1) q.2 → q.2.phase ≠ 3 → FOk codes (n + 1) (Fm.put q k):=by
   rintro ⟨g,y⟩ hg hy hp
   simp only at hg hy hp
   rcases hg with rfl | rfl
   ·exact FOk.put1 (o:=g.owner) (l:=g.lost) hF hk hcode hF.owner hy (by rw [hxe,h0]; omega) hp
   ·exact FOk.put1 (o:=f.owner) (l:=true) hF hk hcode hF.owner hy (by rw [hxe,h0]; omega) hp
  exact key _ h2 h1 hnp
 ·split
  ·rename_i h1
   split
   ·refine FOk.put1 (o:=(k:Int) + 1) (l:=f.lost) hF hk hcode (by omega) ?_ (by rw [hxe,h1]; omega) (by show (2:Int) ≠ 3; omega)
    refine KOk.wk (c:=f.clock) (n:=n) ?_ (by omega) (by omega)
    exact { hx with marks:=(fun h=>by (change (2:Int) = 0 at h; omega)),phase:=by (show (0:Int) ≤ 2 ∧ (2:Int) ≤ 3; omega) }
   ·rw [e4]; exact hFw
  ·split
   ·rename_i h2
    split
    ·exact kMerge_ok hF hk hkc.len hcode hxe h2
    ·simp only
     split
     ·refine FOk.put1 (o:=f.owner) (l:=f.lost) hF hk hcode hF.owner ?_ (by rw [hxe,h2]; omega) (by show x.phase ≠ 3; omega)
      refine KOk.wk (c:=f.clock) (n:=n) ?_ (by omega) (by omega)
      exact { hx with pos:=by (have:=hx.pos; show 0 ≤ x.pos + 1 ∧ x.pos + 1 ≤ (x.seen.length:Int); omega) }
     ·refine FOk.put1 (o:=0) (l:=f.lost) hF hk hcode (by omega) (again_ok hx rfl hF.regs hF.clock.1) (by rw [hxe,h2]; omega) (by show (0:Int) ≠ 3; omega)
   ·rw [e4]; exact hFw
theorem famNew_ok {rv:Int} {regs:List Int} {writes:List Rw} (hr:Vals 4 regs) (hn:0 ≤ n):FOk codes n (Wib rv regs writes codes.length) where
 len:=by simp [Wib]
 regs:=hr
 clock:=by simp [Wib]
 done:=by
  simp only [Wib,List.length_nil]
  rw [List.countP_replicate,if_neg (by simp)]
 bufR:=by
  unfold Ris Wib
  simp only [List.pairwise_map]
  exact (netR_up writes).imp fun {a b} h=>by unfold cfE; simp only; omega
 bufE:=fun e he=>by
  obtain ⟨r,hr,rfl⟩:=List.mem_map.1 he
  have:=Wmv r hr
  exact ⟨this.1,this.2,by simp [Wib]⟩
 readsL:=by simp [Wib]
 readsE:=fun r hr=>by cases hr
 owner:=by simp [Wib]
 kid:=fun k hk=>by
  simp only [Wib,List.getElem_replicate]
  exact { pc:=by simp,regs:=hr,rows:=(fun r hr=>by cases hr),wl:=by simp,sl:=by simp,since:=by simp,tries:=by simp; omega,seen:=(fun e he=>by cases he),marks:=(fun _=>⟨by simp [stk],(fun q hq=>by cases hq),List.Pairwise.nil⟩),pos:=by simp,pb:=(fun h=>by cases h),phase:=by simp,out:=by simp }
end
end Go.Sx
