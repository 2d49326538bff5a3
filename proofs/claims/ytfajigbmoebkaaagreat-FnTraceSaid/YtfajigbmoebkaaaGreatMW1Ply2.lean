/- Plain laws of the Lean functions. -/
import Derived.Test.YtfajigbmoebkaaaGreatMW1Ply

namespace Go.Sx
set_option linter.unusedVariables false
set_option linter.unusedSimpArgs false
variable {N:Nat} {s:Sc} {p:Pg} {w:Wo} {n:Int} {a:Ac} {k:Nat}
theorem pg_get {ps:List Pg} (h:∀ p ∈ ps,POk p) (hk:k < ps.length):POk (ps.getD k pg0):=by
 rw [Wm hk]; exact h _ (List.getElem_mem hk)
theorem WOk.tick (h:WOk s.2.1 n w):WOk s.2.1 (n + 1) { w with now:=w.now + 1 } :=
 { h with now:=by (have:=h.now; show w.now + 1 = n + 1; omega),n0:=by have:=h.n0; omega,hist:=by (have:=h.hist; show (w.hist.length:Int) ≤ n + 1; omega),root:=fun k hk=>(h.root k hk).wk (by omega) }
theorem WOk.putQ {q:Wo × Rt} {w0:Wo} (h:WOk s.2.1 (n + 1) { w0 with now:=w0.now + 1 }) (hh:(w0.hist.length:Int) ≤ n) (hk:k < w0.roots.length) (hq:QOk (s.2.1.getD k pg0) (n + 1) { w0 with now:=w0.now + 1 } q):WOk s.2.1 (n + 1) (Wo.put q k):=by
 have hr:q.1.roots = w0.roots:=hq.roots
 exact {
  len:=by show (q.1.roots.set k q.2).length = _; rw [List.length_set,hr]; exact h.len
  l4:=h.l4
  progs:=h.progs
  now:=hq.now.trans h.now
  n0:=h.n0
  mem:=hq.mem
  shelf:=hq.shelf
  holds:=hq.holds
  histE:=fun e he=>(hq.histE e he).elim (h.histE e) id
  hist:=by have:=hq.hist; show (q.1.hist.length:Int) ≤ n + 1; (change q.1.hist.length ≤ w0.hist.length + 1 at this); omega
  root:=fun i hi=>by
   change i < (q.1.roots.set k q.2).length at hi
   rw [List.length_set,hr] at hi
   show ROk _ _ ((q.1.roots.set k q.2)[i])
   rw [List.getElem_set]
   by_cases he:k = i
   ·subst he; rw [if_pos rfl]; exact hq.root
   ·rw [if_neg he]
    have:=h.root i hi
    simp only [hr]
    exact this }
theorem Wni (h:WOk s.2.1 n w):WOk s.2.1 (n + 1) (wAct s w a):=by
 have ht:=h.tick
 unfold wAct
 simp only
 split
 ·rename_i hb
  have hk:a.2.1.toNat < w.roots.length:=by omega
  have hx:=ht.root a.2.1.toNat hk
  have hx0:=h.root a.2.1.toNat hk
  have hg:GOk { w with now:=w.now + 1 }:=⟨h.mem,h.shelf,h.holds⟩
  have hp:=pg_get h.progs (show a.2.1.toNat < s.2.1.length by rw [← h.len]; exact hk)
  have hl4:w.roots.length ≤ 4:=by rw [h.len]; exact h.l4
  rw [Wm hk]
  split
  ·unfold wStep
   rw [Wm (show a.2.1.toNat < ({ w with now:=w.now + 1 }:Wo).roots.length from hk)]
   exact ht.putQ h.hist hk (rStep_ok hp hg hx0 (by omega) h.n0)
  ·split
   ·split
    ·rename_i hf
     refine ht.putQ h.hist hk (hg.st ?_)
     have hl:=hx0.live (by omega)
     obtain ⟨f1,f2,f3⟩:=hl.fork hf.1
     have hj:a.2.2.toNat < (s.2.1.getD a.2.1.toNat pg0).2.length:=by omega
     have hjk:a.2.2.toNat < w.roots[a.2.1.toNat].fam.kids.length:=by rw [f3.len]; exact hj
     have hkc:KC ((s.2.1.getD a.2.1.toNat pg0).2.getD a.2.2.toNat []):=by rw [Wm hj]; exact hp.kids _ (List.getElem_mem hj)
     exact { hx with live:=fun _=>{ hl.wk (show n ≤ n + 1 by omega) with fork:=fun _=>⟨f1,f2,fStep_ok hjk h.mem hkc f3 rfl⟩ } }
    ·exact ht
   ·split
    ·split
     ·refine ht.putQ h.hist hk (hg.st ?_)
      exact { hx with live:=fun hh=>{ hx.live hh with } }
     ·exact ht
    ·exact ht
 ·exact ht
theorem act_run (h:WOk s.2.1 n w) (hn:n ≤ 99999) (hN:1048576 < N):Zcw N w.e s a = some (((wAct s w a).e,()),()):=by
 have ht:=h.tick
 have hnow:=h.now
 have hn0:=h.n0
 have hl4:w.roots.length ≤ 4:=by rw [h.len]; exact h.l4
 unfold Zcw wAct
 simp only [Wq]
 rw [show P5 w.e = w.roots.map Rt.e from rfl,show w.e.1 = w.now from rfl,Wez (by omega)]
 have hlen:ilen (w.roots.map Rt.e) = (w.roots.length:Int):=by unfold ilen; simp
 rw [hlen,Wap (by unfold I64; omega)]
 simp only [Wk,ret,Option.bind_some]
 by_cases hb:0 ≤ a.2.1 ∧ a.2.1 < w.roots.length
 ·rw [if_pos hb,decide_eq_true hb.1,decide_eq_true (show a.2.1 ≤ (w.roots.length:Int) - 1 by omega)]
  obtain ⟨k,hka⟩:∃ k:Nat,a.2.1 = k:=⟨a.2.1.toNat,by omega⟩
  have hk:k < w.roots.length:=by omega
  obtain ⟨x,hxe⟩:∃ x,w.roots[k] = x:=⟨_,rfl⟩
  have hx:=h.root k hk
  rw [hxe] at hx
  have hks:k < s.2.1.length:=by rw [← h.len]; exact hk
  have hp:=pg_get h.progs hks
  obtain ⟨g1,g2,g3,g4,g5⟩:=woG hk hxe
  obtain ⟨r0,r1,r2,r3,r4,r5,r6,r7,r8,r11,r12,r13,r14,r15,r16,r18,r19,r20,r21,r24,r28,r29⟩:=rtP x
  have hself:∀ y:Rt,(w.now + 1,S4 (List.set (w.roots.map Rt.e) k y.e) w.e.2) = Wo.e (Wo.put ({ w with now:=w.now + 1 },y) k):=fun y=>by
   unfold Wo.put Wo.e; simp only [List.map_set]; rfl
  have hsame:Wo.put ({ w with now:=w.now + 1 },x) k = { w with now:=w.now + 1 }:=by unfold Wo.put; simp only; rw [← hxe,List.set_getElem_self]
  simp only [hka,Int.toNat_natCast,Bool.and_self,Bool.not_true,cond_false]
  rw [g1,g4,Wm hk,hxe]
  simp only [cond_true,r0,r20,r21,hself,hsame,show w.e.2.2.1 = w.mem from rfl]
  rw [War,decide_eq_true hks]
  have hpg:List.getD s.2.1 k (([]:List (Int × Int × Int × Int)),([]:List (List (Int × Int × Int × Int)))) = s.2.1.getD k pg0:=rfl
  rw [hpg]
  generalize hpe:s.2.1.getD k pg0 = p at *
  have hg:GOk { w with now:=w.now + 1 }:=⟨h.mem,h.shelf,h.holds⟩
  simp only [cond_true,Ww]
  have hst:Zhb N (Wo.e { w with now:=w.now + 1 }) (k:Int) p = some (((Wo.put (Wur { w with now:=w.now + 1 } x k p) k).e,()),()) :=
   step_run (w:={ w with now:=w.now + 1 }) hk hxe (by show w.roots.length ≤ 8; omega) hp hg hx (by omega) (by have:=h.hist; show w.hist.length ≤ 500000; omega) hN
  rw [hst]
  by_cases h1:a.1 = 1
  ·rw [if_pos h1,if_pos h1]
   unfold wStep
   rw [Wm (show k < ({ w with now:=w.now + 1 }:Wo).roots.length from hk)]
   simp only [hxe,Option.bind_some]
  ·rw [if_neg h1,if_neg h1]
   by_cases h2:a.1 = 2
   ·rw [if_pos h2,if_pos h2]
    by_cases hf:x.phase = 2
    ·rw [if_pos hf,Wap (by have:=hp.k3; unfold I64 ilen; omega),show ilen p.2 = (p.2.length:Int) from rfl]
     by_cases hj:0 ≤ a.2.2 ∧ a.2.2 < p.2.length
     ·rw [decide_eq_true hj.1,decide_eq_true (show a.2.2 ≤ (p.2.length:Int) - 1 by omega),if_pos (show x.phase = 2 ∧ 0 ≤ a.2.2 ∧ a.2.2 < p.2.length from ⟨hf,hj⟩)]
      obtain ⟨j,hja⟩:∃ j:Nat,a.2.2 = j:=⟨a.2.2.toNat,by omega⟩
      have hj':j < p.2.length:=by omega
      simp only [hja,Int.toNat_natCast,Bool.and_self,cond_true]
      rw [War,decide_eq_true hj']
      obtain ⟨f1,f2,f3⟩:=(hx.live (by omega)).fork hf
      have hkc:KC (p.2.getD j []):=by rw [Wm hj']; exact hp.kids _ (List.getElem_mem hj')
      rw [Wuj (code:=p.2.getD j []) (by rw [f3.len]; exact hj') (by rw [f3.len]; exact hp.k3) h.mem hkc f3 rfl (by omega) hN]
      simp only [Option.bind_some,cond_true]
      have:U21 (fStep w.mem x.fam j (p.2.getD j [])).e x.e = Rt.e { x with fam:=fStep w.mem x.fam j (p.2.getD j []) }:=rfl
      rw [this,hself]
      unfold wKid
      rfl
     ·rw [if_neg (show ¬ (x.phase = 2 ∧ 0 ≤ a.2.2 ∧ a.2.2 < p.2.length) from fun hc=>hj hc.2)]
      have hbb:(decide (0 ≤ a.2.2) && decide (a.2.2 ≤ (p.2.length:Int) - 1)) = false:=by
       rw [Bool.and_eq_false_iff,decide_eq_false_iff_not,decide_eq_false_iff_not]; omega
      rw [hbb]; rfl
    ·rw [if_neg hf,if_neg (show ¬ (x.phase = 2 ∧ 0 ≤ a.2.2 ∧ a.2.2 < p.2.length) from fun hc=>hf hc.1)]
   ·rw [if_neg h2,if_neg h2]
    by_cases h3:a.1 = 3
    ·rw [if_pos h3,if_pos h3]
     have hd:S11 true x.e = Rt.e { x with doomed:=true }:=rfl
     simp only [hd,hself,show (Cm.e x.cm).2.2.1 = x.cm.phase from rfl,Wby]
     by_cases hph:1 ≤ x.phase ∧ x.phase ≤ 4
     ·rw [decide_eq_true hph.1,decide_eq_true hph.2,if_pos (show (1 ≤ x.phase ∧ x.phase ≤ 4) ∨ (x.phase = 5 ∧ x.cm.phase ≤ 3) from .inl hph)]; rfl
     ·have hbb:(decide (1 ≤ x.phase) && decide (x.phase ≤ 4)) = false:=by
       rw [Bool.and_eq_false_iff,decide_eq_false_iff_not,decide_eq_false_iff_not]; omega
      rw [hbb]
      simp only [cond_false]
      by_cases h5:x.phase = 5
      ·rw [if_pos h5]
       by_cases hc:x.cm.phase ≤ 3
       ·rw [if_pos hc,if_pos (show (1 ≤ x.phase ∧ x.phase ≤ 4) ∨ (x.phase = 5 ∧ x.cm.phase ≤ 3) from .inr ⟨h5,hc⟩)]
       ·rw [if_neg hc,if_neg (show ¬ ((1 ≤ x.phase ∧ x.phase ≤ 4) ∨ (x.phase = 5 ∧ x.cm.phase ≤ 3)) by omega)]
      ·rw [if_neg h5,if_neg (show ¬ ((1 ≤ x.phase ∧ x.phase ≤ 4) ∨ (x.phase = 5 ∧ x.cm.phase ≤ 3)) by omega)]
    ·rw [if_neg h3,if_neg h3]
 ·rw [if_neg hb]
  have hbb:(decide (0 ≤ a.2.1) && decide (a.2.1 ≤ (w.roots.length:Int) - 1)) = false:=by
   rw [Bool.and_eq_false_iff,decide_eq_false_iff_not,decide_eq_false_iff_not]; omega
  rw [hbb]; rfl
theorem Wrb (h:scOk s = true):WOk s.2.1 0 (wNew s):=by
 obtain ⟨h1,h2,h3,h4⟩:=Wvm h
 exact {
  len:=by simp [wNew]
  l4:=h2
  progs:=h4
  now:=rfl
  n0:=Int.le_refl _
  mem:=by
   show Wbi (memNew s.1.1) = true
   have:=h1.cells.len
   unfold Wbi memNew
   simp only [List.length_map,this,decide_true,Bool.true_and,Bool.and_eq_true,decide_eq_true_eq,List.all_eq_true]
   refine ⟨by omega,fun w hw=>?_⟩
   obtain ⟨v,hv,rfl⟩:=List.mem_map.1 hw
   have:=h1.cells.val v hv
   rw [Wis]; unfold wd0; simp only; omega
  shelf:=⟨slFrom_ok h1.map.1 h1.map.2,h1.cnt⟩
  holds:=⟨(fun h hh=>by cases hh),List.Pairwise.nil⟩
  hist:=by simp [wNew]
  histE:=fun h hh=>by cases hh
  root:=fun k hk=>by
   simp only [wNew,List.getElem_replicate]
   exact {
    phase:=by simp
    tries:=by simp
    live:=fun hh=>by simp at hh
    comm:=fun hh=>by simp at hh
    undos:=fun u hu=>by cases hu
    ul:=by simp
    rg:=by simp
    ord:=by simp } }
theorem acts_ok:∀ (l:List Ac) (n:Int) (w:Wo),WOk s.2.1 n w → WOk s.2.1 (n + l.length) (l.foldl (wAct s) w)
 | [],n,w,h=>by simpa using h
 | a :: l,n,w,h=>by
  have:=acts_ok l (n + 1) _ (Wni (a:=a) h)
  rw [List.foldl_cons,List.length_cons]
  rw [show n + ((l.length + 1:Nat):Int) = n + 1 + l.length by omega]
  exact this
theorem wPlay_ok (h:scOk s = true):WOk s.2.1 s.2.2.length (Wfn s):=by
 have:=acts_ok s.2.2 0 _ (Wrb h)
 rw [Int.zero_add] at this
 exact this
theorem play_lp {R:Type} {K0:Int → Bool → Int → Int → Int → Int → (List (Int × Int × Int)) → (List Int) → (List (Int × Int × Int)) → (List Y_Root) → (List (Int × Int × List (Int × Int))) → Option R} (hl:s.2.2.length ≤ 1000) (hN:1048576 < N) :
  ∀ (d j n:Nat) (m:Int) (w:Wo),j + d = s.2.2.length → d < n → WOk s.2.1 m w → m + d ≤ 90000 →
  Zav N s.2.2 s K0 n (j:Int) w.now w.token w.mem.1 w.shelf.2 w.mem.2 w.shelf.1 w.holds (w.roots.map Rt.e) w.hist =
   (fun v:Wo=>K0 (s.2.2.length:Int) false v.now v.token v.mem.1 v.shelf.2 v.mem.2 v.shelf.1 v.holds (v.roots.map Rt.e) v.hist) ((s.2.2.drop j).foldl (wAct s) w):=by
 intro d
 induction d with
 | zero =>
  intro j n m w hj hn h hm
  obtain ⟨n,rfl⟩:∃ n',n = n' + 1:=⟨n - 1,by omega⟩
  have:j = s.2.2.length:=by omega
  subst this
  simp only [Zav,Wbj (Nat.le_refl _),cond_false,List.drop_length,List.foldl_nil]
 | succ d ih =>
  intro j n m w hj hn h hm
  obtain ⟨n,rfl⟩:∃ n',n = n' + 1:=⟨n - 1,by omega⟩
  have hlt:j < s.2.2.length:=by omega
  have hw:(w.now,(w.token,((w.mem.1,w.mem.2),((w.shelf.1,w.shelf.2),(w.holds,(w.roots.map Rt.e,w.hist)))))) = w.e:=rfl
  simp only [Zav,Wba hlt,Wp hlt,Wu hlt,Wi (show j < 4611686018427387904 by omega),cond_true,hw]
  rw [act_run h (by omega) hN,List.drop_eq_getElem_cons hlt,List.foldl_cons]
  exact ih (j + 1) n (m + 1) _ (by omega) (by omega) (Wni h) (by omega)
theorem play_run (hb:SB s) (hN:1048576 < N):Zey N s = ret (if scOk s = true then (Wfn s).e else d_World):=by
 unfold Zey
 rw [Wgf hb hN]
 simp only [ret,Option.bind_some]
 cases hs:scOk s with
 | false=>rfl
 | true =>
  obtain ⟨h1,h2,h3,h4⟩:=Wvm hs
  have h0:=Wrb hs
  have hmk:=make_ok s.2.1 (by omega)
  simp only [Bool.not_true,cond_false,if_true]
  rw [Wgu h1.map.1 h1.map.2 hN,Wki (Wvr.2 h1.cells) hN]
  simp only [ret,Option.bind_some,hmk,cond_true,Wif]
  have hlp:=play_lp (s:=s) (N:=N) (K0:=fun t36 t37 b38 b39 b40 b41 l42 l43 l44 l45 l46=>(some ((),((b38,(b39,((b40,l42),((l43,b41),(l44,(l45,l46)))))),())):Option (Unit × (Y_World × Unit)))) (by have:=hb.acts; omega) hN s.2.2.length 0 N 0 (wNew s) (by omega) (by omega) h0 (by omega)
  rw [Wnh]
  have hroots:((wNew s).roots.map Rt.e) = List.replicate s.2.1.length d_Root:=by
   unfold wNew; simp only [List.map_replicate]; rfl
  rw [hroots] at hlp
  refine hlp.trans ?_
  rw [List.drop_zero]
  rfl
end Go.Sx
