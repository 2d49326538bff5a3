/- Plain laws of the Lean functions. -/
import Derived.Test.YtfajigbmoebkaaaGreatMW1Dec

namespace Go.Sx
set_option linter.unusedVariables false
set_option linter.unusedSimpArgs false
section
variable {N:Nat} {s:Sc} {p:Pg} {w:Wo} {n:Int} {a:Ac} {k:Nat}
theorem playI_lp {R:Type} {K0:Int → Bool → Int → Int → Int → Int → (List (Int × Int × Int)) → (List Int) → (List (Int × Int × Int)) → (List Y_Root) → (List (Int × Int × List (Int × Int))) → Option R} (hl:s.2.2.length ≤ 1000) (hN:1048576 < N) :
  ∀ (d j n:Nat) (m:Int) (w:Wo),j + d = s.2.2.length → d < n → WOk s.2.1 m w → m + d ≤ 90000 →
  Zbb N s.2.2 s K0 n (j:Int) w.now w.token w.mem.1 w.shelf.2 w.mem.2 w.shelf.1 w.holds (w.roots.map Rt.e) w.hist =
   (fun v:Wo=>K0 (s.2.2.length:Int) false v.now v.token v.mem.1 v.shelf.2 v.mem.2 v.shelf.1 v.holds (v.roots.map Rt.e) v.hist) ((s.2.2.drop j).foldl (wAct s) w):=by
 intro d
 induction d with
 | zero =>
  intro j n m w hj hn h hm
  obtain ⟨n,rfl⟩:∃ n',n = n' + 1:=⟨n - 1,by omega⟩
  have:j = s.2.2.length:=by omega
  subst this
  simp only [Zbb,Wbj (Nat.le_refl _),cond_false,List.drop_length,List.foldl_nil]
 | succ d ih =>
  intro j n m w hj hn h hm
  obtain ⟨n,rfl⟩:∃ n',n = n' + 1:=⟨n - 1,by omega⟩
  have hlt:j < s.2.2.length:=by omega
  have hw:(w.now,(w.token,((w.mem.1,w.mem.2),((w.shelf.1,w.shelf.2),(w.holds,(w.roots.map Rt.e,w.hist)))))) = w.e:=rfl
  simp only [Zbb,Wba hlt,Wp hlt,Wu hlt,Wi (show j < 4611686018427387904 by omega),cond_true,hw]
  rw [act_run h (by omega) hN,List.drop_eq_getElem_cons hlt,List.foldl_cons]
  exact ih (j + 1) n (m + 1) _ (by omega) (by omega) (Wni h) (by omega)
theorem playI_run (hb:SB s) (hN:1048576 < N):Zhh N s = ret (if scOk s = true then (Wfn s).e else d_World):=by
 unfold Zhh
 rw [Wgf hb hN]
 simp only [ret,Option.bind_some]
 cases hs:scOk s with
 | false=>rfl
 | true =>
  obtain ⟨h1,h2,h3,h4⟩:=Wvm hs
  have h0:=Wrb hs
  have hmk:=make_ok s.2.1 (by omega)
  simp only [Bool.not_true,cond_false,if_true]
  rw [Wgu h1.map.1 h1.map.2 hN,Wki (Wvr.2 h1.cells) hN]
  simp only [ret,Option.bind_some,hmk,cond_true,Wif]
  have hlp:=playI_lp (s:=s) (N:=N) (K0:=fun t36 t37 b38 b39 b40 b41 l42 l43 l44 l45 l46=>(some ((),((b38,(b39,((b40,l42),((l43,b41),(l44,(l45,l46)))))),())):Option (Unit × (Y_World × Unit)))) (by have:=hb.acts; omega) hN s.2.2.length 0 N 0 (wNew s) (by omega) (by omega) h0 (by omega)
  rw [Wnh]
  have hroots:((wNew s).roots.map Rt.e) = List.replicate s.2.1.length d_Root:=by
   unfold wNew; simp only [List.map_replicate]; rfl
  rw [hroots] at hlp
  refine hlp.trans ?_
  rw [List.drop_zero]
  rfl
end
def Wty (p:Int):List UInt8:=if 0 ≤ p ∧ p ≤ 8 then List.getD [[105,100,108,101],[114,117,110],[102,111,114,107],[117,110,119,105,110,100],[101,120,116,101,110,100],[99,111,109,109,105,116],[117,110,100,111],[102,114,101,101],[100,111,110,101]] p.toNat [] else []
theorem Wsm (p:Int):(Wty p).length ≤ 6:=by
 unfold Wty
 split
 ·rename_i h
  have:p.toNat < 9:=by omega
  generalize p.toNat = q at this
  revert q
  decide
 ·simp
theorem Wwm {N:Nat} {p:Int}:Zhv N p = ret (Wty p):=by
 unfold Zhv Zm Wty
 by_cases h1:0 ≤ p
 ·by_cases h2:p ≤ 8
  ·have e1:decide (p ≥ 0) = true:=by simpa using h1
   have e2:decide (p ≤ 8) = true:=by simpa using h2
   have e3:inb p 9 = true:=by unfold inb; simp; omega
   simp only [e1,e2,cond_true,Option.bind_some,Bool.not_true,cond_false]
   rw [show (List.length ([([105,100,108,101]:List UInt8),([114,117,110]:List UInt8),([102,111,114,107]:List UInt8),([117,110,119,105,110,100]:List UInt8),([101,120,116,101,110,100]:List UInt8),([99,111,109,109,105,116]:List UInt8),([117,110,100,111]:List UInt8),([102,114,101,101]:List UInt8),([100,111,110,101]:List UInt8)])) = 9 from rfl,e3,if_pos ⟨h1,h2⟩]
   rfl
  ·have e1:decide (p ≥ 0) = true:=by simpa using h1
   have e2:decide (p ≤ 8) = false:=by simpa using h2
   rw [if_neg (fun h=>h2 h.2)]
   simp [e1,e2]
 ·have e1:decide (p ≥ 0) = false:=by simpa using h1
  rw [if_neg (fun h=>h1 h.1)]
  simp [e1]
theorem Wyz {p:Int} (h:0 ≤ p ∧ p ≤ 8):seq (Wty p) [] = false:=by
 unfold Wty
 rw [if_pos h]
 have:p.toNat < 9:=by omega
 generalize p.toNat = q at this
 revert q
 decide
theorem turn_run {N:Nat} {e:Int × Int × Int × Int} (h1:I64 e.1) (h2:I64 e.2.1) (h3:0 ≤ e.2.2.1 ∧ e.2.2.1 ≤ 8) (h4:0 ≤ e.2.2.2 ∧ e.2.2.2 ≤ 8) (hN:1048576 < N):∃ t,Zg3 N e = ret t ∧ seq t [] = false:=by
 have l1:=decT_len e.1
 have l2:=decT_len e.2.1
 have l3:=Wsm e.2.2.1
 have l4:=Wsm e.2.2.2
 unfold Zg3
 simp only [Wwm,ret,Option.bind_some,Wyz h3,Wyz h4,cond_false,Wpo h1 (show 150 < N by omega),Wpo h2 (show 150 < N by omega)]
 have hs:∀ a b:List UInt8,a.length ≤ 1000 → b.length ≤ 1000 → sfit a b = true:=fun a b ha hb=>sfit_le (by omega)
 rw [hs _ _ (by omega) (by simp),hs _ _ (by simp; omega) (by omega),hs _ _ (by simp; omega) (by simp),hs _ _ (by simp; omega) (by omega),hs _ _ (by simp; omega) (by simp),hs _ _ (by simp; omega) (by omega)]
 refine ⟨_,rfl,?_⟩
 unfold seq
 simp
abbrev Tn:=Int × Int × Int × Int
def phOf (w:Wo) (k:Int):Int:=(w.roots.getD k.toNat rt0).phase
def Wfy (s:Sc) (i:Nat) (w:Wo) (a:Ac):List Tn :=
 if (0 ≤ a.2.1 ∧ a.2.1 < w.roots.length) ∧ phOf (wAct s w a) a.2.1 ≠ phOf w a.2.1 then [((i:Int),a.2.1,phOf w a.2.1,phOf (wAct s w a) a.2.1)] else []
def Wmh (s:Sc):List Ac → Nat → Wo → List Tn
 | [],_,_=>[]
 | a :: l,i,w=>Wfy s i w a ++ Wmh s l (i + 1) (wAct s w a)
variable {N:Nat} {s:Sc} {w:Wo} {n:Int} {a:Ac}
theorem Wti (i:Nat):(Wfy s i w a).length ≤ 1:=by unfold Wfy; split <;> simp
theorem getD_e (l:List Rt) (k:Nat):List.getD (l.map Rt.e) k d_Root = (l.getD k rt0).e:=Wjj Rt.e l k {}
theorem trace_lp {R:Type} {K0:Int → Bool → (List (Int × Int × Int × Int)) → Int → Int → Int → Int → (List (Int × Int × Int)) → (List Int) → (List (Int × Int × Int)) → (List Y_Root) → (List (Int × Int × List (Int × Int))) → Option R} (hl:s.2.2.length ≤ 1000) (hN:1048576 < N) :
  ∀ (d j n:Nat) (m:Int) (w:Wo) (o:List Tn),j + d = s.2.2.length → d < n → WOk s.2.1 m w → m + d ≤ 90000 → o.length ≤ j →
  Zan N s.2.2 (ilen s.2.2) s.1.1 s.1.2.1 s.1.2.2 s.2.1 K0 n (j:Int) o w.now w.token w.mem.1 w.shelf.2 w.mem.2 w.shelf.1 w.holds (w.roots.map Rt.e) w.hist =
   (fun v:Wo=>K0 (s.2.2.length:Int) false (o ++ Wmh s (s.2.2.drop j) j w) v.now v.token v.mem.1 v.shelf.2 v.mem.2 v.shelf.1 v.holds (v.roots.map Rt.e) v.hist) ((s.2.2.drop j).foldl (wAct s) w):=by
 intro d
 induction d with
 | zero =>
  intro j n m w o hj hn h hm ho
  obtain ⟨n,rfl⟩:∃ n',n = n' + 1:=⟨n - 1,by omega⟩
  have:j = s.2.2.length:=by omega
  subst this
  simp only [Zan,Wbj (Nat.le_refl _),cond_false,List.drop_length,List.foldl_nil,Wmh,List.append_nil]
 | succ d ih =>
  intro j n m w o hj hn h hm ho
  obtain ⟨n,rfl⟩:∃ n',n = n' + 1:=⟨n - 1,by omega⟩
  have hlt:j < s.2.2.length:=by omega
  have hw:(w.now,(w.token,((w.mem.1,w.mem.2),((w.shelf.1,w.shelf.2),(w.holds,(w.roots.map Rt.e,w.hist)))))) = w.e:=rfl
  have hsx:((s.1.1,(s.1.2.1,s.1.2.2)),(s.2.1,([]:List (Int × Int × Int)))) = (s.1,(s.2.1,([]:List Ac))):=rfl
  have hrl:(w.roots.map Rt.e).length = w.roots.length:=by simp
  have hl4:w.roots.length ≤ 4:=by rw [h.len]; exact h.l4
  have hact:Zcw N w.e (s.1,(s.2.1,([]:List Ac))) s.2.2[j] = some (((wAct s w s.2.2[j]).e,()),()):=act_run (s:=(s.1,(s.2.1,[]))) h (by omega) hN
  have hv:=Wni (a:=s.2.2[j]) h
  have hvl:(wAct s w s.2.2[j]).roots.length = w.roots.length:=by rw [hv.len,h.len]
  simp only [Zan,Wq,Wba hlt,Wp hlt,Wu hlt,Wi (show j < 4611686018427387904 by omega),cond_true,hw,hsx,hact,Option.bind_some,Wk,ret]
  rw [List.drop_eq_getElem_cons hlt,Wmh,List.foldl_cons]
  generalize s.2.2[j] = a at *
  have hrec:∀ o':List Tn,o' = o ++ Wfy s j w a → Zan N s.2.2 (ilen s.2.2) s.1.1 s.1.2.1 s.1.2.2 s.2.1 K0 n ((j + 1:Nat):Int) o' (wAct s w a).e.1 (wAct s w a).e.2.1 (wAct s w a).e.2.2.1.1 (wAct s w a).e.2.2.2.1.2 (wAct s w a).e.2.2.1.2 (wAct s w a).e.2.2.2.1.1 (P4 (wAct s w a).e) (P5 (wAct s w a).e) (Q6 (wAct s w a).e) =
   (fun v:Wo=>K0 (s.2.2.length:Int) false (o ++ (Wfy s j w a ++ Wmh s (s.2.2.drop (j + 1)) (j + 1) (wAct s w a))) v.now v.token v.mem.1 v.shelf.2 v.mem.2 v.shelf.1 v.holds (v.roots.map Rt.e) v.hist) ((s.2.2.drop (j + 1)).foldl (wAct s) (wAct s w a)):=fun o' ho'=>by
   subst ho'
   rw [← List.append_assoc]
   exact ih (j + 1) n (m + 1) (wAct s w a) _ (by omega) (by omega) hv (by omega) (by have:=Wti (s:=s) (w:=w) (a:=a) j; simp; omega)
  have hil:ilen (w.roots.map Rt.e) = (w.roots.length:Int):=by unfold ilen; rw [hrl]
  rw [hil,Wap (by unfold I64; omega)]
  by_cases hb:0 ≤ a.2.1 ∧ a.2.1 < w.roots.length
  ·rw [decide_eq_true hb.1,decide_eq_true (show a.2.1 ≤ (w.roots.length:Int) - 1 by omega)]
   have hin:inb a.2.1 (w.roots.map Rt.e).length = true:=by unfold inb; rw [hrl]; simp; omega
   have e5:P5 (wAct s w a).e = (wAct s w a).roots.map Rt.e:=rfl
   have hin2:inb a.2.1 (P5 (wAct s w a).e).length = true:=by unfold inb; rw [e5,List.length_map,hvl]; simp; omega
   have hg1:(List.getD (w.roots.map Rt.e) (Int.toNat a.2.1) d_Root).1 = phOf w a.2.1:=by rw [getD_e]; rfl
   have hg2:(List.getD (P5 (wAct s w a).e) (Int.toNat a.2.1) d_Root).1 = phOf (wAct s w a) a.2.1:=by rw [e5,getD_e]; rfl
   have hph:phOf w a.2.1 ≥ 0:=by
    unfold phOf
    rw [Wm (show a.2.1.toNat < w.roots.length by omega)]
    have:=(h.root a.2.1.toNat (by omega)).phase; omega
   have hroom:∀ x:Tn,room (o.length + [x].length) = true:=fun x=>Ws (by simp; omega)
   rw [hin,hin2,hg1,hg2,decide_eq_true hph,hroom]
   simp only [Bool.and_self,cond_true,Wfc]
   by_cases hne:phOf (wAct s w a) a.2.1 = phOf w a.2.1
   ·rw [if_pos hne]
    exact hrec _ (by unfold Wfy; rw [if_neg (fun hc=>hc.2 hne),List.append_nil])
   ·rw [if_neg hne]
    exact hrec _ (by unfold Wfy; rw [if_pos ⟨hb,hne⟩]; rfl)
  ·have hbb:(decide (0 ≤ a.2.1) && decide (a.2.1 ≤ (w.roots.length:Int) - 1)) = false:=by
    rw [Bool.and_eq_false_iff,decide_eq_false_iff_not,decide_eq_false_iff_not]; omega
   rw [hbb]
   simp only [cond_false,show decide ((-1:Int) ≥ 0) = false from rfl]
   exact hrec _ (by unfold Wfy; rw [if_neg (fun hc=>hb hc.1),List.append_nil])
theorem traceOf_run (hb:SB s) (hN:1048576 < N):Zez N s = ret (if scOk s = true then Wmh s s.2.2 0 (wNew s) else []):=by
 unfold Zez
 rw [Wgf hb hN]
 simp only [ret,Option.bind_some]
 cases hs:scOk s with
 | false=>rfl
 | true =>
  have hsb:SB (s.1,(s.2.1,([]:List Ac))):={ cells:=hb.cells,map:=hb.map,progs:=hb.progs,each:=hb.each,acts:=by simp }
  have hok':scOk (s.1,(s.2.1,([]:List Ac))) = true:=by
   unfold scOk at hs ⊢
   simp only [Bool.and_eq_true,decide_eq_true_eq] at hs ⊢
   exact ⟨hs.1,hs.2.1,by simp,hs.2.2.2⟩
  simp only [Bool.not_true,cond_false,if_true]
  rw [playI_run hsb hN,if_pos hok']
  simp only [ret,Option.bind_some]
  have hw:Wfn (s.1,(s.2.1,([]:List Ac))) = wNew s:=rfl
  rw [hw]
  have:=trace_lp (s:=s) (N:=N) (K0:=fun t39 t40 l41 b42 b43 b44 b45 l46 l47 l48 l49 l50=>(some ((),(l41,())):Option (Unit × (List Tn × Unit)))) (by have:=hb.acts; omega) hN s.2.2.length 0 N 0 (wNew s) [] (by omega) (by have:=hb.acts; omega) (Wrb hs) (by have:=hb.acts; omega) (by simp)
  rw [List.drop_zero,List.nil_append] at this
  exact this
end Go.Sx
