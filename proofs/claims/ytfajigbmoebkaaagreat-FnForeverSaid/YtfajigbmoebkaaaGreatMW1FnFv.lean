/- Plain laws of the Lean functions. -/
import Derived.Test.YtfajigbmoebkaaaGreatMW1Stl

namespace Go.Sx
set_option linter.unusedVariables false
set_option linter.unusedSimpArgs false
variable {N:Nat} {s t:Sc} {w v:Wo} {a:Ac} {n:Int} {x y:Rt}
theorem Wji:Zhd N x.e = ret (stl x):=by
 obtain ⟨r0,r1,r2,r3,r4,r5,r6,r7,r8,r11,r12,r13,r14,r15,r16,r18,r19,r20,r21,r24,r28,r29⟩:=rtP x
 unfold Zhd stl
 simp only [Wp,r0,r7,r20,show x.cm.e.2.2.1 = x.cm.phase from rfl,Ws,bne_decide]
 have hb:∀ a b:Int,(a == b) = decide (a = b):=fun a b=>by by_cases h:a = b <;> simp [h]
 rw [hb]
 by_cases h8:x.phase = 8
 ·rw [if_pos h8,decide_eq_true h8]; rfl
 ·rw [if_neg h8,decide_eq_false h8]
  by_cases h6:x.phase = 6
  ·rw [if_pos h6,if_pos h6,decide_eq_true h6,decide_eq_false (show ¬ x.phase = 5 by omega)]; simp
  ·rw [if_neg h6,decide_eq_false h6]
   by_cases h7:x.phase = 7
   ·rw [if_pos h7,decide_eq_true h7,decide_eq_false (show ¬ x.phase = 5 by omega)]; simp
   ·rw [if_neg h7,decide_eq_false h7]
    by_cases h5:x.phase = 5
    ·rw [if_pos h5,decide_eq_true h5]
     by_cases h4:x.cm.phase = 4
     ·rw [if_pos h4,decide_eq_true h4]; simp
     ·rw [if_neg h4,decide_eq_false h4]; simp
    ·rw [if_neg h5,decide_eq_false h5]; simp
theorem Wvq:Zi6 N x.e = ret (Wij x):=by
 unfold Zi6 Wij
 rw [Wji]
 simp only [ret,Option.bind_some,Ws,show x.e.1 = x.phase from rfl]
 cases stl x with
 | false=>rfl
 | true =>
  simp only [Bool.not_true,cond_false,if_true]
  split <;> rfl
theorem foreverLp (hw:WOk s.2.1 n w) (h:WStay w v) (hN:1048576 < N) {R:Type} {E:Option R} {K:Option R} :
  Za7 N s w.e v.e E (fun i26 t27=>K) N 0 = K:=by
 have hl4:w.roots.length ≤ 4:=by rw [hw.len]; exact hw.l4
 have hb:(w.roots.map Rt.e).length ≤ 4:=by simpa using hl4
 have e1:P5 w.e = w.roots.map Rt.e:=rfl
 have e2:P5 v.e = v.roots.map Rt.e:=rfl
 have h1:=Wz (l:=w.roots.map Rt.e) (V:=Unit) (R:=R) (lp:=fun n j _=>Za7 N s w.e v.e E (fun i26 t27=>K) n j) (n:=N) (by omega)
  (body:=fun j x v k=>k v) (K:=fun _ v=>K)
  (fun n i u hi=>by
   have hi':i < w.roots.length:=by simpa using hi
   have hiv:i < v.roots.length:=by rw [← h.len]; exact hi'
   have hiv':i < (v.roots.map Rt.e).length:=by simpa using hiv
   have hst:=h.root i hi' hiv
   have htr:=hst.tries
   have p1:∀ x:Rt,P7 x.e = x.fate:=fun _=>rfl
   have p2:∀ x:Rt,P12 x.e = x.regs:=fun _=>rfl
   have p3:∀ x:Rt,P17 x.e = x.order:=fun _=>rfl
   have p4:∀ x:Rt,x.e.2.1 = x.tries:=fun _=>rfl
   have hrg:=(hw.root i hi').rg
   have hor:=(hw.root i hi').ord
   simp only [Za7,Wp,e1,e2,Waz hi,Wn hi,Wq hi,Wn hiv',Wq hiv',Wi (show i < 4611686018427387904 by omega),cond_true,List.getElem_map,Wji,Wvq,ret,Option.bind_some,p1,p2,p3,p4]
   have hgt:decide (w.roots[i].tries > v.roots[i].tries) = false:=decide_eq_false (by omega)
   rw [hgt]
   cases hs:stl w.roots[i] with
   | false=>rfl
   | true =>
    obtain ⟨a,b,c,d,e⟩:=hst.st hs
    rw [a,b,c,d,e,Wln (by omega) hN,Wln (by omega) hN]
    simp)
  (fun n u=>by simp only [Za7,e1,Wbj (Nat.le_refl _),cond_false]) ()
 refine h1.trans ?_
 rw [Wfj (f:=fun v _=>v) _ 0 () (fun j x v k _=>rfl)]
theorem forever_run {code:List Int} (hw:∀ x ∈ code,0 ≤ x ∧ x ≤ 255) (hN:1048576 < N):Zb7 N code = ret true:=by
 unfold Zb7 Ztj
 simp only [Option.bind_some]
 by_cases hb:code.length ≤ 1048576
 ·have e0:decide (ilen code > 1048576) = false:=by simp [ilen]; omega
  obtain ⟨s,es,hs⟩:=Wxn hN hb
  obtain ⟨v1,e1,hv1⟩:=at_run (N:=N) hw hb (i:=1) (by omega)
  have e1':Zov N code 1 = ret v1:=e1
  rw [e0,es]
  simp only [cond_false,ret,Option.bind_some]
  rw [Wsd hs hN]
  simp only [ret,Option.bind_some]
  cases hok:scOk s with
  | false=>rfl
  | true =>
   obtain ⟨h1,h2,h3,h4⟩:=scOk_of hok
   simp only [Bool.not_true,cond_false,e1',ret,Option.bind_some,show inz (255:Int) = true from rfl,cond_true]
   have hmul:0 ≤ v1 * (s.2.2.length:Int) ∧ v1 * (s.2.2.length:Int) ≤ 255 * s.2.2.length:=⟨Int.mul_nonneg hv1.1 (by omega),Int.mul_le_mul_of_nonneg_right hv1.2 (by omega)⟩
   have hq:iquo .i64 (imul .i64 v1 (ilen s.2.2)) 255 = v1 * (s.2.2.length:Int) / 255:=by
    rw [show ilen s.2.2 = (s.2.2.length:Int) from rfl,Whg (by unfold I64; omega)]
    unfold iquo
    rw [Int.tdiv_eq_ediv_of_nonneg hmul.1,wrapI (by unfold I64; omega)]
   obtain ⟨j,hj⟩:∃ j:Nat,v1 * (s.2.2.length:Int) / 255 = j:=⟨(v1 * (s.2.2.length:Int) / 255).toNat,by omega⟩
   have hjl:j ≤ s.2.2.length:=by omega
   have hc:(decide ((0:Int) ≤ (j:Int)) && decide ((j:Int) ≤ ((List.length s.2.2:Nat):Int))) = true:=by simp; omega
   rw [hq,hj,hc,Int.toNat_natCast]
   simp only [cond_true]
   have hsb:SB (s.1,(s.2.1,List.take j s.2.2)):={ cells:=hs.cells,map:=hs.map,progs:=hs.progs,each:=hs.each,acts:=by have:=hs.acts; show (List.take j s.2.2).length ≤ 1000; rw [List.length_take]; omega }
   have hok':scOk (s.1,(s.2.1,List.take j s.2.2)) = true:=by
    unfold scOk at hok ⊢
    simp only [Bool.and_eq_true,decide_eq_true_eq] at hok ⊢
    exact ⟨hok.1,hok.2.1,by rw [List.length_take]; omega,hok.2.2.2⟩
   rw [play_run hsb hN,if_pos hok',play_run hs hN,if_pos hok]
   simp only [ret,Option.bind_some]
   obtain ⟨w,hwe⟩:∃ w,wPlay (s.1,(s.2.1,List.take j s.2.2)) = w:=⟨_,rfl⟩
   have hw0:w = (List.take j s.2.2).foldl (wAct s) (wNew s):=by rw [← hwe]; rfl
   have hW:=acts_ok (List.take j s.2.2) 0 _ (Wwe hok)
   have hWx:=(Wpv (List.take j s.2.2) 0 _ (Wwe hok) wNew_x).1
   rw [← hw0] at hW hWx
   have hv0:wPlay s = (List.drop j s.2.2).foldl (wAct s) w:=by
    unfold wPlay
    conv=>lhs; rw [← List.take_append_drop j s.2.2]
    rw [List.foldl_append,← hw0]
   obtain ⟨hVx,hst⟩:=Wpv (List.drop j s.2.2) _ _ hW hWx
   rw [← hv0] at hVx hst
   have hV:=wPlay_ok hok
   rw [hwe]
   obtain ⟨v,hve⟩:∃ v,wPlay s = v:=⟨_,rfl⟩
   rw [hve] at hVx hst hV ⊢
   have eW:ilen w.e.2.2.2.2.2.1 = ilen s.2.1:=by show ilen (w.roots.map Rt.e) = _; unfold ilen; rw [List.length_map,hW.len]
   have eV:ilen v.e.2.2.2.2.2.1 = ilen s.2.1:=by show ilen (v.roots.map Rt.e) = _; unfold ilen; rw [List.length_map,hV.len]
   obtain ⟨l,hl⟩:=hst.hist
   have eH:w.e.2.2.2.2.2.2 = w.hist:=rfl
   have eH':v.e.2.2.2.2.2.2 = w.hist ++ l:=hl
   rw [eW,eV,eH,eH',foreverLp hW hst hN]
   have hgt:decide (ilen w.hist > ilen (w.hist ++ l)) = false:=decide_eq_false (by unfold ilen; simp; omega)
   have hle:(decide ((0:Int) ≤ ilen w.hist) && decide (ilen w.hist ≤ ((List.length (w.hist ++ l):Nat):Int))) = true:=by unfold ilen; simp; omega
   have htk:List.take (Int.toNat (ilen w.hist)) (w.hist ++ l) = w.hist:=by unfold ilen; simp
   have hhi:=hW.hist
   have hlt:(List.take j s.2.2).length ≤ 400:=by rw [List.length_take]; omega
   have hsh:Zcr N w.hist w.hist = ret true:=Wuj (by omega) (fun e he=>by have:=(hW.histE e he).1; omega) hN
   have hck:decide (w.e.2.2.1.1 ≤ v.e.2.2.1.1) = true:=decide_eq_true hst.clock
   have hnow:(v.e.1 == ilen s.2.2) = true:=by
    have:=hV.now
    show (v.now == ilen s.2.2) = true
    unfold ilen; simpa using this
   simp only [bne_self_eq_false,cond_false,hgt,hle,cond_true,htk,hsh,ret,Option.bind_some,hck,hnow]
 ·have e0:decide (ilen code > 1048576) = true:=by simp [ilen]; omega
  rw [e0]; rfl
theorem law_FnForever (d:PDen [.v (.slice (.int .u8)) false]) (hw:WfArgs [.v (.slice (.int .u8)) false] d):∃ N o,Zb7 N d.1 = some (o,(true,())) :=
 ⟨1048577,(),forever_run (N:=1048577) (fun x hx=>bounds_u8 (hw.1.2 x hx)) (by omega)⟩
end Go.Sx
