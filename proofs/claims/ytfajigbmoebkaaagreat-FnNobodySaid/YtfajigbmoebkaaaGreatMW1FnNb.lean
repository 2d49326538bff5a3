/- Plain laws of the Lean functions. -/
import Derived.Test.YtfajigbmoebkaaaGreatMW1SmH

namespace Go.Sx
set_option linter.unusedVariables false
set_option linter.unusedSimpArgs false
theorem Wyc {N:Nat} {a:Mm} (ha:a.2.length ≤ 1048576) (hN:1048576 < N):Za6 N a a = ret true:=by
 unfold Za6
 rw [show (a.1 != a.1) = false by simp,show (ilen a.2 != ilen a.2) = false by simp]
 simp only [cond_false]
 have h1:=Wy (l:=a.2) (V:=Unit) (R:=Unit × (Bool × Unit)) (lp:=fun n j _=>Zc4 N a a (some ((),(false,()))) (fun i8 t9=>some ((),(true,()))) n j) (n:=N) (by omega)
  (body:=fun j x v k=>k v) (K:=fun _ v=>some ((),(true,())))
  (fun n i v hi=>by
   have e2:(!((ieq a.2[i].1 a.2[i].1) && ((ieq a.2[i].2.1 a.2[i].2.1) && ((ieq a.2[i].2.2 a.2[i].2.2) && true)))) = false:=by simp [ieq]
   simp only [Zc4,Waw hi,Wn hi,Wp hi,Wh (show i < 4611686018427387904 by omega),cond_true,e2,cond_false])
  (fun n v=>by simp only [Zc4,Wbi (Nat.le_refl a.2.length),cond_false]) ()
 refine h1.trans ?_
 rw [Wdm (f:=fun v _=>v) a.2 0 () (fun j x v k _=>rfl)]
theorem Wsc {N:Nat} {a:List Hd} (ha:a.length ≤ 1048576) (hN:1048576 < N):Zaq N a a = ret true:=by
 unfold Zaq
 rw [show (ilen a != ilen a) = false by simp]
 simp only [cond_false]
 have h1:=Wy (l:=a) (V:=Unit) (R:=Unit × (Bool × Unit)) (lp:=fun n j _=>Zcb N a a (some ((),(false,()))) (fun i8 t9=>some ((),(true,()))) n j) (n:=N) (by omega)
  (body:=fun j x v k=>k v) (K:=fun _ v=>some ((),(true,())))
  (fun n i v hi=>by
   have e2:(!((ieq a[i].1 a[i].1) && ((ieq a[i].2.1 a[i].2.1) && ((ieq a[i].2.2 a[i].2.2) && true)))) = false:=by simp [ieq]
   simp only [Zcb,Waw hi,Wn hi,Wp hi,Wh (show i < 4611686018427387904 by omega),cond_true,e2,cond_false])
  (fun n v=>by simp only [Zcb,Wbi (Nat.le_refl a.length),cond_false]) ()
 refine h1.trans ?_
 rw [Wdm (f:=fun v _=>v) a 0 () (fun j x v k _=>rfl)]
variable {N:Nat} {s t:Sc} {w v:Wo} {a:Ac} {n:Int}
theorem Wtm (h:s.2.1 = t.2.1):wAct s = wAct t:=by
 funext w a
 unfold wAct
 rw [h]
theorem play_snoc (l:List Ac) (a:Ac):Wzc (s.1,s.2.1,l ++ [a]) = wAct s (Wzc (s.1,s.2.1,l)) a:=by
 unfold Wzc
 simp only [List.foldl_append,List.foldl_cons,List.foldl_nil]
 rw [Wtm (s:=(s.1,s.2.1,l ++ [a])) (t:=s) rfl,Wtm (s:=(s.1,s.2.1,l)) (t:=s) rfl]
 rfl
theorem act_nobody (h:¬ (0 ≤ a.2.1 ∧ a.2.1 < w.roots.length) ∨ ∃ k:Nat,∃ hk:k < w.roots.length,a.2.1 = k ∧ w.roots[k].phase = 8):wAct s w a = { w with now:=w.now + 1 }:=by
 unfold wAct
 simp only
 rcases h with h | ⟨k,hk,ha,h8⟩
 ·rw [if_neg h]
 ·rw [if_pos ⟨by omega,by omega⟩,ha,Int.toNat_natCast,Wae hk]
  have hself:Wo.put ({ w with now:=w.now + 1 },w.roots[k]) k = { w with now:=w.now + 1 }:=by unfold Wo.put; simp only [List.set_getElem_self]
  by_cases h1:a.1 = 1
  ·rw [if_pos h1]
   unfold wStep
   rw [Wae (show k < ({ w with now:=w.now + 1 }:Wo).roots.length from hk)]
   have:Wzq { w with now:=w.now + 1 } w.roots[k] k (s.2.1.getD k pg0) = ({ w with now:=w.now + 1 },w.roots[k]):=by
    unfold Wzq
    rw [if_neg (by omega),if_neg (by omega),if_neg (by omega),if_neg (by omega),if_neg (by omega),if_neg (by omega),if_neg (by omega),if_neg (by omega),if_neg (by omega)]
   simp only [this,hself]
  ·rw [if_neg h1]
   by_cases h2:a.1 = 2
   ·rw [if_pos h2,if_neg (by omega)]
   ·rw [if_neg h2]
    by_cases h3:a.1 = 3
    ·rw [if_pos h3,if_neg (by omega)]
    ·rw [if_neg h3]
theorem noLp (h:WOk s.2.1 n w) (hN:1048576 < N):Zah N w.e (Wo.e { w with now:=w.now + 1 }) (some ((),(false,()))) (fun i31 t32=>(some ((),(true,())))) N 0 = (ret true:Option (Unit × (Bool × Unit))):=by
 have hl4:w.roots.length ≤ 4:=by rw [h.len]; exact h.l4
 have hb:(w.roots.map Rt.e).length ≤ 4:=by simpa using hl4
 have e1:P5 w.e = w.roots.map Rt.e:=rfl
 have e2:P5 (Wo.e { w with now:=w.now + 1 }) = w.roots.map Rt.e:=rfl
 have h1:=Wy (l:=w.roots.map Rt.e) (V:=Unit) (R:=Unit × (Bool × Unit)) (lp:=fun n j _=>Zah N w.e (Wo.e { w with now:=w.now + 1 }) (some ((),(false,()))) (fun i31 t32=>(some ((),(true,())))) n j) (n:=N) (by omega)
  (body:=fun j x v k=>k v) (K:=fun _ v=>some ((),(true,())))
  (fun n i v hi=>by
   have hi':i < w.roots.length:=by simpa using hi
   have hs:Zcu N (P12 (Rt.e w.roots[i])) (P12 (Rt.e w.roots[i])) = ret true:=Wuh (by have:=(h.root i hi').rg; show w.roots[i].regs.length ≤ 1048576; omega) hN
   have hbq:beq (P11 (Rt.e w.roots[i])) (P11 (Rt.e w.roots[i])) = true:=by unfold beq; simp
   simp only [Zah,Wq,e1,e2,Waw hi,Wn hi,Wp hi,Wh (show i < 4611686018427387904 by omega),cond_true,List.getElem_map,bne_self_eq_false,cond_false,hbq,Bool.not_true,hs,ret,Option.bind_some])
  (fun n v=>by simp only [Zah,e2,Wbi (Nat.le_refl _),cond_false]) ()
 refine h1.trans ?_
 rw [Wdm (f:=fun v _=>v) _ 0 () (fun j x v k _=>rfl)]
theorem nobody_run {code:List Int} (hw:∀ x ∈ code,0 ≤ x ∧ x ≤ 255) (hN:1048576 < N):Zcv N code = ret true:=by
 unfold Zcv Ztr
 simp only [Option.bind_some,Wix]
 by_cases hb:code.length ≤ 1048576
 ·have e0:decide (ilen code > 1048576) = false:=by simp [ilen]; omega
  obtain ⟨s,es,hs⟩:=Wxg hN hb
  obtain ⟨v2,e2,hv2⟩:=at_run (N:=N) hw hb (i:=2) (by omega)
  obtain ⟨v3,e3,hv3⟩:=at_run (N:=N) hw hb (i:=3) (by omega)
  have e2':Zlh N code 2 = ret v2:=e2
  have e3':Zlh N code 3 = ret v3:=e3
  rw [e0,es]
  simp only [cond_false,ret,Option.bind_some]
  rw [Wrj hs hN]
  simp only [ret,Option.bind_some]
  cases hok:scOk s with
  | false=>rfl
  | true =>
   obtain ⟨h1,h2,h3,h4⟩:=scOk_of hok
   simp only [Bool.not_true,cond_false,Wbm,Wu,Wfa]
   by_cases ha:ilen s.2.2 ≥ 400
   ·rw [if_pos ha]
   ·rw [if_neg ha]
    by_cases hz:ilen s.2.1 = 0
    ·rw [if_pos hz]
    ·rw [if_neg hz,play_run hs hN,hok]
     simp only [ret,Option.bind_some,if_true]
     have hW:=wPlay_ok hok
     have hlen:=hW.len
     generalize hwe:Wzc s = w at *
     unfold ilen at ha hz
     have eroots:w.e.2.2.2.2.2.1 = w.roots.map Rt.e:=rfl
     have eln:ilen w.e.2.2.2.2.2.1 = ilen s.2.1:=by rw [eroots]; unfold ilen; rw [List.length_map,hlen]
     have hirem:irem v2 (ilen s.2.1) = v2 % (s.2.1.length:Int):=by unfold irem ilen; exact Int.tmod_eq_emod_of_nonneg hv2.1
     have hi3:irem v3 3 = v3 % 3:=by unfold irem; exact Int.tmod_eq_emod_of_nonneg hv3.1
     have hm:=Int.emod_nonneg v2 (show (s.2.1.length:Int) ≠ 0 by omega)
     have hm2:=Int.emod_lt_of_pos v2 (show (0:Int) < s.2.1.length by omega)
     have hinz:inz (ilen s.2.1) = true:=by unfold inz ilen; rw [decide_eq_false hz]; rfl
     have hia:iadd .i64 1 (v3 % 3) = 1 + v3 % 3:=Wx (by unfold I64; omega)
     have eln2:ilen (w.roots.map Rt.e) = ilen s.2.1:=eln
     rw [eln]
     simp only [if_true,e2',e3',ret,Option.bind_some,hinz,cond_true,hirem,hi3,hia,show inz (3:Int) = true from rfl]
     obtain ⟨k,hk⟩:∃ k:Nat,v2 % (s.2.1.length:Int) = k:=⟨(v2 % (s.2.1.length:Int)).toNat,by omega⟩
     have hks:k < w.roots.length:=by omega
     rw [hk,eroots,List.length_map,Waq,decide_eq_true hks]
     have hget:List.getD (w.roots.map Rt.e) (Int.toNat (k:Int)) d_Root = Rt.e w.roots[k]:=(woG hks rfl).2.1
     rw [hget]
     have hnow:=hW.now
     have hfin:∀ a:Ac,(¬ (0 ≤ a.2.1 ∧ a.2.1 < w.roots.length) ∨ ∃ k:Nat,∃ hk:k < w.roots.length,a.2.1 = k ∧ w.roots[k].phase = 8) →
       Za2 N (s.1,(s.2.1,List.append (List.append ([]:List (Int × Int × Int)) s.2.2) [a])) = ret (Wo.e { w with now:=w.now + 1 }):=fun a hna=>by
      have hsb:SB (s.1,(s.2.1,List.append (List.append ([]:List (Int × Int × Int)) s.2.2) [a])):={ cells:=hs.cells,map:=hs.map,progs:=hs.progs,each:=hs.each,acts:=by simp [List.append_eq]; omega }
      have hok':scOk (s.1,(s.2.1,List.append (List.append ([]:List (Int × Int × Int)) s.2.2) [a])) = true:=by
       unfold scOk at hok ⊢
       simp only [Bool.and_eq_true,decide_eq_true_eq] at hok ⊢
       exact ⟨hok.1,hok.2.1,by simp [List.append_eq]; omega,hok.2.2.2⟩
      rw [play_run hsb hN,if_pos hok']
      have:Wzc (s.1,(s.2.1,List.append (List.append ([]:List (Int × Int × Int)) s.2.2) [a])) = wAct s (Wzc s) a:=play_snoc (s:=s) s.2.2 a
      rw [this,hwe,act_nobody hna]
     have hroom:room ((List.length ([]:List (Int × Int × Int))) + (List.length s.2.2)) = true:=Ws (by simp; omega)
     have hroom2:∀ a:Ac,room ((List.length (List.append ([]:List (Int × Int × Int)) s.2.2)) + (List.length [a])) = true:=fun a=>Ws (by simp [List.append_eq]; omega)
     have hmem:=(Waj hW.mem).1
     have hsm:Za6 N w.e.2.2.1 w.e.2.2.1 = ret true:=Wyc (by show w.mem.2.length ≤ _; omega) hN
     have hsh:Zaq N w.e.2.2.2.2.1 w.e.2.2.2.2.1 = ret true:=Wsc (by have:=Woz hW.holds; show w.holds.length ≤ _; omega) hN
     have hhi:=hW.hist
     have hst:Zay N w.e.2.2.2.2.2.2 w.e.2.2.2.2.2.2 = ret true:=Wux (by show w.hist.length ≤ _; omega) (fun e he=>by have:=(hW.histE e he).1; omega) hN
     have hnl:=noLp hW hN
     have hin:iadd .i64 w.e.1 1 = w.now + 1:=Wew (show 0 ≤ w.now ∧ w.now ≤ 1000000 by omega)
     simp only [cond_true,hroom,hroom2]
     have p1:(Wo.e { w with now:=w.now + 1 }).2.2.2.2.2.1 = w.roots.map Rt.e:=rfl
     have p2:(Wo.e { w with now:=w.now + 1 }).1 = w.now + 1:=rfl
     have p3:(Wo.e { w with now:=w.now + 1 }).2.1 = w.e.2.1:=rfl
     have p4:(Wo.e { w with now:=w.now + 1 }).2.2.1 = w.e.2.2.1:=rfl
     have p5:(Wo.e { w with now:=w.now + 1 }).2.2.2.2.1 = w.e.2.2.2.2.1:=rfl
     have p6:(Wo.e { w with now:=w.now + 1 }).2.2.2.2.2.2 = w.e.2.2.2.2.2.2:=rfl
     by_cases h8:(Rt.e w.roots[k]).1 = 8
     ·rw [if_pos h8,hfin (1 + v3 % 3,(k:Int),0) (.inr ⟨k,hks,rfl,h8⟩)]
      simp only [ret,Option.bind_some,p1,p2,p3,p4,p5,p6,hin,eln2,if_true,hsm,hsh,hst,Bool.not_true,cond_false]
      exact hnl
     ·rw [if_neg h8,hfin (1 + v3 % 3,ilen s.2.1,0) (.inl (by simp only; unfold ilen; omega))]
      simp only [ret,Option.bind_some,p1,p2,p3,p4,p5,p6,hin,eln2,if_true,hsm,hsh,hst,Bool.not_true,cond_false]
      exact hnl
 ·have e0:decide (ilen code > 1048576) = true:=by simp [ilen]; omega
  rw [e0]; rfl
theorem law_FnNobody (d:PDen [.v (.slice (.int .u8)) false]) (hw:WfArgs [.v (.slice (.int .u8)) false] d):∃ N o,Zcv N d.1 = some (o,(true,())) :=
 ⟨1048577,(),nobody_run (N:=1048577) (fun x hx=>bounds_u8 (hw.1.2 x hx)) (by omega)⟩
end Go.Sx
