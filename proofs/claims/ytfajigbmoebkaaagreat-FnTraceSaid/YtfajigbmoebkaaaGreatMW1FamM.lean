/- Plain laws of the Lean functions. -/
import Derived.Test.YtfajigbmoebkaaaGreatMW1FamI

namespace Go.Sx
set_option linter.unusedVariables false
set_option linter.unusedSimpArgs false
def Wlb (c:Int) (v:List En) (r:Rw):List En:=match ent v r.1 with
 | some a=>v.set a.1 (r.1,r.2,c)
 | none=>v ++ [(r.1,r.2,c)]
theorem Wzq (c:Int) (v:List En) (r:Rw):(Wlb c v r).length ≤ v.length + 1:=by
 unfold Wlb
 split <;> simp
theorem apE {a b:En}:Ap cfE a b ↔ a.1 ≠ b.1:=by unfold Ap cfE; omega
theorem stepL_inv {c:Int} {L M:List En} {r:Rw} (hL:L.Pairwise (Ap cfE)) (hM:Ris cfE M) (hm:∀ x,x ∈ L ↔ x ∈ M) :
  (Wlb c L r).Pairwise (Ap cfE) ∧ Ris cfE (Wlh cfE M (r.1,r.2,c)) ∧ ∀ x,x ∈ Wlb c L r ↔ x ∈ Wlh cfE M (r.1,r.2,c):=by
 have key:(Wlb c L r).Pairwise (Ap cfE) ∧ ∀ x,x ∈ Wlb c L r ↔ x = (r.1,r.2,c) ∨ (x ∈ L ∧ Ap cfE x (r.1,r.2,c)):=by
  unfold Wlb ent
  cases he:fnd (fun e:En=>e.1 == r.1) L 0 with
  | some a =>
   obtain ⟨h1,h2,h3,h4⟩:=Wgj he
   simp only [Nat.zero_add,Nat.sub_zero] at h3 h4
   have h5:L[a.1] = a.2:=by rw [List.getElem?_eq_getElem h3] at h4; injection h4
   exact apart_set linE hL h3 (by rw [apE,h5]; simpa using h1)
  | none =>
   have:=Wpe he
   exact Wub hL fun x hx=>by rw [apE]; simpa using this x hx
 refine ⟨key.1,Wfl linE hM,fun x=>?_⟩
 rw [key.2 x,Wem linE hM,hm]
theorem mrg_inv {c:Int}:∀ {rows:List Rw} {L M:List En},L.Pairwise (Ap cfE) → Ris cfE M → (∀ x,x ∈ L ↔ x ∈ M) →
  (rows.foldl (Wlb c) L).Pairwise (Ap cfE) ∧ Ris cfE (Whs c M rows) ∧ ∀ x,x ∈ rows.foldl (Wlb c) L ↔ x ∈ Whs c M rows
 | [],_,_,hL,hM,hm=>⟨hL,hM,hm⟩
 | r :: rows,L,M,hL,hM,hm=>by
  obtain ⟨a,b,d⟩:=stepL_inv (c:=c) (r:=r) hL hM hm
  exact mrg_inv (rows:=rows) a b d
theorem Wxy {c:Int}:∀ (rows:List Rw) (L:List En),(rows.foldl (Wlb c) L).length ≤ L.length + rows.length
 | [],L=>by simp
 | r :: rows,L=>by
  have:=Wxy (c:=c) rows (Wlb c L r)
  have:=Wzq c L r
  rw [List.foldl_cons,List.length_cons]; omega
theorem Wjd {c:Int} {P:En → Prop}:∀ {rows:List Rw} {M:List En},Ris cfE M → (∀ x ∈ M,P x) → (∀ r ∈ rows,P (r.1,r.2,c)) → ∀ x ∈ Whs c M rows,P x
 | [],_,_,h,_=>h
 | r :: rows,M,hM,h,hr=>by
  refine Wjd (rows:=rows) (Wfl linE hM) (fun x hx=>?_) fun r' h'=>hr r' (List.mem_cons_of_mem _ h')
  rcases (Wem linE hM).1 hx with rfl | h'
  ·exact hr r (List.mem_cons_self ..)
  ·exact h x h'.1
theorem mrg0_run {R:Type} {N:Nat} {k4:Int} {b7 b8 b9:Int} {b10:Bool} {b11 b12 b13 b14 b15 b16:Int} {b17:Bool} {b18 b19 b20 b21:Int} {l22:List (Int × Int)} {l23:List Int} {l24:List (Int × Int)} {l26:List Int} {l27:List (Int × Int)} {l28:List Y_KidRun} {i29:Nat} {l30:List Int} {l31:List (Int × Int × Int)} {l32:List (Int × Int)} {l33:List (Int × Int × List Int)} {K0:Int → Bool → (List (Int × Int × Int)) → Option R} (hN:1048576 < N) (h22:l22.length ≤ 8) :
  ∀ (d j n:Nat) (v:List En),j + d = l22.length → d < n → v.length ≤ 100 + j →
  Zay N k4 (ilen l22) b7 b8 b9 b10 b11 b12 b13 b14 b15 b16 b17 b18 b19 b20 b21 l22 l23 l24 l26 l27 l28 i29 l30 l31 l32 l33 K0 n (j:Int) v = K0 (l22.length:Int) false ((l22.drop j).foldl (Wlb b8) v)
 | 0,j,n + 1,v,hj,hn,hv=>by
  have:j = l22.length:=by omega
  subst this
  simp only [Zay,Wbj (Nat.le_refl l22.length),cond_false,List.drop_length,List.foldl_nil]
 | d + 1,j,n + 1,v,hj,hn,hv=>by
  have hlt:j < l22.length:=by omega
  have hent:=Wli (N:=N) (f:=(b7,(b8,(b9,(b10,(l23,(l24,(v,(l26,(l27,List.set l28 i29 (b11,(b12,(b13,(b14,(b15,(b16,(l30,(l31,(l32,(l33,(b17,(b18,(b19,(b20,b21)))))))))))))))))))))))) (c:=l22[j].1) (by show v.length ≤ 1048576; omega) hN
  have hs:=Wzq b8 v l22[j]
  have hrec:∀ v',v' = Wlb b8 v l22[j] → Zay N k4 (ilen l22) b7 b8 b9 b10 b11 b12 b13 b14 b15 b16 b17 b18 b19 b20 b21 l22 l23 l24 l26 l27 l28 i29 l30 l31 l32 l33 K0 n ((j + 1:Nat):Int) v' = K0 (l22.length:Int) false ((l22.drop j).foldl (Wlb b8) v):=fun v' hv'=>by
   subst hv'
   rw [mrg0_run hN h22 d (j + 1) n _ (by omega) (by omega) (by omega),List.drop_eq_getElem_cons hlt,List.foldl_cons]
  simp only [Zay,Wq,Wba hlt,Wp hlt,Wu hlt,Wi (show j < 4611686018427387904 by omega),cond_true,hent,ret,Option.bind_some]
  have hd:ent v l22[j].1 = ent v l22[j].1:=rfl
  unfold Wlb at hrec
  cases he:ent v l22[j].1 with
  | some a =>
   rw [he] at hrec
   obtain ⟨h1,h2,h3,h4⟩:=Wgj he
   rw [Nat.zero_add] at h3
   simp only [decide_eq_true (show ((a.1:Int) ≥ 0) by omega),cond_true]
   rw [War,decide_eq_true h3]
   simp only [cond_true,Int.toNat_natCast]
   exact hrec _ rfl
  | none =>
   rw [he] at hrec
   simp only [show decide ((-1:Int) ≥ 0) = false from rfl,cond_false]
   rw [Ws (by simp; omega)]
   simp only [cond_true,List.append_eq]
   exact hrec _ rfl
 | _,_,0,_,_,h,_=>by omega
theorem Wvx {R:Type} {N:Nat} {k43 b46 b47 b48:Int} {b49:Bool} {b50 b51 b52 b53 b54 b55:Int} {b56:Bool} {b57 b58 b59 b60:Int} {l61:List (Int × Int × Int)} {l62:List Int} {l63:List (Int × Int)} {l64:List (Int × Int × Int)} {l65:List Int} {l67:List Y_KidRun} {i68:Nat} {l69:List Int} {l70:List (Int × Int)} {l71:List (Int × Int × List Int)} {K0:Int → Bool → (List (Int × Int)) → Option R} (h61:l61.length ≤ 1000) :
  ∀ (d j n:Nat) (v:List Rw),j + d = l61.length → d < n → v.length ≤ 1000 + j →
  Za6 N k43 (ilen l61) b46 b47 b48 b49 b50 b51 b52 b53 b54 b55 b56 b57 b58 b59 b60 l61 l62 l63 l64 l65 l67 i68 l69 l70 l71 K0 n (j:Int) v = K0 (l61.length:Int) false (v ++ Wcm (l61.drop j))
 | 0,j,n + 1,v,hj,hn,hv=>by
  have:j = l61.length:=by omega
  subst this
  simp only [Za6,Wbj (Nat.le_refl l61.length),cond_false,List.drop_length,Wcm,List.filter_nil,List.map_nil,List.append_nil]
 | d + 1,j,n + 1,v,hj,hn,hv=>by
  have hlt:j < l61.length:=by omega
  have he:Wcm (l61.drop j) = if l61[j].2.2 = -1 then (l61[j].1,l61[j].2.1) :: Wcm (l61.drop (j + 1)) else Wcm (l61.drop (j + 1)):=by
   rw [List.drop_eq_getElem_cons hlt]
   unfold Wcm
   rw [List.filter_cons]
   by_cases h:l61[j].2.2 = -1
   ·rw [if_pos h,if_pos (decide_eq_true h)]; rfl
   ·rw [if_neg h,if_neg (by simpa using h)]
  simp only [Za6,Wq,Wba hlt,Wp hlt,Wu hlt,Wi (show j < 4611686018427387904 by omega),cond_true,Ww]
  rw [he]
  by_cases h:l61[j].2.2 = -1
  ·rw [if_pos h,if_pos h,Ws (by simp; omega)]
   simp only [cond_true]
   rw [Wvx h61 d (j + 1) n _ (by omega) (by omega) (by simp; omega)]
   simp
  ·rw [if_neg h,if_neg h]
   rw [Wvx h61 d (j + 1) n _ (by omega) (by omega) (by omega)]
 | _,_,0,_,_,h,_=>by omega
variable {N:Nat} {codes:List (List Opn)} {n:Int} {f:Fm} {k:Nat} {code:List Opn} {m:Mm} {x:Kd}
theorem ris_ap {l:List En} (h:Ris cfE l):l.Pairwise (Ap cfE):=h.imp fun h=>.inl h
theorem Wve (hk:k < f.kids.length) (h3:f.kids.length ≤ 3) (hl24:code.length ≤ 24) (hF:FOk codes n f) (hcode:codes.getD k [] = code) (hxe:f.kids[k] = x) (hN:1048576 < N) :
  Zbr N f.e (k:Int) = some (((Fm.put (kMerge f x k) k).e,()),()):=by
 have hx:=hF.kid k hk
 rw [hcode,hxe] at hx
 obtain ⟨f0,f1,f2,f3,f4,f5,f6,f7,f8,f9⟩:=fmP f
 have hpc:=hx.pc
 have hwl:=hx.wl
 have hsl:=hx.sl
 have hb8:=hF.buf8
 have hord:f.order.length ≤ 3:=by
  have h1:=hF.done
  have:=List.countP_le_length (p:=fun x:Kd=>decide (x.phase = 3)) (l:=f.kids)
  omega
 have hrd:=hF.readsL
 have e2:List.getD (f.kids.map Kd.e) (Int.toNat (k:Int)) d_KidRun = x.e:=by
  have:=Wjj Kd.e f.kids k {}
  rw [Wm hk,hxe] at this
  exact this
 unfold Zbr
 simp only [f9,List.length_map]
 rw [War,decide_eq_true hk]
 simp only [cond_true,e2]
 have en:Zd1 N x.e.2.2.2.2.2.2.2.2.1 = ret (netR x.writes):=Whf (show x.writes.length ≤ 1048576 by omega) hN
 rw [en]
 simp only [ret,Option.bind_some]
 have hnl:=Wlz x.writes
 rw [show (0:Int) = ((0:Nat):Int) from rfl]
 rw [mrg0_run (l22:=netR x.writes) hN hnl (netR x.writes).length 0 N _ (by omega) (by omega) (by show f.buf.length ≤ _; omega)]
 simp only [List.drop_zero]
 have hP6:P6 f.e = f.buf:=rfl
 have hcl:iadd .i64 f.e.2.1 1 = f.clock + 1:=Wez (by have:=hF.clock; show 0 ≤ f.clock ∧ _; omega)
 rw [hP6,hcl]
 obtain ⟨i1,i2,i3⟩:=mrg_inv (c:=f.clock + 1) (rows:=netR x.writes) (ris_ap hF.bufR) hF.bufR (fun x=>Iff.rfl)
 unfold Zam
 have hfl:=Wxy (c:=f.clock + 1) (netR x.writes) f.buf
 rw [sort_run (rng:=rngE) (N:=N) linE i2 i1 i3 (fun e he=>?_) (by omega)]
 ·simp only [Option.bind_some]
  have hP7:P7 x.e = x.seen:=rfl
  rw [show (Kd.e x).2.2.2.2.2.2.2.1 = x.seen from rfl]
  rw [Wvx (l61:=x.seen) (by omega) x.seen.length 0 N _ (by omega) (by omega) (by show f.reads.length ≤ _; omega)]
  rw [Ws (by show f.order.length + 1 ≤ _; omega)]
  simp only [cond_true,List.drop_zero]
  have hU:∀ (g:Fm) (y:Kd),U6 (List.set (f.kids.map Kd.e) k y.e) (S5 (f.reads ++ Wcm x.seen) (S4 (f.order ++ [(k:Int)]) (S3 (Whs (f.clock + 1) f.buf (netR x.writes)) f.e.2.2.2))) = (f.lost,f.regs,f.start,Whs (f.clock + 1) f.buf (netR x.writes),f.order ++ [(k:Int)],f.reads ++ Wcm x.seen,(f.kids.set k y).map Kd.e):=fun g y=>by
   rw [List.map_set]; rfl
  rw [Int.toNat_natCast]
  exact congrArg (fun z=>some (((f.rv,(f.clock + 1,((0:Int),z))),()),())) (hU f { x with phase:=3,pos:=0,marks:=[] })
 ·have h1:=(i3 e).1 he
  have:=Wjd (P:=fun e=>0 ≤ e.1 ∧ e.1 ≤ 7) hF.bufR (fun e he=>(hF.bufE e he).1) (fun r hr=>(mem_netR.1 hr).1) e h1
  unfold rngE rngI
  simp; omega
theorem Wyw (hk:k < f.kids.length) (hF:FOk codes n f) (hx:KOk code f.clock n x) (hxe:f.kids[k] = x) (hn:n ≤ 100000) (o:Int) :
  Zbg N (Fm.e { f with owner:=o }) (k:Int) = some (((Fm.put ({ f with owner:=o },f.again x) k).e,()),()):=by
 have h:=Wja (N:=N) (f:=Fm.e { f with owner:=o }) (k:=k) (x:=x.e) (by show k < (f.kids.map Kd.e).length; simpa using hk) hF.regs.len (by have:=hx.tries; show 0 ≤ x.tries ∧ x.tries ≤ 100000; omega)
 have e3:U9 (List.set (Q9 (Fm.e { f with owner:=o })) k x.e) (Fm.e { f with owner:=o }) = Fm.e { f with owner:=o }:=by
  have:=U9e { f with owner:=o } k x
  rw [← hxe] at this
  simp only [List.set_getElem_self] at this
  rw [← hxe]
  exact this
 rw [e3] at h
 rw [h]
 exact congrArg (fun z=>some ((z,()),())) (U9e { f with owner:=o } k (f.again x))
theorem Wuj (hk:k < f.kids.length) (h3:f.kids.length ≤ 3) (hm:Wbi m = true) (hkc:KC code) (hF:FOk codes n f) (hcode:codes.getD k [] = code) (hn:n ≤ 100000) (hN:1048576 < N) :
  Zif N f.e (k:Int) code m = some (((fStep m f k code).e,()),()):=by
 obtain ⟨x,hxe⟩:∃ x,f.kids[k] = x:=⟨_,rfl⟩
 have hx:=hF.kid k hk
 rw [hcode,hxe] at hx
 obtain ⟨f0,f1,f2,f3,f4,f5,f6,f7,f8,f9⟩:=fmP f
 obtain ⟨k0,k1,k2,k3,k4,k5,k6,k7,k8,k9,k10⟩:=kdP x
 have hsl:=hx.sl
 have hpc:=hx.pc
 have hl24:=hkc.len
 have e2:List.getD (f.kids.map Kd.e) (Int.toNat (k:Int)) d_KidRun = x.e:=by
  have:=Wjj Kd.e f.kids k {}
  rw [Wm hk,hxe] at this
  exact this
 have e3:U9 (List.set (f.kids.map Kd.e) (Int.toNat (k:Int)) x.e) f.e = f.e:=by
  rw [Int.toNat_natCast,U9e,← hxe,List.set_getElem_self]
 have e4:Fm.put (f,x) k = f:=by unfold Fm.put; simp only; rw [← hxe,List.set_getElem_self]
 unfold Zif fStep kStep
 simp only [Wq,f9,f3,List.length_map]
 rw [Wpd]
 by_cases hlost:f.lost = true
 ·rw [if_pos hlost,if_pos hlost]
 rw [if_neg hlost,if_neg hlost]
 rw [War,decide_eq_true hk]
 simp only [cond_true,cond_false,e2,e3,k0,k4,k7,f2,Ww,Wm hk,hxe]
 by_cases h0:x.phase = 0
 ·rw [if_pos h0,if_pos h0,implRun_run hk hm hkc hF hcode hxe h0 hn hN]
  rfl
 ·rw [if_neg h0,if_neg h0]
  by_cases h1:x.phase = 1
  ·rw [if_pos h1,if_pos h1]
   by_cases ho:f.owner = 0
   ·rw [if_pos ho,if_pos ho,Wez (by omega),Int.toNat_natCast]
    exact fin9 rfl rfl rfl
   ·rw [if_neg ho,if_neg ho,e4]
  ·rw [if_neg h1,if_neg h1]
   by_cases h2:x.phase = 2
   ·rw [if_pos h2,if_pos h2]
    unfold ilen
    by_cases hp:x.pos = (x.seen.length:Int)
    ·rw [if_pos hp,if_pos hp,Wve hk h3 hl24 hF hcode hxe hN]
     rfl
    ·rw [if_neg hp,if_neg hp]
     have hpos:=hx.pos
     have hin:inb x.pos x.seen.length = true:=by unfold inb; simp; omega
     rw [hin]
     have hg:List.getD x.seen (Int.toNat x.pos) ((0,0,0):En) = getI x.seen x.pos (0,0,0):=rfl
     simp only [cond_true,hg]
     have hent:=Wli (N:=N) (f:=f.e) (c:=(getI x.seen x.pos (0,0,0)).1) (by show f.buf.length ≤ 1048576; have:=hF.buf8; omega) hN
     rw [show f.e.2.2.2.2.2.2.1 = f.buf from rfl] at hent
     rw [hent]
     simp only [ret,Option.bind_some,f6]
     have hsz:S2 (0:Int) f.e = Fm.e { f with owner:=0 }:=rfl
     have hrest:Zbg N (U9 (List.set (f.kids.map Kd.e) (Int.toNat (k:Int)) x.e) (S2 0 f.e)) (k:Int) = some (((Fm.put ({ f with owner:=0 },f.again x) k).e,()),()):=by
      rw [hsz]
      have h:=U9e { f with owner:=0 } k x
      rw [Int.toNat_natCast]
      rw [show (U9 (List.set (f.kids.map Kd.e) k x.e) (Fm.e { f with owner:=0 })) = Fm.e { f with owner:=0 } by
       rw [h,← hxe]; simp only [List.set_getElem_self]]
      exact Wyw hk hF hx hxe hn 0
     unfold entV
     have hiadd:iadd .i64 x.pos 1 = x.pos + 1:=Wez (by omega)
     rw [hiadd]
     cases he:ent f.buf (getI x.seen x.pos (0,0,0)).1 with
     | some a =>
      obtain ⟨g1,g2,g3,g4⟩:=Wgj he
      rw [Nat.zero_add] at g3
      rw [Nat.sub_zero,List.getElem?_eq_getElem g3] at g4
      injection g4 with g4
      simp only [decide_eq_true (show ((a.1:Int) ≥ 0) by omega),cond_true]
      rw [War,decide_eq_true g3]
      simp only [cond_true,Wu g3,g4]
      by_cases hv:a.2.2.2 = (getI x.seen x.pos (0,0,0)).2.2
      ·rw [if_pos hv,if_pos hv,Int.toNat_natCast]
       exact fin9 rfl rfl rfl
      ·rw [if_neg hv,if_neg hv,hrest]
       rfl
     | none =>
      simp only [show decide ((-1:Int) ≥ 0) = false from rfl,cond_false]
      by_cases hv:(-1:Int) = (getI x.seen x.pos (0,0,0)).2.2
      ·rw [if_pos hv,if_pos hv,Int.toNat_natCast]
       exact fin9 rfl rfl rfl
      ·rw [if_neg hv,if_neg hv,hrest]
       rfl
   ·rw [if_neg h2,if_neg h2,e4]
end Go.Sx
