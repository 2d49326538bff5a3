/- The abstract machine, part 3: a reflective interpreter of the program's code over data, with its soundness over the model. -/
import Derived.Test.YtbmealjpegdhiaaEng2
/- The abstract machine: a law's row: what comes in is data, and what the law returns is what its contract says. -/
namespace Go.Sx
open Go.ChangeShapes Go.WideShapes Go.ChangeAt Go.RowKit
set_option linter.unusedVariables false
set_option linter.unusedSimpArgs false

/-- data that fits its type -/
def Wfd : (t : Ty) → t.den → Prop
  | .int k, n => (Lit.int k n).wf = true
  | .bool, _ => True
  | .str, s => List.length s ≤ maxLen
  | .slice e, l => List.length l ≤ maxLen ∧ ∀ x, List.Mem x l → Wfd e x
  | .own _, _ => False
  | .prod a b, d => Wfd a d.1 ∧ Wfd b d.2

/-- how many values and letters it holds -/
def bulkd : (t : Ty) → t.den → Nat
  | .int _, _ => 1
  | .bool, _ => 1
  | .str, s => List.length s + 1
  | .slice e, l => (List.map (bulkd e) l).sum + 1
  | .own _, _ => 0
  | .prod a b, d => bulkd a d.1 + bulkd b d.2

structure Bulk {H : Type} (β : DataW H → Nat) : Prop where
  lit : ∀ l, 1 ≤ β (.lit l)
  str : ∀ s, s.length + 1 ≤ β (.lit (.string s))
  nil : 1 ≤ β .nil
  slice : ∀ es sp, (es.map β).sum + 1 ≤ β (.slice es sp)
  agg : ∀ ps, (ps.map β).sum ≤ β (.agg ps)

/-- the fields' types, in order from `off` on -/
def fldTys (T : Tab) : List (Nat × TypeId) → Nat → Option (List Ty)
  | [], _ => some []
  | (o, ft) :: fs, off => match look T ft with
    | some te => bif Nat.beq o off && te.plain then (fldTys T fs (off + te.ty.size)).map (te.ty :: ·) else none
    | none => none

def prodTy : List Ty → Ty
  | [] => .bool
  | [t] => t
  | t :: ts => .prod t (prodTy ts)

/-- may it come in? -/
def argOk (T : Tab) : Nat → TypeId → Bool
  | 0, _ => false
  | n + 1, t => match look T t with
    | some te => match te.shape with
      | .basic => match te.ty with
        | .int _ => true
        | .bool => true
        | .str => true
        | .slice _ => false
        | .own _ => false
        | .prod _ _ => false
      | .slice e => argOk T n e && (match look T e with | some te' => te'.plain | none => false)
      | .struct fs => fs.all (fun f => argOk T n f.2) && (match fldTys T fs 0 with
        | some (t :: ts) => decide (te.ty = prodTy (t :: ts))
        | _ => false)
      | .ptr _ => false
      | .arr _ _ => false
    | none => false

section
variable {P : Program} {T : Tab} {H : Type} {enc : TypeId × Value → H} {β : DataW H → Nat} {w : World}

theorem cellsOf_te {t : TypeId} {te : TE} (h : TEok P T t te) : P.cellsOf t = te.size := by
  obtain ⟨i, z, hi, hs, _⟩ := h.info
  unfold Program.cellsOf
  rw [hi]; exact hs

def ghostW (w : World) : GH := fun b o => w.cell? ⟨b, o, none⟩

theorem cells_get {b : Nat} {a : Addr} {n : Nat} {cs : List Value} (h : w.cells? b a n = some cs) : cs.length = n ∧ ∀ (j : Nat) (v : Value), cs[j]? = some v → w.cell? (a.add j) = some v := by
  unfold World.cells? at h
  split at h
  · refine ⟨by simpa using mapM_some_length h, fun j v hj => ?_⟩
    have hlt : j < n := by
      have := mapM_some_length h
      have h2 := (List.getElem?_eq_some_iff.1 hj).1
      simp at this; omega
    have := mapM_some_get h j j (by simp [hlt])
    rw [this]; exact hj
  · cases h

/-- elements laid end to end -/
theorem enc_list {e : Ty} {a : Addr} (n : Nat) (hn : 0 < n) : ∀ (k : Nat) (i0 : Nat) (el : Nat → Option (DataW H × List MemPlace)) (f : List Value → Option (DataW H × List MemPlace)),
    (∀ cs y, f cs = some y → ∃ d : e.den, Enc (ghostW w) e d cs ∧ Wfd e d ∧ bulkd e d ≤ β y.1) →
    (∀ i, i0 ≤ i → i < i0 + k → ∃ y cs, w.cells? 0 (a.add (i * n)) n = some cs ∧ f cs = some y ∧ el i = some y) →
    ∃ (l : List e.den) (cs : List Value), l.length = k ∧ EncL (Enc (ghostW w) e) l cs ∧ (∀ x ∈ l, Wfd e x) ∧ (∀ (j : Nat) (v : Value), cs[j]? = some v → w.cell? (a.add (i0 * n + j)) = some v) ∧
      cs.length = k * n ∧ (l.map (bulkd e)).sum ≤ ((List.range k).map fun i => match el (i0 + i) with | some y => β y.1 | none => 0).sum
  | 0, i0, el, f, hf, he => ⟨[], [], rfl, rfl, by simp, by simp, by simp, by simp⟩
  | k + 1, i0, el, f, hf, he => by
    obtain ⟨y, c1, h1, h2, h3⟩ := he i0 (Nat.le_refl _) (by omega)
    obtain ⟨d, hd1, hd2, hd3⟩ := hf _ _ h2
    obtain ⟨l, cs, g1, g2, g3, g4, g5, g6⟩ := enc_list n hn k (i0 + 1) el f hf (fun i hi1 hi2 => he i (by omega) (by omega))
    obtain ⟨hl, hg⟩ := cells_get h1
    refine ⟨d :: l, c1 ++ cs, by simp [g1], ⟨c1, cs, rfl, hd1, g2⟩, fun x hx => ?_, fun j v hj => ?_, ?_, ?_⟩
    · rcases List.mem_cons.1 hx with rfl | hx
      · exact hd2
      · exact g3 x hx
    · rw [List.getElem?_append] at hj
      split at hj
      · have := hg j v hj
        rw [Addr.add_add] at this
        exact this
      · rename_i hlt
        have := g4 _ v hj
        rw [hl] at this hlt
        have e : (i0 + 1) * n + (j - n) = i0 * n + j := by rw [Nat.add_mul]; omega
        rw [e] at this
        exact this
    · rw [List.length_append, hl, g5, Nat.add_mul]; omega
    · rw [List.range_succ_eq_map, List.map_cons, List.map_cons, List.sum_cons, List.sum_cons, List.map_map]
      simp only [Nat.add_zero, h3]
      have : ((fun i => match el (i0 + i) with | some y => β y.1 | none => 0) ∘ Nat.succ) = fun i => match el (i0 + 1 + i) with | some y => β y.1 | none => 0 := by
        funext i
        simp only [Function.comp, Nat.succ_eq_add_one]
        rw [show i0 + (i + 1) = i0 + 1 + i by omega]
      rw [this]
      omega

theorem sum_get {β' : DataW H × List MemPlace → Nat} (xs : List (DataW H × List MemPlace)) : ((List.range xs.length).map fun i => match xs[0 + i]? with | some y => β' y | none => 0).sum = (xs.map β').sum := by
  congr 1
  apply List.ext_getElem
  · simp
  · intro i h1 h2
    simp at h1
    simp [h1]

theorem prodTy_cons {t : Ty} {ts : List Ty} (h : ts ≠ []) : prodTy (t :: ts) = .prod t (prodTy ts) := by
  cases ts with
  | nil => exact absurd rfl h
  | cons _ _ => rfl

/-- fields laid end to end -/
theorem enc_fields (hT : TabOk P T) (hβ : Bulk β) (f : TypeId → List Value → Option (DataW H × List MemPlace)) {cs : List Value} : ∀ (fs : List (Nat × TypeId)) (off : Nat) (ts : List Ty) (ys : List (DataW H × List MemPlace)), ts ≠ [] → fldTys T fs off = some ts →
    (∀ fd ∈ fs, ∀ te cs y, look T fd.2 = some te → f fd.2 cs = some y → ∃ d : te.ty.den, Enc (ghostW w) te.ty d cs ∧ Wfd te.ty d ∧ bulkd te.ty d ≤ β y.1) →
    ys.length = fs.length → (∀ (i : Nat) (fd : Nat × TypeId), fs[i]? = some fd → f fd.2 ((cs.drop fd.1).take (P.cellsOf fd.2)) = ys[i]?) → cs.length = off + (prodTy ts).size →
    ∃ d : (prodTy ts).den, Enc (ghostW w) (prodTy ts) d (cs.drop off) ∧ Wfd (prodTy ts) d ∧ bulkd (prodTy ts) d ≤ (ys.map fun y => β y.1).sum
  | [], off, ts, ys, hne, hts, _, _, _, _ => by injection hts with hts; exact absurd hts.symm hne
  | (o, ft) :: fs, off, ts, ys, hne, hts, hf, hlen, hys, hcs => by
    cases ys with
    | nil => simp at hlen
    | cons y ys =>
      simp only [fldTys] at hts
      split at hts
      · rename_i te hl
        obtain ⟨hc, hts⟩ := bif_some hts
        simp only [Bool.and_eq_true] at hc
        have ho : o = off := by simpa using hc.1
        obtain ⟨ts', hts', rfl⟩ := Option.map_eq_some_iff.1 hts
        have hsz : P.cellsOf ft = te.ty.size := by rw [cellsOf_te (hT _ _ hl), plain_size hc.2]
        have h0 := hys 0 (o, ft) rfl
        simp only [List.getElem?_cons_zero, hsz, ho] at h0
        obtain ⟨d1, e1, e2, e3⟩ := hf (o, ft) (List.mem_cons_self ..) te _ y hl h0
        cases hfs : fs with
        | nil =>
          subst hfs
          simp only [fldTys] at hts'
          injection hts' with hts'; subst hts'
          have hys0 : ys = [] := by cases ys with
            | nil => rfl
            | cons _ _ => simp at hlen
          subst hys0
          have htk : (cs.drop off).take te.ty.size = cs.drop off := List.take_of_length_le (by rw [List.length_drop, hcs]; simp [prodTy])
          rw [htk] at e1
          exact ⟨d1, e1, e2, by rw [List.map_cons, List.map_nil, List.sum_cons, List.sum_nil, Nat.add_zero]; exact e3⟩
        | cons g gs =>
          have hne' : ts' ≠ [] := by
            rw [hfs] at hts'
            obtain ⟨o2, ft2⟩ := g
            simp only [fldTys] at hts'
            split at hts'
            · obtain ⟨_, hts'⟩ := bif_some hts'
              obtain ⟨x, _, rfl⟩ := Option.map_eq_some_iff.1 hts'
              simp
            · cases hts'
          have hpt := prodTy_cons (t := te.ty) hne'
          obtain ⟨d2, f1, f2, f3⟩ := enc_fields hT hβ f (cs := cs) fs (off + te.ty.size) ts' ys hne' hts' (fun fd hfd => hf fd (List.mem_cons_of_mem _ hfd)) (by simpa using hlen)
            (fun i fd hi => by have := hys (i + 1) fd (by simpa using hi); simpa using this) (by rw [hcs, hpt, Ty.size]; omega)
          rw [hpt]
          refine ⟨(d1, d2), ⟨_, _, ?_, e1, f1⟩, ⟨e2, f2⟩, ?_⟩
          · rw [← List.drop_drop]
            exact (List.take_append_drop _ _).symm
          · simp only [bulkd, List.map_cons, List.sum_cons]
            omega
      · cases hts

/-- what is read as data is data -/
theorem trod_enc (hT : TabOk P T) (hβ : Bulk β) : ∀ (n fuel : Nat) (t : TypeId) (te : TE) (cs : List Value) (x : DataW H × List MemPlace), argOk T n t = true → look T t = some te →
    DataW.trod enc P w 0 (fun _ => true) true fuel t cs = some x → ∃ d : te.ty.den, Enc (ghostW w) te.ty d cs ∧ Wfd te.ty d ∧ bulkd te.ty d ≤ β x.1
  | 0, _, _, _, _, _, h, _, _ => by cases h
  | n + 1, fuel, t, te, cs, x, h, hl, hx => by
    have hte := hT _ _ hl
    simp only [argOk, hl] at h
    obtain ⟨ty, agg, shape⟩ := te
    cases shape with
    | basic =>
      have hu := hte.und.2
      cases ty with
      | int k =>
        obtain ⟨m, rfl, rfl, hw⟩ := DataW.trod_int hu hx
        exact ⟨m, rfl, hw, hβ.lit _⟩
      | bool =>
        obtain ⟨b, rfl, rfl⟩ := DataW.trod_bool hu hx
        exact ⟨b, rfl, trivial, hβ.lit _⟩
      | str =>
        obtain ⟨s, rfl, rfl, hs⟩ := DataW.trod_string hu hx
        refine ⟨s.data.toList, by simp [Enc], ?_, hβ.str _⟩
        show s.data.toList.length ≤ maxLen
        rw [Array.length_toList]; exact hs
      | slice e => cases h
      | own e => cases h
      | prod a b => cases h
    | slice e =>
      simp only [Bool.and_eq_true] at h
      obtain ⟨ha, hu, te', hle, hty⟩ := hte.und
      simp only at hty
      subst hty
      have hp : te'.plain = true := by have := h.2; rw [hle] at this; exact this
      have hsz : P.cellsOf e = te'.ty.size := by rw [cellsOf_te (hT _ _ hle), plain_size hp]
      rcases DataW.trod_slice hu hx with ⟨rfl, rfl⟩ | ⟨a, len, cap, elems, rest, m, rfl, rfl, rfl, hb, hlc, hcm, hle2, hel, hsp, _⟩
      · exact ⟨([] : List te'.ty.den), ⟨_, rfl, .inl ⟨rfl, rfl⟩⟩, ⟨by simp, fun x hx => by cases hx⟩, by simpa [bulkd] using hβ.nil⟩
      · have key := enc_list (w := w) (β := β) (e := te'.ty) (a := a) te'.ty.size (size_pos _) len 0 (fun i => elems[i]?) (fun cs => DataW.trod enc P w 0 (fun _ => true) true m e cs)
          (fun cs y hy => trod_enc hT hβ n m e te' cs y h.1 hle hy) (fun i _ hi => by
            rw [Nat.zero_add] at hi
            have := hel i hi
            rw [hsz] at this
            have hlt : i < elems.length := by omega
            rw [List.getElem?_eq_getElem hlt] at this
            obtain ⟨cs, h1, h2⟩ := Option.bind_eq_some_iff.1 this
            exact ⟨elems[i], cs, h1, h2, List.getElem?_eq_getElem hlt⟩)
        obtain ⟨l, cs, g1, g2, g3, g4, g5, g6⟩ := key
        refine ⟨l, ⟨_, rfl, ?_⟩, ⟨by rw [g1]; omega, g3⟩, ?_⟩
        · by_cases h0 : len = 0
          · subst h0
            exact .inr (.inr ⟨a, cap, rfl, List.eq_nil_of_length_eq_zero g1⟩)
          · have hc0 : 0 < cs.length := by rw [g5]; exact Nat.mul_pos (by omega) (size_pos _)
            have hsp0 := g4 0 _ (List.getElem?_eq_getElem hc0)
            have hspot : a.spot = none := by
              rw [Nat.zero_mul, Nat.add_zero] at hsp0
              have := World.cell?_spot hsp0
              simpa [Addr.add] using this
            obtain ⟨b, off, spot⟩ := a
            subst hspot
            refine .inr (.inl ⟨b, off, cap, cs, by rw [g1], by rw [g1]; exact hlc, hcm, g2, fun j v hj => ?_⟩)
            have := g4 j v hj
            rw [Nat.zero_mul, Nat.zero_add, Addr_add] at this
            exact this
        · have h1 := hβ.slice (elems.map (·.1)) (rest.map (·.1))
          have h2 : ((List.range len).map fun i => match elems[0 + i]? with | some y => β y.1 | none => 0).sum = (elems.map fun y => β y.1).sum := by
            rw [← hle2]; exact sum_get elems
          rw [h2] at g6
          rw [List.map_map] at h1
          simp only [bulkd]
          have h3 : (List.map (β ∘ fun x => x.1) elems) = elems.map fun y => β y.1 := rfl
          rw [h3] at h1
          show (List.map (bulkd te'.ty) l).sum + 1 ≤ _
          omega
    | struct fs =>
      simp only [Bool.and_eq_true] at h
      obtain ⟨ha, fields, hu, hfs, hname, _⟩ := hte.und
      have h2 := h.2
      split at h2
      · rename_i t1 ts hft
        have hty : ty = prodTy (t1 :: ts) := of_decide_eq_true h2
        subst hty
        obtain ⟨xs, m, rfl, rfl, hcl, hxl, hxs⟩ := DataW.trod_struct hu hx
        have hsz : P.cellsOf t = (prodTy (t1 :: ts)).size := by rw [cellsOf_te hte]; rfl
        have key := enc_fields (w := w) (P := P) hT hβ (fun t cs => DataW.trod enc P w 0 (fun _ => true) true m t cs) (cs := cs) fs 0 (t1 :: ts) xs (by simp) hft
          (fun fd hfd te cs y hlf hy => trod_enc hT hβ n m fd.2 te cs y (List.all_eq_true.1 h.1 fd hfd) hlf hy) (by rw [hxl, ← hfs]; simp)
          (fun i fd hi => by
            rw [← hfs] at hi
            rw [List.getElem?_map] at hi
            obtain ⟨fl, hfl, he⟩ := Option.map_eq_some_iff.1 hi
            subst he
            exact hxs i fl (by simpa using hfl)) (by rw [hcl, hsz, Nat.zero_add])
        obtain ⟨d, g1, g2, g3⟩ := key
        rw [List.drop_zero] at g1
        refine ⟨d, g1, g2, Nat.le_trans g3 ?_⟩
        have := hβ.agg (xs.map (·.1))
        rw [List.map_map] at this
        exact this
      · cases h2
    | ptr e => cases h
    | arr m e => cases h

theorem enc_tyrel {G : GH} {w : World} : ∀ (t : Ty) (d : t.den) (vs : List Value), Enc G t d vs → TyRel G w t d vs []
  | .int _, _, _, h => ⟨rfl, h⟩
  | .bool, _, _, h => ⟨rfl, h⟩
  | .str, _, _, h => ⟨rfl, h⟩
  | .slice _, _, _, h => ⟨rfl, h⟩
  | .own _, _, _, h => h.elim
  | .prod a b, d, vs, ⟨c1, c2, he, h1, h2⟩ => ⟨c1, c2, [], [], he, rfl, enc_tyrel a _ _ h1, enc_tyrel b _ _ h2⟩

/-- the arguments of a law -/
def WfArgs : (ps : List PTy) → PDen ps → Prop
  | [], _ => True
  | .v t _ :: ps, d => Wfd t d.1 ∧ WfArgs ps d.2
  | .box _ :: _, _ => False
  | .mut _ :: _, _ => False
  | .clos _ _ :: _, _ => False
  | .kv _ _ :: _, _ => False

def bulkArgs : (ps : List PTy) → PDen ps → Nat
  | [], _ => 0
  | .v t _ :: ps, d => bulkd t d.1 + bulkArgs ps d.2
  | .box _ :: _, _ => 0
  | .mut _ :: _, _ => 0
  | .clos _ _ :: _, _ => 0
  | .kv _ _ :: _, _ => 0

def psOk (P : Program) (T : Tab) : List TypeId → List PTy → Bool
  | [], [] => true
  | t :: ts, p :: ps => (match p with
    | .v ty agg => (match look T t with | some te => decide (te.ty = ty) && (te.agg == agg) | none => false) && argOk T 20 t && P.readableRec t && Nat.blt t P.types.size && psOk P T ts ps
    | .box _ => false
    | .mut _ => false
    | .clos _ _ => false
    | .kv _ _ => false)
  | _, _ => false

theorem open_args (hT : TabOk P T) (hβ : Bulk β) : ∀ (ts : List TypeId) (ps : List PTy) (vs : List Value) (ds : List (DataW H)) (pl : List MemPlace), psOk P T ts ps = true → DataW.TrodAll enc P w 0 (fun _ => true) true ts vs ds pl →
    (∀ (j : Nat) (t : TypeId) (v : Value), ts[j]? = some t → vs[j]? = some v → ∃ base, Value.okWide P w .any base t v) →
    ∃ d : PDen ps, ArgsRel (ghostW w) w ps d vs [] [] ∧ WfArgs ps d ∧ bulkArgs ps d ≤ (ds.map β).sum
  | [], [], vs, ds, pl, _, h, _ => by
    obtain ⟨rfl, rfl, _⟩ := trodAll_nil h
    exact ⟨(), ⟨rfl, rfl, rfl⟩, trivial, by simp [bulkArgs]⟩
  | [], _ :: _, _, _, _, h, _, _ => by cases h
  | _ :: _, [], _, _, _, h, _, _ => by cases h
  | t :: ts, .box _ :: ps, _, _, _, h, _, _ => by cases h
  | t :: ts, .mut _ :: ps, _, _, _, h, _, _ => by cases h
  | t :: ts, .clos _ _ :: ps, _, _, _, h, _, _ => by cases h
  | t :: ts, .kv _ _ :: ps, _, _, _, h, _, _ => by cases h
  | t :: ts, .v ty agg :: ps, vs, ds, pl, hp, h, hval => by
    obtain ⟨v, vs', d, ds', p, q, rfl, rfl, rfl, h0, hr⟩ := trodAll_cons h
    simp only [psOk, Bool.and_eq_true] at hp
    obtain ⟨⟨⟨⟨h1, h2⟩, h3⟩, h4⟩, h5⟩ := hp
    split at h1
    · rename_i te hl
      simp only [Bool.and_eq_true] at h1
      have e1 : te.ty = ty := of_decide_eq_true h1.1
      have e2 : te.agg = agg := eq_of_beq h1.2
      subst e1 e2
      obtain ⟨fuel, hx⟩ := h0
      obtain ⟨x, hx1, hx2, hx3⟩ := trod_enc hT hβ 20 fuel t te _ (d, p) h2 hl hx
      obtain ⟨base, hok⟩ := hval 0 t v rfl rfl
      obtain ⟨dd, g1, g2, g3⟩ := open_args hT hβ ts ps vs' ds' q h5 hr (fun j t v hj hv => hval (j + 1) t v (by simpa using hj) (by simpa using hv))
      refine ⟨(x, dd), ⟨v, vs', [], [], rfl, rfl, ?_, g1⟩, ⟨hx2, g2⟩, ?_⟩
      · have hu := (hT _ _ hl).und
        unfold VRel
        obtain ⟨ty, ag, shape⟩ := te
        simp only at hx1 hx2 hx3 ⊢
        have hone : ∀ u : Value, u.cells = #[u] → u = v → v.cells.toList = [v] := fun u h e => by rw [← e, h]
        cases shape with
        | basic =>
          obtain ⟨ha, hu⟩ := hu
          simp only at ha; subst ha
          simp only [Bool.false_eq_true, if_false]
          have : v.cells.toList = [v] := by
            cases ty with
            | int k => obtain ⟨n, rfl⟩ := okWide_int hu hok; rfl
            | bool => obtain ⟨n, rfl⟩ := okWide_bool hu hok; rfl
            | str => obtain ⟨n, rfl⟩ := okWide_string hu hok; rfl
            | slice e => cases hu
            | own e => cases hu
            | prod a b => cases hu
          rw [this] at hx1
          exact enc_tyrel _ _ _ hx1
        | slice e =>
          obtain ⟨ha, hu, _⟩ := hu
          simp only at ha; subst ha
          simp only [Bool.false_eq_true, if_false]
          obtain ⟨a, l, c, rfl⟩ := okWide_slice hu hok
          exact enc_tyrel _ _ _ hx1
        | struct fs =>
          obtain ⟨ha, fields, hu, _⟩ := hu
          simp only at ha; subst ha
          simp only [if_true]
          obtain ⟨cs, rfl, _⟩ := okWide_struct hu hok
          exact ⟨cs.toList, by simp, enc_tyrel _ _ _ hx1⟩
        | ptr e => simp only [argOk, hl] at h2; cases h2
        | arr m e => simp only [argOk, hl] at h2; cases h2
      · have hx3 : bulkd te.ty x ≤ β d := hx3
        simp only [bulkArgs, List.map_cons, List.sum_cons]
        omega
    · cases h1

theorem args_len2 : ∀ (ts : List TypeId) (vs : List Value) (ds : List (DataW H)) (pl : List MemPlace), DataW.TrodAll enc P w 0 (fun _ => true) true ts vs ds pl → ds.length = ts.length
  | [], vs, ds, pl, h => by obtain ⟨_, rfl, _⟩ := trodAll_nil h; rfl
  | t :: ts, vs, ds, pl, h => by
    obtain ⟨v, vs', d, ds', p, q, rfl, rfl, rfl, h0, hr⟩ := trodAll_cons h
    simp [args_len2 ts vs' ds' q hr]

/-- the arguments read behind the call as they read before -/
theorem args_stay (hlaid : laidOutB P = true) {W W' : World} (hb : Below W.heap.size W W') {sp : Nat → Bool} : ∀ (ts : List TypeId) (ps : List PTy) (vs : List Value) (ds : List (DataW H)) (pl : List MemPlace), psOk P T ts ps = true →
    DataW.TrodAll enc P W 0 (fun _ => true) true ts vs ds pl → (∀ p ∈ pl, p.block < W.heap.size) → (∀ p ∈ pl, sp p.block = true) → DataW.TrodAll enc P W' 0 sp true ts vs ds pl
  | [], ps, vs, ds, pl, _, h, _, _ => by
    obtain ⟨rfl, rfl, rfl⟩ := trodAll_nil h
    exact trodAll_mk0
  | t :: ts, [], _, _, _, h, _, _, _ => by cases h
  | t :: ts, .box _ :: ps, _, _, _, h, _, _, _ => by cases h
  | t :: ts, .mut _ :: ps, _, _, _, h, _, _, _ => by cases h
  | t :: ts, .clos _ _ :: ps, _, _, _, h, _, _, _ => by cases h
  | t :: ts, .kv _ _ :: ps, _, _, _, h, _, _, _ => by cases h
  | t :: ts, .v ty agg :: ps, vs, ds, pl, hp, h, hlt, hsp => by
    obtain ⟨v, vs', d, ds', p, q, rfl, rfl, rfl, h0, hr⟩ := trodAll_cons h
    simp only [psOk, Bool.and_eq_true] at hp
    obtain ⟨⟨⟨⟨h1, h2⟩, h3⟩, h4⟩, h5⟩ := hp
    have hrow : t < P.types.size := by rw [Nat.blt_eq] at h4; exact h4
    exact ⟨p, q, WideElems.Trod_stays hlaid h3 hrow h0 (fun x hx => hb.same (hlt x (List.mem_append_left _ hx))) (fun x hx => hsp x (List.mem_append_left _ hx)),
      args_stay hlaid hb ts ps vs' ds' q h5 hr (fun x hx => hlt x (List.mem_append_right _ hx)) (fun x hx => hsp x (List.mem_append_right _ hx)), rfl⟩

theorem post_law {f : Func} {s : ChangeSpec} {apart fresh handsOn again : Bool} {W W' : World} {args : Array Value} {v : Value} {ds gs : List (DataW H)} {before pa pv : List MemPlace}
    (hW : DataW.Whole enc P f.params.toList s.vars apart W args.toList ds gs before)
    (hres : ∀ (b : Nat) (sp : Nat → Bool) (hd : Bool), DataW.TrodAll enc P W' b sp hd f.resultTypes.toList (v.resultList f.resultTypes.size) (s.fn H (ds ++ gs)).results [])
    (hargs : ∀ sp : Nat → Bool, (∀ p ∈ before, sp p.block = true) → DataW.TrodAll enc P W' 0 sp true f.params.toList args.toList (s.fn H (ds ++ gs)).args pa)
    (hvars : ∀ sp : Nat → Bool, (∀ p ∈ before, sp p.block = true) → DataW.TrodVars enc P W' sp s.vars (s.fn H (ds ++ gs)).vars pv)
    (hps : before = pa ++ pv) (hk : W.keptBut W' (· ∈ before)) (hfz : ∀ a, a.block < W.heap.size → W'.frozen? a = W.frozen? a)
    (hok : ∀ (j : Nat) (t : TypeId) (r : Value), f.resultTypes[j]? = some t → (v.resultList f.resultTypes.size)[j]? = some r → Value.okWide P W' .any 0 t r) :
    s.post enc P f apart fresh handsOn again W args v W' := by
  have hold : ∀ p ∈ before, (fun b => decide (b < W.heap.size)) p.block = true := fun p hp => by simpa using hW.lt p hp
  refine ⟨ds, gs, before, [], pa, pv, hW, hres _ _ _, hargs _ hold, hvars _ hold, World.keptBut_mono (fun p hp => ⟨hp, ?_⟩) hk, fun _ => ?_⟩
  · rw [hps, List.mem_append] at hp
    exact Or.inr hp
  · have hlt := hW.lt
    obtain ⟨_, _, _, _, _, hz, hn⟩ := hW
    refine ⟨hok, _, _, ([] ++ pa) ++ pv, ⟨[] ++ pa, pv, trodAll_append (hargs _ (fun _ _ => rfl)) (hres _ _ _), hvars _ (fun _ _ => rfl), rfl, ?_, ?_⟩, ?_⟩
    · intro b off hp
      have hp' : MemPlace.cell b off ∈ before := by rw [hps]; simpa using hp
      rw [hfz ⟨b, off, none⟩ (hlt _ hp')]
      exact hz b off hp'
    · intro ha
      have := hn ha
      rw [hps] at this
      simpa using this
    · intro p hp _
      rw [hps]
      simpa using hp

/-- THE LAW's CONTRACT: at every input that is data, the call returns true, and all reads as it did. -/
theorem law_row (hT : TabOk P T) (hlaid : laidOutB P = true) {f : Func} {k : FuncId} {s : ChangeSpec} (hsv : s.vars = []) (hs : ∀ ds : List (DataW H), ds.length = f.params.toList.length → s.fn H ds = { results := [.lit (.bool true)], args := ds })
    {ps : List PTy} (hps : psOk P T f.params.toList ps = true) {tb : TypeId} (hres : f.resultTypes = #[tb]) (htb : P.underlying tb = some .bool) {run : Nat → PDen ps → Option (ODen ps × RDen [.v .bool false])}
    (hgood : ∀ N, Good P k (Sig.of ps [.v .bool false] (run N))) (hβ : Bulk β) {ok : List (DataW H) → Prop} {M : Nat → Prop} (hbulk : ∀ ds m, ok ds → m ≤ (ds.map β).sum → M m)
    (hlaw : ∀ d : PDen ps, WfArgs ps d → M (bulkArgs ps d) → ∃ N o, run N d = some (o, (true, ()))) {apart fresh handsOn again : Bool}
    (W : World) (base : Nat) (args : Array Value) (ds gs : List (DataW H)) (before : List MemPlace)
    (hval : ∀ (j : Nat) t v, f.params[j]? = some t → args[j]? = some v → Value.okWide P W .any base t v)
    (hW : DataW.Whole enc P f.params.toList s.vars apart W args.toList ds gs before) (hk : ok ds) :
    Calls P k args W fun e W' => ∃ v, e = .returned v ∧ s.post enc P f apart fresh handsOn again W args v W' := by
  have hW' := hW
  have hlt := hW.lt
  obtain ⟨p, q, hA, hV, hpq, hfz, hnd⟩ := hW
  rw [hsv] at hV
  obtain ⟨hgs, hq⟩ := trodVars_none hV
  subst hgs hq
  rw [List.append_nil] at hpq
  subst hpq
  obtain ⟨d, h1, h2, h3⟩ := open_args (w := W) hT hβ f.params.toList ps args.toList ds before hps hA (fun j t v hj hv => ⟨base, hval j t v (by simpa using hj) (by simpa using hv)⟩)
  obtain ⟨N, o, ho⟩ := hlaw d h2 (hbulk ds _ hk h3)
  have hc := hgood N d (o, (true, ())) ho (ghostW W) W args.toList [] [] h1 (by simp [blks]) (by simp [blks]) (fun b o v hv => hv)
  have hargs : args.toList.toArray = args := by simp
  rw [hargs] at hc
  refine hc.mono fun e W' ⟨rv, ms, ns', G', he, ha⟩ => ?_
  have hb : Below W.heap.size W W' := ⟨ha.os, ha.tape, ha.output, ha.size, fun b hb => ha.frame b hb (by simp [blks])⟩
  obtain ⟨v, vs', n1, n2, e1, e2, e3, e4⟩ := ha.res
  obtain ⟨e5, _⟩ := e4
  subst e5
  have hv : v = .bool true := by
    unfold VRel at e3
    simp only [Bool.false_eq_true, if_false] at e3
    have := e3.2
    simpa [Enc] using this
  subst hv
  have hrv : resVal rv = .bool true := by rw [e1]; rfl
  rw [hrv] at he
  refine ⟨.bool true, he, ?_⟩
  have hlen := args_len2 _ _ _ _ hA
  have hsf := hs (ds ++ []) (by rw [List.append_nil]; exact hlen)
  refine post_law (pa := before) (pv := []) hW' ?_ ?_ ?_ (by simp) (hb.frame _) (fun a ha => hb.frozen ha) (ok_one hres rfl (okWide_bool_mk htb _))
  · intro b sp hd
    rw [hsf, hres]
    exact trodAll_cons_mk (shut_bool htb _) trodAll_mk0
  · intro sp hsp
    rw [hsf, List.append_nil]
    exact args_stay hlaid hb _ _ _ _ _ hps hA hlt hsp
  · intro sp hsp
    rw [hsf, hsv]
    rfl
end
end Go.Sx
