/- The library's sorts, by the shelf's contracts. -/
import Derived.Test.YtceijnpnofmkkaaGreatM3
import Derived.Shelf.SlSortCmp.NoneTotal
import Derived.Shelf.SortM.Plain
import Derived.Shelf.SortM.SortNone
import Derived.Shelf.SlGeneric
import Derived.Test.YtceijnpnofmkkaaGreatProg
/- The abstract machine: the library's sort of integers, by the shelf's contract. -/
namespace Go.Sx
set_option linter.unusedVariables false
set_option linter.unusedSimpArgs false

section
variable {α : Type} [Inhabited α] {enc : α → Value} {w : World} {b off n : Nat} {d : Array α} {os : Array Obj}

theorem sort_at {vs : Array Value} {T : TypeId} {fr : Nat × Nat} (hb : w.heap[b]? = some (.cells vs T fr)) :
    (Sort.grow (Sort.putRow enc (Sort.ahead w n) b off d) os).heap[b]? = some (.cells (Sort.putCells enc off d vs) T fr) := by
  have hg : b < w.heap.size := (Array.getElem?_eq_some_iff.1 hb).1
  rw [Sort.heap_grow_old _ _ (by simpa [Sort.putRow, Sort.mapBlock, Sort.ahead] using hg)]
  simp [Sort.putRow, Sort.mapBlock, Sort.ahead, Array.getElem?_modify, hb, Sort.onCells]

theorem sort_off {k : Nat} (hk : k < w.heap.size) (hne : k ≠ b) : (Sort.grow (Sort.putRow enc (Sort.ahead w n) b off d) os).heap[k]? = w.heap[k]? := by
  rw [Sort.heap_grow_old _ _ (by simpa [Sort.putRow, Sort.mapBlock, Sort.ahead] using hk)]
  have : b ≠ k := fun h => hne h.symm
  simp [Sort.putRow, Sort.mapBlock, Sort.ahead, Array.getElem?_modify, this]

theorem sort_size : w.heap.size ≤ (Sort.grow (Sort.putRow enc (Sort.ahead w n) b off d) os).heap.size := by
  rw [Sort.size_grow]
  simp [Sort.putRow, Sort.mapBlock, Sort.ahead]

theorem sort_cells {vs : Array Value} (k : Nat) : (Sort.putCells enc off d vs)[k]? = if off ≤ k ∧ k < off + d.size ∧ k < vs.size then some (enc d[k - off]!) else vs[k]? := by
  unfold Sort.putCells
  by_cases h : k < vs.size
  · by_cases h2 : off ≤ k ∧ k < off + d.size
    · simp [h, h2]
    · have : ¬ (off ≤ k ∧ k < off + d.size ∧ k < vs.size) := fun h3 => h2 ⟨h3.1, h3.2.1⟩
      rw [if_neg this]
      simp [h, h2]
  · have : ¬ (off ≤ k ∧ k < off + d.size ∧ k < vs.size) := fun h3 => h h3.2.2
    rw [if_neg this]
    simp [h]

theorem sort_wle {vs : Array Value} {T : TypeId} {fr : Nat × Nat} {F : CS} (hb : w.heap[b]? = some (.cells vs T fr)) (hF : ∀ o, off ≤ o → o < off + d.size → F b o) :
    WLe F w (Sort.grow (Sort.putRow enc (Sort.ahead w n) b off d) os) where
  size := sort_size
  row := fun k us S hk => by
    have hlt : k < w.heap.size := (Array.getElem?_eq_some_iff.1 hk).1
    by_cases h : k = b
    · subst h
      rw [hb] at hk
      injection hk with hk
      injection hk with h1 h2 h3
      subst h1 h2 h3
      exact ⟨_, sort_at hb, by simp [Sort.putCells]⟩
    · exact ⟨us, by rw [sort_off hlt h]; exact hk, rfl⟩
  cell := fun k o hlt hn => by
    by_cases h : k = b
    · subst h
      unfold World.cell?
      rw [sort_at hb, hb]
      simp only [Option.isSome_none, Bool.false_eq_true, if_false]
      rw [sort_cells, if_neg fun h => hn (hF o h.1 h.2.1)]
    · unfold World.cell?
      simp only []
      rw [sort_off hlt h]
  whole := fun k hlt hn => by
    by_cases h : k = b
    · subst h
      rw [sort_at hb, hb]
      have hz : d.size = 0 := by
        rcases Nat.eq_zero_or_pos d.size with h0 | h0
        · exact h0
        · exact absurd (hF off (Nat.le_refl _) (by omega)) (hn off)
      congr 2
      apply Array.ext_getElem?
      intro j
      rw [sort_cells, if_neg (by omega)]
    · exact sort_off hlt h
  os := rfl
  output := rfl
  tape := rfl

theorem sort_mem {vs : Array Value} {T : TypeId} {fr : Nat × Nat} {xs : List α} (hb : w.heap[b]? = some (.cells vs T fr)) (hlen : off + xs.length ≤ vs.size) :
    Mem (Sort.grow (Sort.putRow enc (Sort.ahead w n) b off xs.toArray) os) b off (xs.map enc) := by
  intro j v hj
  unfold World.cell?
  rw [sort_at hb]
  simp only [Option.isSome_none, Bool.false_eq_true, if_false]
  rw [List.getElem?_map] at hj
  have hjl : j < xs.length := by
    rcases Nat.lt_or_ge j xs.length with h | h
    · exact h
    · rw [List.getElem?_eq_none h] at hj; cases hj
  rw [sort_cells, if_pos ⟨by omega, by simp only [List.size_toArray]; omega, by omega⟩]
  rw [List.getElem?_eq_getElem hjl] at hj
  simp only [Option.map_some] at hj
  rw [← hj, Nat.add_sub_cancel_left]
  simp [hjl]
end

theorem encP_ints {G : GH} {w : World} : ∀ (xs : List Int) (cs : List Value) (ps : List Pc), EncP (TyRel G w (.int .i64)) xs cs ps ↔ (cs = xs.map (Value.int .i64) ∧ ps = [])
  | [], cs, ps => by simp [EncP]
  | x :: xs, cs, ps => by
    constructor
    · rintro ⟨c1, c2, p1, p2, rfl, rfl, ⟨h1, h2⟩, h3⟩
      obtain ⟨rfl, rfl⟩ := (encP_ints xs c2 p2).1 h3
      subst h1
      simp only [Enc] at h2
      subst h2
      exact ⟨rfl, rfl⟩
    · rintro ⟨rfl, rfl⟩
      exact ⟨[.int .i64 x], xs.map (Value.int .i64), [], [], rfl, rfl, ⟨rfl, rfl⟩, (encP_ints xs _ _).2 ⟨rfl, rfl⟩⟩

theorem good_sortInt {P : Program} {k : FuncId} (N : Nat)
    (hsome : ∀ (blk off cap : Nat) (zs : List Int) (w : World), Sort.Holds (Value.int .i64) w blk off zs.toArray → blk < w.heap.size → zs.length < 4611686018427387904 →
      Calls P k #[.slice (some ⟨blk, off, none⟩) zs.length cap] w fun e w' => e = .returned (.tuple #[]) ∧ ∃ n os, w' = Sort.grow (Sort.putRow (Value.int .i64) (Sort.ahead w n) blk off (zs.mergeSort fun x y => decide (x ≤ y)).toArray) os)
    (hnone : ∀ (p : Option Addr) (cap : Nat) (w : World), Calls P k #[.slice p 0 cap] w fun e w' => e = .returned (.tuple #[]) ∧ w' = w) :
    Good P k (Sig.of [.mut (.int .i64)] [] (fun d => Zor N d.1)) := by
  intro d o hrun G w vs ns ks hargs hsep hfree hg
  obtain ⟨xs, u⟩ := d
  change List Int at xs
  obtain ⟨hlt, rfl⟩ := sortInt_some (N := N) (xs := xs) hrun
  obtain ⟨pc, vs', n2, ks', rfl, rfl, rfl, hown, h2⟩ := hargs
  obtain ⟨rfl, rfl, rfl⟩ := h2
  have hown' : OwnL (α := Int) w (TyRel G w (.int .i64)) 1 pc.nu xs pc.fp := hown
  obtain ⟨h1, h3, h4⟩ := hown'
  have hsl : (sortInts xs).length = xs.length := by unfold sortInts; exact List.length_mergeSort _
  cases hb : pc.nu.blk with
  | none =>
    rw [hb] at h4
    simp only [] at h4
    subst h4
    have he : pc.nu.hdr = .slice none 0 0 := by unfold Nu.hdr; rw [hb]
    rw [he]
    refine (hnone none 0 w).mono ?_
    rintro e w' ⟨rfl, rfl⟩
    have ho : OwnL (α := Int) w' (TyRel G w' (.int .i64)) 1 pc.nu (sortInts []) pc.fp := ⟨by rw [hsl]; exact h1, h3, by rw [hb]; exact List.eq_nil_of_length_eq_zero hsl⟩
    refine ⟨[], [pc.fp], [], [], G, rfl, ?_⟩
    exact {
      res := ⟨rfl, rfl⟩
      outs := ⟨pc, [], [], rfl, rfl, ho, rfl, rfl, rfl⟩
      sep := by simpa [fps] using hsep
      own := fun S hS b o hS' => by
        have : S = pc.fp := by simpa [fps] using hS
        subst this
        exact ⟨(hfree pc (by simp) b o hS').1, .inl ⟨pc, by simp, hS'⟩, (hfree pc (by simp) b o hS').2⟩
      gx := ⟨fun _ _ _ h => h, fun _ _ _ h => .inl h⟩
      g := hg
      le := { size := Nat.le_refl _, row := fun _ vs _ h => ⟨vs, h, rfl⟩, cell := fun _ _ _ _ => rfl, whole := fun _ _ _ => rfl, os := rfl, output := rfl, tape := rfl } }
  | some b =>
    rw [hb] at h4
    simp only [] at h4
    obtain ⟨h5, h6, ⟨us, T, hrow, hsz⟩, cs, ps, henc, hmem, hse, hle⟩ := h4
    obtain ⟨rfl, rfl⟩ := (encP_ints xs cs ps).1 henc
    have he : pc.nu.hdr = .slice (some ⟨b, pc.nu.off, none⟩) xs.length pc.nu.cap := by unfold Nu.hdr; rw [hb, h1]
    rw [he]
    have hblt : b < w.heap.size := (Array.getElem?_eq_some_iff.1 hrow).1
    have hH : Sort.Holds (Value.int .i64) w b pc.nu.off xs.toArray := by
      intro j hj
      have hj' : j < xs.length := hj
      refine ⟨?_, by simp [World.frozen?, hrow]⟩
      rw [hmem j (Value.int .i64 xs[j]) (by simp [hj'])]
      simp [hj']
    refine (hsome b pc.nu.off pc.nu.cap xs w hH hblt hlt).mono ?_
    rintro e w' ⟨rfl, m, os, rfl⟩
    have hsz' : pc.nu.off + (sortInts xs).length ≤ us.size := by rw [hsl]; have := hsz; simp [Ty.size] at this; omega
    have hfp : ∀ o, pc.nu.off ≤ o → o < pc.nu.off + xs.length → pc.fp b o := fun o ha hb' =>
      hle (rng b pc.nu.off (pc.nu.cap * 1)) (List.mem_cons_self ..) b o ⟨rfl, ha, by omega⟩
    have hw : WLe (Of [pc]) w (Sort.grow (Sort.putRow (Value.int .i64) (Sort.ahead w m) b pc.nu.off (sortInts xs).toArray) os) := sort_wle hrow fun o ha hb' => ⟨pc, by simp, hfp o ha (by simpa [hsl] using hb')⟩
    have ho : OwnL (α := Int) (Sort.grow (Sort.putRow (Value.int .i64) (Sort.ahead w m) b pc.nu.off (sortInts xs).toArray) os) (TyRel G (Sort.grow (Sort.putRow (Value.int .i64) (Sort.ahead w m) b pc.nu.off (sortInts xs).toArray) os) (.int .i64)) 1 pc.nu (sortInts xs) pc.fp := by
      refine ⟨by rw [hsl]; exact h1, h3, ?_⟩
      rw [hb]
      exact ⟨by rw [hsl]; exact h5, h6, ⟨_, T, sort_at hrow, by simpa [Sort.putCells] using hsz⟩, _, _, (encP_ints _ _ _).2 ⟨rfl, rfl⟩, sort_mem hrow hsz', hse, hle⟩
    refine ⟨[], [pc.fp], [], [], G, rfl, ?_⟩
    exact {
      res := ⟨rfl, rfl⟩
      outs := ⟨pc, [], [], rfl, rfl, ho, rfl, rfl, rfl⟩
      sep := by simpa [fps] using hsep
      own := fun S hS b' o hS' => by
        have : S = pc.fp := by simpa [fps] using hS
        subst this
        exact ⟨(hfree pc (by simp) b' o hS').1, .inl ⟨pc, by simp, hS'⟩, Nat.lt_of_lt_of_le (hfree pc (by simp) b' o hS').2 hw.size⟩
      gx := ⟨fun _ _ _ h => h, fun _ _ _ h => .inl h⟩
      g := fun b' o v hv => by
        have hc := hg b' o v hv
        have hbl : b' < w.heap.size := by
          unfold World.cell? at hc
          simp only [] at hc
          rcases Nat.lt_or_ge b' w.heap.size with h | h
          · exact h
          · rw [Array.getElem?_eq_none h] at hc; cases hc
        exact (hw.cell b' o hbl fun ⟨q, hq, hf⟩ => by
          have : q = pc := by simpa using hq
          subst this
          have := (hfree q (by simp) b' o hf).1
          rw [hv] at this; cases this).trans hc
      le := hw }

theorem good_sortL {P : Program} {ρ : Go.Shelf.Ren} (L : Go.Proofs.SlLaysM.n5 P ρ) (N : Nat) : Good P (ρ.f 5) (Sig.of [.mut (.int .i64)] [] (fun d => Zor N d.1)) :=
  good_sortInt N (fun blk off cap zs w hH hb hs => Go.Proofs.AnyM.slices_Sort_int L blk off cap zs w hH hb hs) (fun p cap w => Go.Proofs.AnyM.slices_Sort_int_none L p cap w)

end Go.Sx

/- The abstract machine: the library's sort by a function, by the shelf's contract. -/
namespace Go.Sx
open Go.Proofs
set_option linter.unusedVariables false
set_option linter.unusedSimpArgs false

theorem flatMap_get {α : Type} [Inhabited α] {enc : α → List Value} {k : Nat} (hk : ∀ x, (enc x).length = k) : ∀ (l : List α) (t : Nat), t < l.length * k → (l.flatMap enc)[t]? = (enc (l.toArray[t / k]!))[t % k]?
  | [], t, h => by simp at h
  | x :: l, t, h => by
    have k0 : 0 < k := by rcases Nat.eq_zero_or_pos k with h0 | h0; · subst h0; simp at h
                          · exact h0
    rw [List.flatMap_cons]
    by_cases ht : t < k
    · rw [List.getElem?_append_left (by rw [hk]; exact ht), Nat.div_eq_of_lt ht, Nat.mod_eq_of_lt ht]
      rfl
    · have e1 : t / k = (t - k) / k + 1 := by rw [← Nat.add_div_right _ k0]; congr 1; omega
      have e2 : t % k = (t - k) % k := by rw [Nat.mod_eq_sub_mod (by omega)]
      rw [List.getElem?_append_right (by rw [hk]; omega), hk, flatMap_get hk l (t - k) (by rw [List.length_cons, Nat.succ_mul] at h; omega), e1, e2]
      simp

theorem flatK_list {α : Type} [Inhabited α] {enc : α → List Value} {k : Nat} (hk : ∀ x, (enc x).length = k) (d : Array α) : (Sort.flatK enc k d).toList = d.toList.flatMap enc := by
  have hl : (d.toList.flatMap enc).length = d.size * k := by
    rw [List.length_flatMap]
    have : (d.toList.map fun a => (enc a).length) = List.replicate d.size k := by
      rw [List.eq_replicate_iff]
      simp [hk]
    rw [this]; clear this; induction d.size with
    | zero => simp
    | succ n ih => rw [List.replicate_succ, List.sum_cons, ih, Nat.succ_mul]; omega
  apply List.ext_getElem?
  intro t
  by_cases ht : t < d.size * k
  · rw [flatMap_get hk d.toList t (by simpa using ht)]
    have hs : t < (Sort.flatK enc k d).size := by simpa using ht
    have hg := Sort.get_flatK enc k d t ht
    rw [getElem!_pos (Sort.flatK enc k d) t hs] at hg
    have k0 : 0 < k := by rcases Nat.eq_zero_or_pos k with h0 | h0; · subst h0; simp at ht
                          · exact h0
    have hm : t % k < (enc d[t / k]!).length := by rw [hk]; exact Nat.mod_lt _ k0
    rw [List.getElem?_eq_getElem (by simpa using hs)]
    simp only [Array.getElem_toList, Array.toArray_toList]
    rw [hg, getElem!_pos (enc d[t / k]!) (t % k) hm, List.getElem?_eq_getElem hm]
  · rw [List.getElem?_eq_none (by simpa using ht), List.getElem?_eq_none (by rw [hl]; omega)]

theorem encL_flat {α β : Type} {R : β → List Value → Prop} {f : α → β} {enc : α → List Value} (h : ∀ a, R (f a) (enc a)) : ∀ (l : List α), EncL R (l.map f) (l.flatMap enc)
  | [] => rfl
  | a :: l => ⟨enc a, l.flatMap enc, rfl, h a, encL_flat h l⟩

/-- what is asked of the comparison -/
def CmpOk (P : Program) (g : FuncId) (e : Ty) (rng : e.den → Bool) (cf : e.den → e.den → Int) : Prop :=
  ∀ (G : GH) (x y : e.den) (us vs : List Value) (w : World), rng x = true → rng y = true → Enc G e x us → Enc G e y vs →
    Calls P g #[.agg us.toArray, .agg vs.toArray] w fun e' w' => e' = .returned (.int .i64 (cf x y)) ∧ ∃ q os', w' = Sort.grow (w.drewN q) os'

theorem sub_run {P : Program} {t : TypeId} {a b c : Int} (h : -1000000000 ≤ a ∧ a ≤ 1000000000) (h2 : -1000000000 ≤ b ∧ b ≤ 1000000000) (hc : a - b = c) (w : World) : Sem.run P (Go.binOp .sub t (.int .i64 a) (.int .i64 b)) w = .ok (.int .i64 c) w := by
  have e : IntKind.wrap .i64 (a - b) = c := by rw [← hc]; exact wrap_i64 (by unfold I64; omega)
  simp only [Go.binOp, ne_eq, not_true_eq_false, if_false, ↓reduceIte, Op.intArith, e]
  rfl

theorem neq_run {P : Program} {t : TypeId} {a b : Int} (w : World) : Sem.run P (Go.binOp .neq t (.int .i64 a) (.int .i64 b)) w = .ok (.bool (a != b)) w := by
  simp only [Go.binOp, ne_eq, not_true_eq_false, if_false, ↓reduceIte, Op.intCmp]
  rfl
theorem guard_run {P : Program} {t : TypeId} {x y : Operand} {a b : Int} (w : World) : Sem.run P (eqGuard .neq t x y (.int .i64 a) (.int .i64 b)) w = .ok () w := rfl
theorem two_grow (w : World) (a b : Obj) : ∃ q os', (w.alloc a).alloc b = Sort.grow (w.drewN q) os' :=
  ⟨0, #[a, b], by show World.alloc (World.alloc w a) b = _; unfold World.alloc Sort.grow; simp only [World.drewN_zero, Array.push_eq_append, Array.append_assoc]; rfl⟩

theorem Enc_cell {G : GH} : ∀ (t : Ty) (d : t.den) (cs : List Value), Enc G t d cs → ∀ v ∈ cs, v.oneCell' = true
  | .int _, d, cs, h, v, hv => by simp only [Enc] at h; subst h; simp at hv; subst hv; rfl
  | .bool, d, cs, h, v, hv => by simp only [Enc] at h; subst h; simp at hv; subst hv; rfl
  | .str, d, cs, h, v, hv => by simp only [Enc] at h; subst h; simp at hv; subst hv; rfl
  | .slice _, d, cs, h, v, hv => by
    obtain ⟨u, rfl, hr⟩ := h
    simp at hv; subst hv
    rcases hr with ⟨rfl, _⟩ | ⟨_, _, _, _, rfl, _⟩ | ⟨_, _, rfl, _⟩ <;> rfl
  | .own _, d, cs, h, v, hv => h.elim
  | .prod a b, d, cs, h, v, hv => by
    obtain ⟨c1, c2, rfl, h1, h2⟩ := h
    rcases List.mem_append.1 hv with h3 | h3
    · exact Enc_cell a _ _ h1 v h3
    · exact Enc_cell b _ _ h2 v h3

theorem good_sortF {P : Program} {ρ : Go.Shelf.Ren} (L : SlLaysF0.n6 P ρ) {e : Ty} (hd : e.data = true) (h0 : 0 < e.size) (aE : ∀ w, (isAgg (ρ.t 24)).run P w = .ok true w) (zE : ∀ w, (Go.sizeOf (ρ.t 24)).run P w = .ok e.size w)
    {g : FuncId} (eg : ∀ args w, (callFunc g args).run P w = .ok (.enter g args) w) {rng : e.den → Bool} {cf : e.den → e.den → Int} (hO : SwoOn rng cf) (hcmp : CmpOk P g e rng cf) (N : Nat) :
    Good P (ρ.f 6) (Sig.of [.mut e, .clos g 0] [] (fun d => Zn6 rng cf N d.1)) := by
  intro d o hrun G w vs ns ks hargs hsep hfree hg
  obtain ⟨xs, u⟩ := d
  change List e.den at xs
  obtain ⟨hrng, hpw, hlt, rfl⟩ := sortBy_some (N := N) (xs := xs) hrun
  obtain ⟨pc, vs', n2, ks', rfl, rfl, rfl, hown, cvs, vs2, rfl, hcv, _, h2⟩ := hargs
  have hcv0 : cvs = [] := List.eq_nil_of_length_eq_zero hcv
  subst hcv0
  obtain ⟨rfl, rfl, rfl⟩ := h2
  have hsl : (sortBy cf xs).length = xs.length := by unfold sortBy; exact List.length_mergeSort _
  have hown' : OwnL (α := e.den) w (TyRel G w e) e.size pc.nu xs pc.fp := hown
  obtain ⟨h1, h3, h4⟩ := hown'
  by_cases hx : xs = []
  · subst hx
    have he : ∃ p cap, pc.nu.hdr = .slice p 0 cap := by
      have hl0 : pc.nu.len = 0 := h1.symm
      unfold Nu.hdr
      cases pc.nu.blk with
      | none => exact ⟨_, _, rfl⟩
      | some b => exact ⟨_, _, by rw [hl0]⟩
    obtain ⟨p, cap, he⟩ := he
    show Calls P (ρ.f 6) #[pc.nu.hdr, .func (.func g) #[] #[]] w _
    rw [he]
    refine (AnyF.slices_SortFunc_none L p cap _ w).mono ?_
    rintro e' w' ⟨rfl, rfl⟩
    have hs0 : sortBy cf ([] : List e.den) = [] := List.eq_nil_of_length_eq_zero hsl
    refine ⟨[], [pc.fp], [], [], G, rfl, ?_⟩
    exact {
      res := ⟨rfl, rfl⟩
      outs := ⟨pc, [], [], rfl, rfl, by rw [show ((sortBy cf ([] : List e.den), ()), ()).1.1 = ([] : List e.den) from hs0]; exact hown, rfl, rfl, rfl⟩
      sep := by simpa [fps] using hsep
      own := fun S hS b o hS' => by
        have : S = pc.fp := by simpa [fps] using hS
        subst this
        exact ⟨(hfree pc (by simp) b o hS').1, .inl ⟨pc, by simp, hS'⟩, (hfree pc (by simp) b o hS').2⟩
      gx := ⟨fun _ _ _ h => h, fun _ _ _ h => .inl h⟩
      g := hg
      le := { size := Nat.le_refl _, row := fun _ vs _ h => ⟨vs, h, rfl⟩, cell := fun _ _ _ _ => rfl, whole := fun _ _ _ => rfl, os := rfl, output := rfl, tape := rfl } }
  · have hpos : 0 < xs.length := by cases xs with | nil => exact absurd rfl hx | cons a l => simp
    cases hb : pc.nu.blk with
    | none => rw [hb] at h4; exact absurd h4 hx
    | some b =>
    rw [hb] at h4
    simp only [] at h4
    obtain ⟨h5, h6, ⟨us, T, hrow, hsz⟩, cs, ps, henc, hmem, hse, hle⟩ := h4
    obtain ⟨hel, rfl⟩ := (EncP_data hd xs cs ps).1 henc
    have hcl : cs.length = xs.length * e.size := EncL_len (fun x c h => Enc_len e x c h) xs cs hel
    -- the elements, each with its cells
    let chunk (i : Nat) : List Value := (cs.drop (i * e.size)).take e.size
    have hch : ∀ (i : Nat) (hi : i < xs.length), Enc G e xs[i] (chunk i) := fun i hi => EncL_nth (fun x c h => Enc_len e x c h) xs cs i xs[i] hel (List.getElem?_eq_getElem hi)
    let A := { p : e.den × List Value // ∃ (i : Nat) (hi : i < xs.length), p = (xs[i], chunk i) }
    let el (i : Nat) (hi : i < xs.length) : A := ⟨(xs[i], chunk i), i, hi, rfl⟩
    haveI : Inhabited A := ⟨el 0 hpos⟩
    let enc : A → List Value := fun p => p.1.2
    let cfA : A → A → Int := fun p q => cf p.1.1 q.1.1
    have hencR : ∀ p : A, Enc G e p.1.1 (enc p) := fun p => by
      obtain ⟨i, hi, hp⟩ := p.2
      show Enc G e p.1.1 p.1.2
      rw [hp]; exact hch i hi
    have hrA : ∀ p : A, rng p.1.1 = true := fun p => by
      obtain ⟨i, hi, hp⟩ := p.2
      rw [hp]; exact hrng _ (List.getElem_mem hi)
    have hk : ∀ p : A, (enc p).length = e.size := fun p => Enc_len e _ _ (hencR p)
    have h1c : ∀ p : A, ∀ v ∈ enc p, v.oneCell' = true := fun p => Enc_cell e _ _ (hencR p)
    let dl : List A := (List.range xs.length).attach.map fun i => el i.1 (List.mem_range.1 i.2)
    have hdl : dl.length = xs.length := by simp [dl]
    have hdg : ∀ (i : Nat) (hi : i < xs.length), dl[i]'(by rw [hdl]; exact hi) = el i hi := fun i hi => by simp [dl]
    have hdm : dl.map (fun p : A => p.1.1) = xs := by
      apply List.ext_getElem (by simp [hdl])
      intro i h1 h2
      rw [List.getElem_map, hdg i h2]
    have hSW : Sort.SWO (Go.Proofs.ltOf cfA) := {
      irrefl := fun x => by unfold Go.Proofs.ltOf; exact decide_eq_false (hO.irr _ (hrA x))
      trans := fun x y z a b => by
        unfold Go.Proofs.ltOf at *
        exact decide_eq_true (hO.tr _ _ _ (hrA x) (hrA y) (hrA z) (of_decide_eq_true a) (of_decide_eq_true b))
      ntrans := fun x y z a b => by
        unfold Go.Proofs.ltOf at *
        exact decide_eq_false (hO.nt _ _ _ (hrA x) (hrA y) (hrA z) (of_decide_eq_false a) (of_decide_eq_false b)) }
    have hT : ∀ x y : A, (Go.Proofs.ltOf cfA) x y = false → (Go.Proofs.ltOf cfA) y x = false → x = y := fun x y a c => by
      unfold Go.Proofs.ltOf at a c
      have a' := of_decide_eq_false a
      have c' := of_decide_eq_false c
      obtain ⟨i, hi, hp⟩ := x.2
      obtain ⟨j, hj, hq⟩ := y.2
      have key : ∀ (i j : Nat) (hi : i < xs.length) (hj : j < xs.length), ¬ cf xs[i] xs[j] < 0 → ¬ cf xs[j] xs[i] < 0 → ¬ i < j := fun i j hi hj a b hlt => by
        have := pairs_get hpw i j hi hj hlt
        unfold apart lessBy at this
        simp only [Bool.or_eq_true, decide_eq_true_eq] at this
        rcases this with h | h
        · exact a h
        · exact b h
      have a2 : ¬ cf xs[i] xs[j] < 0 := by
        have : cfA x y = cf xs[i] xs[j] := by show cf x.1.1 y.1.1 = _; rw [hp, hq]
        rw [← this]; exact a'
      have c2 : ¬ cf xs[j] xs[i] < 0 := by
        have : cfA y x = cf xs[j] xs[i] := by show cf y.1.1 x.1.1 = _; rw [hp, hq]
        rw [← this]; exact c'
      have n1 := key i j hi hj a2 c2
      have n2 := key j i hj hi c2 a2
      have hij : i = j := by omega
      subst hij
      exact Subtype.ext (hp.trans hq.symm)
    have hflat : (Sort.flatK enc e.size dl.toArray).toList = cs := by
      rw [flatK_list hk]
      have hg0 : ∀ (n : Nat) (hn : n ≤ xs.length), (dl.take n).flatMap enc = cs.take (n * e.size) := by
        intro n
        induction n with
        | zero => intro hn; simp
        | succ n ih =>
          intro hn
          rw [List.take_succ_eq_append_getElem (by rw [hdl]; omega), List.flatMap_append, ih (by omega), hdg n (by omega)]
          show cs.take (n * e.size) ++ ([el n (by omega)].flatMap enc) = _
          simp only [List.flatMap_cons, List.flatMap_nil, List.append_nil]
          show cs.take (n * e.size) ++ chunk n = _
          rw [Nat.succ_mul, List.take_add]
      have := hg0 xs.length (Nat.le_refl _)
      rw [← hdl, List.take_length, hdl, ← hcl, List.take_length] at this
      simpa using this
    have hH : Sort.HoldsK enc e.size w b pc.nu.off dl.toArray := by
      intro j hj
      have hj' : j < cs.length := by rw [← hflat]; simpa using hj
      refine ⟨?_, by simp [World.frozen?, hrow]⟩
      rw [getElem!_pos (Sort.flatK enc e.size dl.toArray) j hj]
      have hc : (Sort.flatK enc e.size dl.toArray)[j] = cs[j] := by
        have : (Sort.flatK enc e.size dl.toArray).toList[j]'(by simpa using hj) = cs[j] := by simp only [hflat]
        simpa using this
      rw [hc]
      exact hmem j cs[j] (List.getElem?_eq_getElem hj')
    have hblt : b < w.heap.size := (Array.getElem?_eq_some_iff.1 hrow).1
    have hcl2 : CmpLays P g #[] enc e.size cfA b pc.nu.off dl.toArray.size w := fun m os dk hs x y => by
      simpa using hcmp G x.1.1 y.1.1 (enc x) (enc y) (sortWorldK enc e.size w b pc.nu.off m dk os) (hrA x) (hrA y) (hencR x) (hencR y)
    have he : pc.nu.hdr = .slice (some ⟨b, pc.nu.off, none⟩) dl.toArray.size pc.nu.cap := by
      unfold Nu.hdr; rw [hb]; simp only [List.size_toArray, hdl, h1]
    show Calls P (ρ.f 6) #[pc.nu.hdr, .func (.func g) #[] #[]] w _
    rw [he]
    refine (AnyQ.slices_SortFunc_total L e.size aE zE enc hk h1c cfA hSW g #[] b pc.nu.off pc.nu.cap dl.toArray w eg hcl2 hH hblt (by simpa [hdl] using hlt) hT).mono ?_
    rintro e' w' ⟨rfl, m, os, rfl⟩
    -- what stands there now
    generalize hsd : (dl.toArray.toList.mergeSort fun x y => !(Go.Proofs.ltOf cfA) y x) = sd
    have hsm : sd.map (fun p : A => p.1.1) = sortBy cf xs := by
      have hm := List.map_mergeSort (r := fun x y : A => !(Go.Proofs.ltOf cfA) y x) (s := fun x y : e.den => !lessBy cf y x) (f := fun p : A => p.1.1) (l := dl) (fun a _ b _ => rfl)
      rw [hdm] at hm
      rw [← hsd, sortBy, ← hm]
    have hsdl : sd.length = xs.length := by have := congrArg List.length hsm; rw [List.length_map, hsl] at this; exact this
    have hfl2 : (Sort.flatK enc e.size sd.toArray).toList = sd.flatMap enc := flatK_list hk _
    have hcs' : EncL (Enc G e) (sortBy cf xs) (sd.flatMap enc) := by rw [← hsm]; exact encL_flat (R := Enc G e) hencR sd
    have hcs'l : (sd.flatMap enc).length = xs.length * e.size := by rw [EncL_len (fun x c h => Enc_len e x c h) _ _ hcs', hsl]
    have hsz' : pc.nu.off + (sd.flatMap enc).length ≤ us.size := by
      rw [hcs'l]
      have := Nat.mul_le_mul_right e.size h5
      omega
    have hfp : ∀ o, pc.nu.off ≤ o → o < pc.nu.off + xs.length * e.size → pc.fp b o := fun o ha hb' => by
      have := Nat.mul_le_mul_right e.size h5
      exact hle (Go.Sx.rng b pc.nu.off (pc.nu.cap * e.size)) (List.mem_cons_self ..) b o ⟨rfl, ha, by omega⟩
    have hwe : sortWorldK enc e.size w b pc.nu.off m sd.toArray os = Sort.grow (Sort.putRow id (Sort.ahead w m) b pc.nu.off (sd.flatMap enc).toArray) os := by
      unfold sortWorldK Sort.putRowK
      rw [← hfl2]
    rw [hwe]
    generalize sd.flatMap enc = cs' at hcs' hcs'l hsz'
    have hw : WLe (Of [pc]) w (Sort.grow (Sort.putRow id (Sort.ahead w m) b pc.nu.off cs'.toArray) os) := sort_wle hrow fun o ha hb' => ⟨pc, by simp, hfp o ha (by simpa [hcs'l] using hb')⟩
    have ho : OwnL (α := e.den) (Sort.grow (Sort.putRow id (Sort.ahead w m) b pc.nu.off cs'.toArray) os) (TyRel G (Sort.grow (Sort.putRow id (Sort.ahead w m) b pc.nu.off cs'.toArray) os) e) e.size pc.nu (sortBy cf xs) pc.fp := by
      refine ⟨by rw [hsl]; exact h1, h3, ?_⟩
      rw [hb]
      refine ⟨by rw [hsl]; exact h5, h6, ⟨_, T, sort_at hrow, by simpa [Sort.putCells] using hsz⟩, cs', [], (EncP_data hd _ _ _).2 ⟨hcs', rfl⟩, ?_, hse, hle⟩
      have := sort_mem (enc := id) (n := m) (os := os) (xs := cs') hrow hsz'
      rwa [List.map_id] at this
    refine ⟨[], [pc.fp], [], [], G, rfl, ?_⟩
    exact {
      res := ⟨rfl, rfl⟩
      outs := ⟨pc, [], [], rfl, rfl, ho, rfl, rfl, rfl⟩
      sep := by simpa [fps] using hsep
      own := fun S hS b' o hS' => by
        have : S = pc.fp := by simpa [fps] using hS
        subst this
        exact ⟨(hfree pc (by simp) b' o hS').1, .inl ⟨pc, by simp, hS'⟩, Nat.lt_of_lt_of_le (hfree pc (by simp) b' o hS').2 hw.size⟩
      gx := ⟨fun _ _ _ h => h, fun _ _ _ h => .inl h⟩
      g := fun b' o v hv => by
        have hc := hg b' o v hv
        have hbl : b' < w.heap.size := by
          unfold World.cell? at hc
          simp only [] at hc
          rcases Nat.lt_or_ge b' w.heap.size with h | h
          · exact h
          · rw [Array.getElem?_eq_none h] at hc; cases hc
        exact (hw.cell b' o hbl fun ⟨q, hq, hf⟩ => by
          have : q = pc := by simpa using hq
          subst this
          have := (hfree q (by simp) b' o hf).1
          rw [hv] at this; cases this).trans hc
      le := hw }
end Go.Sx
namespace Go.Proofs
open Go.Shelf
def sortFH_ren : Go.Shelf.Ren := ⟨fun | 6 => 225 | 15 => 76 | 14 => 237 | 28 => 140 | 29 => 141 | 20 => 241 | 21 => 242 | 22 => 243 | 23 => 244 | 24 => 245 | 25 => 246 | 26 => 247 | 27 => 248 | 46 => 250 | 47 => 182 | 48 => 183 | 49 => 251 | 50 => 252 | 57 => 253 | n => n, fun | 22 => 38 | 24 => 230 | 25 => 271 | 3 => 3 | 39 => 135 | 0 => 0 | 53 => 198 | 55 => 200 | 4 => 4 | 46 => 191 | 45 => 190 | 50 => 115 | 5 => 5 | 9 => 9 | 66 => 240 | 70 => 244 | 76 => 274 | 77 => 201 | n => n, fun | n => n⟩
theorem sortFH : Go.Proofs.SlLaysF0.n6 Tryz.prog sortFH_ren := {
  mixed := by kernel_rfl
  f6 := ⟨Tryz.f225.name, by decide, Tryz.func225.trans (congrArg some (by kernel_rfl))⟩
  f14 := ⟨Tryz.f237.name, by decide, Tryz.func237.trans (congrArg some (by kernel_rfl))⟩
  f15 := Tryz.func76.trans (congrArg some (by kernel_rfl))
  f20 := ⟨Tryz.f241.name, by decide, Tryz.func241.trans (congrArg some (by kernel_rfl))⟩
  f21 := ⟨Tryz.f242.name, by decide, Tryz.func242.trans (congrArg some (by kernel_rfl))⟩
  f22 := ⟨Tryz.f243.name, by decide, Tryz.func243.trans (congrArg some (by kernel_rfl))⟩
  f23 := ⟨Tryz.f244.name, by decide, Tryz.func244.trans (congrArg some (by kernel_rfl))⟩
  f24 := ⟨Tryz.f245.name, by decide, Tryz.func245.trans (congrArg some (by kernel_rfl))⟩
  f25 := ⟨Tryz.f246.name, by decide, Tryz.func246.trans (congrArg some (by kernel_rfl))⟩
  f26 := ⟨Tryz.f247.name, by decide, Tryz.func247.trans (congrArg some (by kernel_rfl))⟩
  f27 := ⟨Tryz.f248.name, by decide, Tryz.func248.trans (congrArg some (by kernel_rfl))⟩
  f28 := Tryz.func140.trans (congrArg some (by kernel_rfl))
  f29 := Tryz.func141.trans (congrArg some (by kernel_rfl))
  f46 := ⟨Tryz.f250.name, by decide, Tryz.func250.trans (congrArg some (by kernel_rfl))⟩
  f47 := Tryz.func182.trans (congrArg some (by kernel_rfl))
  f48 := Tryz.func183.trans (congrArg some (by kernel_rfl))
  f49 := ⟨Tryz.f251.name, by decide, Tryz.func251.trans (congrArg some (by kernel_rfl))⟩
  f50 := ⟨Tryz.f252.name, by decide, Tryz.func252.trans (congrArg some (by kernel_rfl))⟩
  f57 := ⟨Tryz.f253.name, by decide, Tryz.func253.trans (congrArg some (by kernel_rfl))⟩
  t0 := Tryz.underlying0
  a0 := Tryz.isAgg0
  z0 := Tryz.sizeOf0
  v0 := Tryz.zeroValue0
  t3 := Tryz.underlying3
  a3 := Tryz.isAgg3
  z3 := Tryz.sizeOf3
  v3 := Tryz.zeroValue3
  t4 := Tryz.underlying4
  a4 := Tryz.isAgg4
  z4 := Tryz.sizeOf4
  v4 := Tryz.zeroValue4
  t5 := Tryz.underlying5
  a5 := Tryz.isAgg5
  z5 := Tryz.sizeOf5
  v5 := Tryz.zeroValue5
  t9 := Tryz.underlying9
  a9 := Tryz.isAgg9
  z9 := Tryz.sizeOf9
  v9 := Tryz.zeroValue9
  t22 := Tryz.underlying38
  a22 := Tryz.isAgg38
  z22 := Tryz.sizeOf38
  v22 := Tryz.zeroValue38
  t25 := Tryz.underlying271
  a25 := Tryz.isAgg271
  z25 := Tryz.sizeOf271
  v25 := Tryz.zeroValue271
  t39 := Tryz.underlying135
  a39 := Tryz.isAgg135
  z39 := Tryz.sizeOf135
  v39 := Tryz.zeroValue135
  t45 := Tryz.underlying190
  a45 := Tryz.isAgg190
  z45 := Tryz.sizeOf190
  v45 := Tryz.zeroValue190
  t46 := Tryz.underlying191
  a46 := Tryz.isAgg191
  z46 := Tryz.sizeOf191
  v46 := Tryz.zeroValue191
  t50 := Tryz.underlying115
  a50 := Tryz.isAgg115
  z50 := Tryz.sizeOf115
  v50 := Tryz.zeroValue115
  t53 := Tryz.underlying198
  a53 := Tryz.isAgg198
  z53 := Tryz.sizeOf198
  v53 := Tryz.zeroValue198
  t55 := Tryz.underlying200
  a55 := Tryz.isAgg200
  z55 := Tryz.sizeOf200
  v55 := Tryz.zeroValue200
  t66 := Tryz.underlying240
  a66 := Tryz.isAgg240
  z66 := Tryz.sizeOf240
  v66 := Tryz.zeroValue240
  t70 := Tryz.underlying244
  a70 := Tryz.isAgg244
  z70 := Tryz.sizeOf244
  v70 := Tryz.zeroValue244
  t76 := Tryz.underlying274
  a76 := Tryz.isAgg274
  z76 := Tryz.sizeOf274
  v76 := Tryz.zeroValue274
  t77 := Tryz.underlying201
  a77 := Tryz.isAgg201
  z77 := Tryz.sizeOf201
  v77 := Tryz.zeroValue201 }


def sortFE_ren : Go.Shelf.Ren := ⟨fun | 6 => 177 | 15 => 76 | 14 => 220 | 28 => 140 | 29 => 141 | 20 => 229 | 21 => 230 | 22 => 231 | 23 => 232 | 24 => 233 | 25 => 234 | 26 => 235 | 27 => 236 | 46 => 238 | 47 => 182 | 48 => 183 | 49 => 239 | 50 => 240 | 57 => 249 | n => n, fun | 22 => 71 | 24 => 187 | 25 => 237 | 3 => 3 | 39 => 135 | 0 => 0 | 53 => 198 | 55 => 200 | 4 => 4 | 46 => 191 | 45 => 190 | 50 => 115 | 5 => 5 | 9 => 9 | 66 => 240 | 70 => 244 | 76 => 274 | 77 => 201 | n => n, fun | n => n⟩
theorem sortFE : Go.Proofs.SlLaysF0.n6 Tryz.prog sortFE_ren := {
  mixed := by kernel_rfl
  f6 := ⟨Tryz.f177.name, by decide, Tryz.func177.trans (congrArg some (by kernel_rfl))⟩
  f14 := ⟨Tryz.f220.name, by decide, Tryz.func220.trans (congrArg some (by kernel_rfl))⟩
  f15 := Tryz.func76.trans (congrArg some (by kernel_rfl))
  f20 := ⟨Tryz.f229.name, by decide, Tryz.func229.trans (congrArg some (by kernel_rfl))⟩
  f21 := ⟨Tryz.f230.name, by decide, Tryz.func230.trans (congrArg some (by kernel_rfl))⟩
  f22 := ⟨Tryz.f231.name, by decide, Tryz.func231.trans (congrArg some (by kernel_rfl))⟩
  f23 := ⟨Tryz.f232.name, by decide, Tryz.func232.trans (congrArg some (by kernel_rfl))⟩
  f24 := ⟨Tryz.f233.name, by decide, Tryz.func233.trans (congrArg some (by kernel_rfl))⟩
  f25 := ⟨Tryz.f234.name, by decide, Tryz.func234.trans (congrArg some (by kernel_rfl))⟩
  f26 := ⟨Tryz.f235.name, by decide, Tryz.func235.trans (congrArg some (by kernel_rfl))⟩
  f27 := ⟨Tryz.f236.name, by decide, Tryz.func236.trans (congrArg some (by kernel_rfl))⟩
  f28 := Tryz.func140.trans (congrArg some (by kernel_rfl))
  f29 := Tryz.func141.trans (congrArg some (by kernel_rfl))
  f46 := ⟨Tryz.f238.name, by decide, Tryz.func238.trans (congrArg some (by kernel_rfl))⟩
  f47 := Tryz.func182.trans (congrArg some (by kernel_rfl))
  f48 := Tryz.func183.trans (congrArg some (by kernel_rfl))
  f49 := ⟨Tryz.f239.name, by decide, Tryz.func239.trans (congrArg some (by kernel_rfl))⟩
  f50 := ⟨Tryz.f240.name, by decide, Tryz.func240.trans (congrArg some (by kernel_rfl))⟩
  f57 := ⟨Tryz.f249.name, by decide, Tryz.func249.trans (congrArg some (by kernel_rfl))⟩
  t0 := Tryz.underlying0
  a0 := Tryz.isAgg0
  z0 := Tryz.sizeOf0
  v0 := Tryz.zeroValue0
  t3 := Tryz.underlying3
  a3 := Tryz.isAgg3
  z3 := Tryz.sizeOf3
  v3 := Tryz.zeroValue3
  t4 := Tryz.underlying4
  a4 := Tryz.isAgg4
  z4 := Tryz.sizeOf4
  v4 := Tryz.zeroValue4
  t5 := Tryz.underlying5
  a5 := Tryz.isAgg5
  z5 := Tryz.sizeOf5
  v5 := Tryz.zeroValue5
  t9 := Tryz.underlying9
  a9 := Tryz.isAgg9
  z9 := Tryz.sizeOf9
  v9 := Tryz.zeroValue9
  t22 := Tryz.underlying71
  a22 := Tryz.isAgg71
  z22 := Tryz.sizeOf71
  v22 := Tryz.zeroValue71
  t25 := Tryz.underlying237
  a25 := Tryz.isAgg237
  z25 := Tryz.sizeOf237
  v25 := Tryz.zeroValue237
  t39 := Tryz.underlying135
  a39 := Tryz.isAgg135
  z39 := Tryz.sizeOf135
  v39 := Tryz.zeroValue135
  t45 := Tryz.underlying190
  a45 := Tryz.isAgg190
  z45 := Tryz.sizeOf190
  v45 := Tryz.zeroValue190
  t46 := Tryz.underlying191
  a46 := Tryz.isAgg191
  z46 := Tryz.sizeOf191
  v46 := Tryz.zeroValue191
  t50 := Tryz.underlying115
  a50 := Tryz.isAgg115
  z50 := Tryz.sizeOf115
  v50 := Tryz.zeroValue115
  t53 := Tryz.underlying198
  a53 := Tryz.isAgg198
  z53 := Tryz.sizeOf198
  v53 := Tryz.zeroValue198
  t55 := Tryz.underlying200
  a55 := Tryz.isAgg200
  z55 := Tryz.sizeOf200
  v55 := Tryz.zeroValue200
  t66 := Tryz.underlying240
  a66 := Tryz.isAgg240
  z66 := Tryz.sizeOf240
  v66 := Tryz.zeroValue240
  t70 := Tryz.underlying244
  a70 := Tryz.isAgg244
  z70 := Tryz.sizeOf244
  v70 := Tryz.zeroValue244
  t76 := Tryz.underlying274
  a76 := Tryz.isAgg274
  z76 := Tryz.sizeOf274
  v76 := Tryz.zeroValue274
  t77 := Tryz.underlying201
  a77 := Tryz.isAgg201
  z77 := Tryz.sizeOf201
  v77 := Tryz.zeroValue201 }


def sortL_ren : Go.Shelf.Ren := ⟨fun | 5 => 32 | 8 => 76 | 7 => 75 | 19 => 140 | 20 => 141 | 10 => 131 | 11 => 132 | 12 => 133 | 13 => 134 | 14 => 135 | 15 => 136 | 16 => 137 | 17 => 138 | 18 => 139 | 30 => 181 | 31 => 182 | 32 => 183 | 33 => 184 | 34 => 185 | 35 => 186 | 40 => 221 | n => n, fun | 23 => 24 | 25 => 3 | 3 => 3 | 32 => 135 | 22 => 24 | 0 => 0 | 44 => 198 | 46 => 200 | 4 => 4 | 36 => 191 | 35 => 190 | 41 => 115 | 5 => 5 | 9 => 9 | 53 => 240 | 57 => 244 | 63 => 274 | 64 => 201 | n => n, fun | n => n⟩
theorem sortL : Go.Proofs.SlLaysM.n5 Tryz.prog sortL_ren := {
  mixed := by kernel_rfl
  f5 := ⟨Tryz.f32.name, by decide, Tryz.func32.trans (congrArg some (by kernel_rfl))⟩
  f7 := ⟨Tryz.f75.name, by decide, Tryz.func75.trans (congrArg some (by kernel_rfl))⟩
  f8 := Tryz.func76.trans (congrArg some (by kernel_rfl))
  f10 := ⟨Tryz.f131.name, by decide, Tryz.func131.trans (congrArg some (by kernel_rfl))⟩
  f11 := ⟨Tryz.f132.name, by decide, Tryz.func132.trans (congrArg some (by kernel_rfl))⟩
  f12 := ⟨Tryz.f133.name, by decide, Tryz.func133.trans (congrArg some (by kernel_rfl))⟩
  f13 := ⟨Tryz.f134.name, by decide, Tryz.func134.trans (congrArg some (by kernel_rfl))⟩
  f14 := ⟨Tryz.f135.name, by decide, Tryz.func135.trans (congrArg some (by kernel_rfl))⟩
  f15 := ⟨Tryz.f136.name, by decide, Tryz.func136.trans (congrArg some (by kernel_rfl))⟩
  f16 := ⟨Tryz.f137.name, by decide, Tryz.func137.trans (congrArg some (by kernel_rfl))⟩
  f17 := ⟨Tryz.f138.name, by decide, Tryz.func138.trans (congrArg some (by kernel_rfl))⟩
  f18 := ⟨Tryz.f139.name, by decide, Tryz.func139.trans (congrArg some (by kernel_rfl))⟩
  f19 := Tryz.func140.trans (congrArg some (by kernel_rfl))
  f20 := Tryz.func141.trans (congrArg some (by kernel_rfl))
  f30 := ⟨Tryz.f181.name, by decide, Tryz.func181.trans (congrArg some (by kernel_rfl))⟩
  f31 := Tryz.func182.trans (congrArg some (by kernel_rfl))
  f32 := Tryz.func183.trans (congrArg some (by kernel_rfl))
  f33 := ⟨Tryz.f184.name, by decide, Tryz.func184.trans (congrArg some (by kernel_rfl))⟩
  f34 := ⟨Tryz.f185.name, by decide, Tryz.func185.trans (congrArg some (by kernel_rfl))⟩
  f35 := ⟨Tryz.f186.name, by decide, Tryz.func186.trans (congrArg some (by kernel_rfl))⟩
  f40 := ⟨Tryz.f221.name, by decide, Tryz.func221.trans (congrArg some (by kernel_rfl))⟩
  t0 := Tryz.underlying0
  a0 := Tryz.isAgg0
  z0 := Tryz.sizeOf0
  v0 := Tryz.zeroValue0
  t3 := Tryz.underlying3
  a3 := Tryz.isAgg3
  z3 := Tryz.sizeOf3
  v3 := Tryz.zeroValue3
  t4 := Tryz.underlying4
  a4 := Tryz.isAgg4
  z4 := Tryz.sizeOf4
  v4 := Tryz.zeroValue4
  t5 := Tryz.underlying5
  a5 := Tryz.isAgg5
  z5 := Tryz.sizeOf5
  v5 := Tryz.zeroValue5
  t9 := Tryz.underlying9
  a9 := Tryz.isAgg9
  z9 := Tryz.sizeOf9
  v9 := Tryz.zeroValue9
  t22 := Tryz.underlying24
  a22 := Tryz.isAgg24
  z22 := Tryz.sizeOf24
  v22 := Tryz.zeroValue24
  t23 := Tryz.underlying24
  a23 := Tryz.isAgg24
  z23 := Tryz.sizeOf24
  v23 := Tryz.zeroValue24
  t25 := Tryz.underlying3
  a25 := Tryz.isAgg3
  z25 := Tryz.sizeOf3
  v25 := Tryz.zeroValue3
  t32 := Tryz.underlying135
  a32 := Tryz.isAgg135
  z32 := Tryz.sizeOf135
  v32 := Tryz.zeroValue135
  t35 := Tryz.underlying190
  a35 := Tryz.isAgg190
  z35 := Tryz.sizeOf190
  v35 := Tryz.zeroValue190
  t36 := Tryz.underlying191
  a36 := Tryz.isAgg191
  z36 := Tryz.sizeOf191
  v36 := Tryz.zeroValue191
  t41 := Tryz.underlying115
  a41 := Tryz.isAgg115
  z41 := Tryz.sizeOf115
  v41 := Tryz.zeroValue115
  t44 := Tryz.underlying198
  a44 := Tryz.isAgg198
  z44 := Tryz.sizeOf198
  v44 := Tryz.zeroValue198
  t46 := Tryz.underlying200
  a46 := Tryz.isAgg200
  z46 := Tryz.sizeOf200
  v46 := Tryz.zeroValue200
  t53 := Tryz.underlying240
  a53 := Tryz.isAgg240
  z53 := Tryz.sizeOf240
  v53 := Tryz.zeroValue240
  t57 := Tryz.underlying244
  a57 := Tryz.isAgg244
  z57 := Tryz.sizeOf244
  v57 := Tryz.zeroValue244
  t63 := Tryz.underlying274
  a63 := Tryz.isAgg274
  z63 := Tryz.sizeOf274
  v63 := Tryz.zeroValue274
  t64 := Tryz.underlying201
  a64 := Tryz.isAgg201
  z64 := Tryz.sizeOf201
  v64 := Tryz.zeroValue201 }


end Go.Proofs
