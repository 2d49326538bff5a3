/- The library's sorts, by the shelf's contracts. -/
import Derived.Test.YtceckfecihemnaaGreatEng3
import Derived.Shelf.SortM.Plain
import Derived.Shelf.SortM.SortNone
import Derived.Shelf.SlGeneric
import Derived.Test.YtceckfecihemnaaGreatProg
/- The abstract machine: the library's sort of integers, by the shelf's contract. -/
namespace Go.Sx
set_option linter.unusedVariables false
set_option linter.unusedSimpArgs false

section
variable {α : Type} [Inhabited α] {enc : α → Value} {w : World} {b off n : Nat} {d : Array α} {os : Array Obj}

theorem sort_at {vs : Array Value} {T : TypeId} {fr : Nat × Nat} (hb : w.heap[b]? = some (.cells vs T fr)) :
    (Sort.grow (Sort.putRow enc (Sort.ahead w n) b off d) os).heap[b]? = some (.cells (Sort.putCells enc off d vs) T fr) := by
  have hg : b < w.heap.size := (Array.getElem?_eq_some_iff.1 hb).1
  rw [Sort.heap_grow_old _ _ (by simpa [Sort.putRow, Sort.mapBlock, Sort.ahead] using hg)]
  simp [Sort.putRow, Sort.mapBlock, Sort.ahead, Array.getElem?_modify, hb, Sort.onCells]

theorem sort_off {k : Nat} (hk : k < w.heap.size) (hne : k ≠ b) : (Sort.grow (Sort.putRow enc (Sort.ahead w n) b off d) os).heap[k]? = w.heap[k]? := by
  rw [Sort.heap_grow_old _ _ (by simpa [Sort.putRow, Sort.mapBlock, Sort.ahead] using hk)]
  have : b ≠ k := fun h => hne h.symm
  simp [Sort.putRow, Sort.mapBlock, Sort.ahead, Array.getElem?_modify, this]

theorem sort_size : w.heap.size ≤ (Sort.grow (Sort.putRow enc (Sort.ahead w n) b off d) os).heap.size := by
  rw [Sort.size_grow]
  simp [Sort.putRow, Sort.mapBlock, Sort.ahead]

theorem sort_cells {vs : Array Value} (k : Nat) : (Sort.putCells enc off d vs)[k]? = if off ≤ k ∧ k < off + d.size ∧ k < vs.size then some (enc d[k - off]!) else vs[k]? := by
  unfold Sort.putCells
  by_cases h : k < vs.size
  · by_cases h2 : off ≤ k ∧ k < off + d.size
    · simp [h, h2]
    · have : ¬ (off ≤ k ∧ k < off + d.size ∧ k < vs.size) := fun h3 => h2 ⟨h3.1, h3.2.1⟩
      rw [if_neg this]
      simp [h, h2]
  · have : ¬ (off ≤ k ∧ k < off + d.size ∧ k < vs.size) := fun h3 => h h3.2.2
    rw [if_neg this]
    simp [h]

theorem sort_wle {vs : Array Value} {T : TypeId} {fr : Nat × Nat} {F : CS} (hb : w.heap[b]? = some (.cells vs T fr)) (hF : ∀ o, off ≤ o → o < off + d.size → F b o) :
    WLe F w (Sort.grow (Sort.putRow enc (Sort.ahead w n) b off d) os) where
  size := sort_size
  row := fun k us S hk => by
    have hlt : k < w.heap.size := (Array.getElem?_eq_some_iff.1 hk).1
    by_cases h : k = b
    · subst h
      rw [hb] at hk
      injection hk with hk
      injection hk with h1 h2 h3
      subst h1 h2 h3
      exact ⟨_, sort_at hb, by simp [Sort.putCells]⟩
    · exact ⟨us, by rw [sort_off hlt h]; exact hk, rfl⟩
  cell := fun k o hlt hn => by
    by_cases h : k = b
    · subst h
      unfold World.cell?
      rw [sort_at hb, hb]
      simp only [Option.isSome_none, Bool.false_eq_true, if_false]
      rw [sort_cells, if_neg fun h => hn (hF o h.1 h.2.1)]
    · unfold World.cell?
      simp only []
      rw [sort_off hlt h]
  whole := fun k hlt hn => by
    by_cases h : k = b
    · subst h
      rw [sort_at hb, hb]
      have hz : d.size = 0 := by
        rcases Nat.eq_zero_or_pos d.size with h0 | h0
        · exact h0
        · exact absurd (hF off (Nat.le_refl _) (by omega)) (hn off)
      congr 2
      apply Array.ext_getElem?
      intro j
      rw [sort_cells, if_neg (by omega)]
    · exact sort_off hlt h
  os := rfl
  output := rfl
  tape := rfl

theorem sort_mem {vs : Array Value} {T : TypeId} {fr : Nat × Nat} {xs : List α} (hb : w.heap[b]? = some (.cells vs T fr)) (hlen : off + xs.length ≤ vs.size) :
    Mem (Sort.grow (Sort.putRow enc (Sort.ahead w n) b off xs.toArray) os) b off (xs.map enc) := by
  intro j v hj
  unfold World.cell?
  rw [sort_at hb]
  simp only [Option.isSome_none, Bool.false_eq_true, if_false]
  rw [List.getElem?_map] at hj
  have hjl : j < xs.length := by
    rcases Nat.lt_or_ge j xs.length with h | h
    · exact h
    · rw [List.getElem?_eq_none h] at hj; cases hj
  rw [sort_cells, if_pos ⟨by omega, by simp only [List.size_toArray]; omega, by omega⟩]
  rw [List.getElem?_eq_getElem hjl] at hj
  simp only [Option.map_some] at hj
  rw [← hj, Nat.add_sub_cancel_left]
  simp [hjl]
end

theorem encP_ints {G : GH} {w : World} : ∀ (xs : List Int) (cs : List Value) (ps : List Pc), EncP (TyRel G w (.int .i64)) xs cs ps ↔ (cs = xs.map (Value.int .i64) ∧ ps = [])
  | [], cs, ps => by simp [EncP]
  | x :: xs, cs, ps => by
    constructor
    · rintro ⟨c1, c2, p1, p2, rfl, rfl, ⟨h1, h2⟩, h3⟩
      obtain ⟨rfl, rfl⟩ := (encP_ints xs c2 p2).1 h3
      subst h1
      simp only [Enc] at h2
      subst h2
      exact ⟨rfl, rfl⟩
    · rintro ⟨rfl, rfl⟩
      exact ⟨[.int .i64 x], xs.map (Value.int .i64), [], [], rfl, rfl, ⟨rfl, rfl⟩, (encP_ints xs _ _).2 ⟨rfl, rfl⟩⟩

theorem good_sortInt {P : Program} {k : FuncId} (N : Nat)
    (hsome : ∀ (blk off cap : Nat) (zs : List Int) (w : World), Sort.Holds (Value.int .i64) w blk off zs.toArray → blk < w.heap.size → zs.length < 4611686018427387904 →
      Calls P k #[.slice (some ⟨blk, off, none⟩) zs.length cap] w fun e w' => e = .returned (.tuple #[]) ∧ ∃ n os, w' = Sort.grow (Sort.putRow (Value.int .i64) (Sort.ahead w n) blk off (zs.mergeSort fun x y => decide (x ≤ y)).toArray) os)
    (hnone : ∀ (p : Option Addr) (cap : Nat) (w : World), Calls P k #[.slice p 0 cap] w fun e w' => e = .returned (.tuple #[]) ∧ w' = w) :
    Good P k (Sig.of [.mut (.int .i64)] [] (fun d => Zff N d.1)) := by
  intro d o hrun G w vs ns ks hargs hsep hfree hg
  obtain ⟨xs, u⟩ := d
  change List Int at xs
  obtain ⟨hlt, rfl⟩ := sortInt_some (N := N) (xs := xs) hrun
  obtain ⟨pc, vs', n2, ks', rfl, rfl, rfl, hown, h2⟩ := hargs
  obtain ⟨rfl, rfl, rfl⟩ := h2
  have hown' : OwnL (α := Int) w (TyRel G w (.int .i64)) 1 pc.nu xs pc.fp := hown
  obtain ⟨h1, h3, h4⟩ := hown'
  have hsl : (sortInts xs).length = xs.length := by unfold sortInts; exact List.length_mergeSort _
  cases hb : pc.nu.blk with
  | none =>
    rw [hb] at h4
    simp only [] at h4
    subst h4
    have he : pc.nu.hdr = .slice none 0 0 := by unfold Nu.hdr; rw [hb]
    rw [he]
    refine (hnone none 0 w).mono ?_
    rintro e w' ⟨rfl, rfl⟩
    have ho : OwnL (α := Int) w' (TyRel G w' (.int .i64)) 1 pc.nu (sortInts []) pc.fp := ⟨by rw [hsl]; exact h1, h3, by rw [hb]; exact List.eq_nil_of_length_eq_zero hsl⟩
    refine ⟨[], [pc.fp], [], [], G, rfl, ?_⟩
    exact {
      res := ⟨rfl, rfl⟩
      outs := ⟨pc, [], [], rfl, rfl, ho, rfl, rfl, rfl⟩
      sep := by simpa [fps] using hsep
      own := fun S hS b o hS' => by
        have : S = pc.fp := by simpa [fps] using hS
        subst this
        exact ⟨(hfree pc (by simp) b o hS').1, .inl ⟨pc, by simp, hS'⟩, (hfree pc (by simp) b o hS').2⟩
      gx := ⟨fun _ _ _ h => h, fun _ _ _ h => .inl h⟩
      g := hg
      le := { size := Nat.le_refl _, row := fun _ vs _ h => ⟨vs, h, rfl⟩, cell := fun _ _ _ _ => rfl, whole := fun _ _ _ => rfl, os := rfl, output := rfl, tape := rfl } }
  | some b =>
    rw [hb] at h4
    simp only [] at h4
    obtain ⟨h5, h6, ⟨us, T, hrow, hsz⟩, cs, ps, henc, hmem, hse, hle⟩ := h4
    obtain ⟨rfl, rfl⟩ := (encP_ints xs cs ps).1 henc
    have he : pc.nu.hdr = .slice (some ⟨b, pc.nu.off, none⟩) xs.length pc.nu.cap := by unfold Nu.hdr; rw [hb, h1]
    rw [he]
    have hblt : b < w.heap.size := (Array.getElem?_eq_some_iff.1 hrow).1
    have hH : Sort.Holds (Value.int .i64) w b pc.nu.off xs.toArray := by
      intro j hj
      have hj' : j < xs.length := hj
      refine ⟨?_, by simp [World.frozen?, hrow]⟩
      rw [hmem j (Value.int .i64 xs[j]) (by simp [hj'])]
      simp [hj']
    refine (hsome b pc.nu.off pc.nu.cap xs w hH hblt hlt).mono ?_
    rintro e w' ⟨rfl, m, os, rfl⟩
    have hsz' : pc.nu.off + (sortInts xs).length ≤ us.size := by rw [hsl]; have := hsz; simp [Ty.size] at this; omega
    have hfp : ∀ o, pc.nu.off ≤ o → o < pc.nu.off + xs.length → pc.fp b o := fun o ha hb' =>
      hle (rng b pc.nu.off (pc.nu.cap * 1)) (List.mem_cons_self ..) b o ⟨rfl, ha, by omega⟩
    have hw : WLe (Of [pc]) w (Sort.grow (Sort.putRow (Value.int .i64) (Sort.ahead w m) b pc.nu.off (sortInts xs).toArray) os) := sort_wle hrow fun o ha hb' => ⟨pc, by simp, hfp o ha (by simpa [hsl] using hb')⟩
    have ho : OwnL (α := Int) (Sort.grow (Sort.putRow (Value.int .i64) (Sort.ahead w m) b pc.nu.off (sortInts xs).toArray) os) (TyRel G (Sort.grow (Sort.putRow (Value.int .i64) (Sort.ahead w m) b pc.nu.off (sortInts xs).toArray) os) (.int .i64)) 1 pc.nu (sortInts xs) pc.fp := by
      refine ⟨by rw [hsl]; exact h1, h3, ?_⟩
      rw [hb]
      exact ⟨by rw [hsl]; exact h5, h6, ⟨_, T, sort_at hrow, by simpa [Sort.putCells] using hsz⟩, _, _, (encP_ints _ _ _).2 ⟨rfl, rfl⟩, sort_mem hrow hsz', hse, hle⟩
    refine ⟨[], [pc.fp], [], [], G, rfl, ?_⟩
    exact {
      res := ⟨rfl, rfl⟩
      outs := ⟨pc, [], [], rfl, rfl, ho, rfl, rfl, rfl⟩
      sep := by simpa [fps] using hsep
      own := fun S hS b' o hS' => by
        have : S = pc.fp := by simpa [fps] using hS
        subst this
        exact ⟨(hfree pc (by simp) b' o hS').1, .inl ⟨pc, by simp, hS'⟩, Nat.lt_of_lt_of_le (hfree pc (by simp) b' o hS').2 hw.size⟩
      gx := ⟨fun _ _ _ h => h, fun _ _ _ h => .inl h⟩
      g := fun b' o v hv => by
        have hc := hg b' o v hv
        have hbl : b' < w.heap.size := by
          unfold World.cell? at hc
          simp only [] at hc
          rcases Nat.lt_or_ge b' w.heap.size with h | h
          · exact h
          · rw [Array.getElem?_eq_none h] at hc; cases hc
        exact (hw.cell b' o hbl fun ⟨q, hq, hf⟩ => by
          have : q = pc := by simpa using hq
          subst this
          have := (hfree q (by simp) b' o hf).1
          rw [hv] at this; cases this).trans hc
      le := hw }

theorem good_sortL {P : Program} {ρ : Go.Shelf.Ren} (L : Go.Proofs.SlLaysM.n5 P ρ) (N : Nat) : Good P (ρ.f 5) (Sig.of [.mut (.int .i64)] [] (fun d => Zff N d.1)) :=
  good_sortInt N (fun blk off cap zs w hH hb hs => Go.Proofs.AnyM.slices_Sort_int L blk off cap zs w hH hb hs) (fun p cap w => Go.Proofs.AnyM.slices_Sort_int_none L p cap w)

end Go.Sx
namespace Go.Proofs
open Go.Shelf
def sortL_ren : Go.Shelf.Ren := ⟨fun | 5 => 36 | 8 => 69 | 7 => 68 | 19 => 106 | 20 => 107 | 10 => 97 | 11 => 98 | 12 => 99 | 13 => 100 | 14 => 101 | 15 => 102 | 16 => 103 | 17 => 104 | 18 => 105 | 30 => 123 | 31 => 124 | 32 => 125 | 33 => 126 | 34 => 127 | 35 => 128 | 40 => 135 | n => n, fun | 23 => 23 | 25 => 3 | 3 => 3 | 32 => 108 | 22 => 23 | 0 => 0 | 44 => 146 | 46 => 148 | 4 => 4 | 36 => 138 | 35 => 137 | 41 => 143 | 5 => 5 | 9 => 9 | 53 => 156 | 57 => 160 | 63 => 165 | 64 => 166 | n => n, fun | n => n⟩
theorem sortL : Go.Proofs.SlLaysM.n5 Tryz.prog sortL_ren := {
  mixed := by kernel_rfl
  f5 := ⟨Tryz.f36.name, by decide, Tryz.func36.trans (congrArg some (by kernel_rfl))⟩
  f7 := ⟨Tryz.f68.name, by decide, Tryz.func68.trans (congrArg some (by kernel_rfl))⟩
  f8 := Tryz.func69.trans (congrArg some (by kernel_rfl))
  f10 := ⟨Tryz.f97.name, by decide, Tryz.func97.trans (congrArg some (by kernel_rfl))⟩
  f11 := ⟨Tryz.f98.name, by decide, Tryz.func98.trans (congrArg some (by kernel_rfl))⟩
  f12 := ⟨Tryz.f99.name, by decide, Tryz.func99.trans (congrArg some (by kernel_rfl))⟩
  f13 := ⟨Tryz.f100.name, by decide, Tryz.func100.trans (congrArg some (by kernel_rfl))⟩
  f14 := ⟨Tryz.f101.name, by decide, Tryz.func101.trans (congrArg some (by kernel_rfl))⟩
  f15 := ⟨Tryz.f102.name, by decide, Tryz.func102.trans (congrArg some (by kernel_rfl))⟩
  f16 := ⟨Tryz.f103.name, by decide, Tryz.func103.trans (congrArg some (by kernel_rfl))⟩
  f17 := ⟨Tryz.f104.name, by decide, Tryz.func104.trans (congrArg some (by kernel_rfl))⟩
  f18 := ⟨Tryz.f105.name, by decide, Tryz.func105.trans (congrArg some (by kernel_rfl))⟩
  f19 := Tryz.func106.trans (congrArg some (by kernel_rfl))
  f20 := Tryz.func107.trans (congrArg some (by kernel_rfl))
  f30 := ⟨Tryz.f123.name, by decide, Tryz.func123.trans (congrArg some (by kernel_rfl))⟩
  f31 := Tryz.func124.trans (congrArg some (by kernel_rfl))
  f32 := Tryz.func125.trans (congrArg some (by kernel_rfl))
  f33 := ⟨Tryz.f126.name, by decide, Tryz.func126.trans (congrArg some (by kernel_rfl))⟩
  f34 := ⟨Tryz.f127.name, by decide, Tryz.func127.trans (congrArg some (by kernel_rfl))⟩
  f35 := ⟨Tryz.f128.name, by decide, Tryz.func128.trans (congrArg some (by kernel_rfl))⟩
  f40 := ⟨Tryz.f135.name, by decide, Tryz.func135.trans (congrArg some (by kernel_rfl))⟩
  t0 := Tryz.underlying0
  a0 := Tryz.isAgg0
  z0 := Tryz.sizeOf0
  v0 := Tryz.zeroValue0
  t3 := Tryz.underlying3
  a3 := Tryz.isAgg3
  z3 := Tryz.sizeOf3
  v3 := Tryz.zeroValue3
  t4 := Tryz.underlying4
  a4 := Tryz.isAgg4
  z4 := Tryz.sizeOf4
  v4 := Tryz.zeroValue4
  t5 := Tryz.underlying5
  a5 := Tryz.isAgg5
  z5 := Tryz.sizeOf5
  v5 := Tryz.zeroValue5
  t9 := Tryz.underlying9
  a9 := Tryz.isAgg9
  z9 := Tryz.sizeOf9
  v9 := Tryz.zeroValue9
  t22 := Tryz.underlying23
  a22 := Tryz.isAgg23
  z22 := Tryz.sizeOf23
  v22 := Tryz.zeroValue23
  t23 := Tryz.underlying23
  a23 := Tryz.isAgg23
  z23 := Tryz.sizeOf23
  v23 := Tryz.zeroValue23
  t25 := Tryz.underlying3
  a25 := Tryz.isAgg3
  z25 := Tryz.sizeOf3
  v25 := Tryz.zeroValue3
  t32 := Tryz.underlying108
  a32 := Tryz.isAgg108
  z32 := Tryz.sizeOf108
  v32 := Tryz.zeroValue108
  t35 := Tryz.underlying137
  a35 := Tryz.isAgg137
  z35 := Tryz.sizeOf137
  v35 := Tryz.zeroValue137
  t36 := Tryz.underlying138
  a36 := Tryz.isAgg138
  z36 := Tryz.sizeOf138
  v36 := Tryz.zeroValue138
  t41 := Tryz.underlying143
  a41 := Tryz.isAgg143
  z41 := Tryz.sizeOf143
  v41 := Tryz.zeroValue143
  t44 := Tryz.underlying146
  a44 := Tryz.isAgg146
  z44 := Tryz.sizeOf146
  v44 := Tryz.zeroValue146
  t46 := Tryz.underlying148
  a46 := Tryz.isAgg148
  z46 := Tryz.sizeOf148
  v46 := Tryz.zeroValue148
  t53 := Tryz.underlying156
  a53 := Tryz.isAgg156
  z53 := Tryz.sizeOf156
  v53 := Tryz.zeroValue156
  t57 := Tryz.underlying160
  a57 := Tryz.isAgg160
  z57 := Tryz.sizeOf160
  v57 := Tryz.zeroValue160
  t63 := Tryz.underlying165
  a63 := Tryz.isAgg165
  z63 := Tryz.sizeOf165
  v63 := Tryz.zeroValue165
  t64 := Tryz.underlying166
  a64 := Tryz.isAgg166
  z64 := Tryz.sizeOf166
  v64 := Tryz.zeroValue166 }


end Go.Proofs
