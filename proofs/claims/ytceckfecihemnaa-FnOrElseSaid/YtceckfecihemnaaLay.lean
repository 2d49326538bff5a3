/- The library's sorts, by the shelf's contracts. -/
import Derived.Test.YtceckfecihemnaaEng3
import Derived.Shelf.SortM.Plain
import Derived.Shelf.SortM.SortNone
import Derived.Shelf.SlGeneric
import Derived.Test.YtceckfecihemnaaProg
/- The abstract machine: the library's sort of integers, by the shelf's contract. -/
namespace Go.Sx
set_option linter.unusedVariables false
set_option linter.unusedSimpArgs false

section
variable {α : Type} [Inhabited α] {enc : α → Value} {w : World} {b off n : Nat} {d : Array α} {os : Array Obj}

theorem sort_at {vs : Array Value} {T : TypeId} {fr : Nat × Nat} (hb : w.heap[b]? = some (.cells vs T fr)) :
    (Sort.grow (Sort.putRow enc (Sort.ahead w n) b off d) os).heap[b]? = some (.cells (Sort.putCells enc off d vs) T fr) := by
  have hg : b < w.heap.size := (Array.getElem?_eq_some_iff.1 hb).1
  rw [Sort.heap_grow_old _ _ (by simpa [Sort.putRow, Sort.mapBlock, Sort.ahead] using hg)]
  simp [Sort.putRow, Sort.mapBlock, Sort.ahead, Array.getElem?_modify, hb, Sort.onCells]

theorem sort_off {k : Nat} (hk : k < w.heap.size) (hne : k ≠ b) : (Sort.grow (Sort.putRow enc (Sort.ahead w n) b off d) os).heap[k]? = w.heap[k]? := by
  rw [Sort.heap_grow_old _ _ (by simpa [Sort.putRow, Sort.mapBlock, Sort.ahead] using hk)]
  have : b ≠ k := fun h => hne h.symm
  simp [Sort.putRow, Sort.mapBlock, Sort.ahead, Array.getElem?_modify, this]

theorem sort_size : w.heap.size ≤ (Sort.grow (Sort.putRow enc (Sort.ahead w n) b off d) os).heap.size := by
  rw [Sort.size_grow]
  simp [Sort.putRow, Sort.mapBlock, Sort.ahead]

theorem sort_cells {vs : Array Value} (k : Nat) : (Sort.putCells enc off d vs)[k]? = if off ≤ k ∧ k < off + d.size ∧ k < vs.size then some (enc d[k - off]!) else vs[k]? := by
  unfold Sort.putCells
  by_cases h : k < vs.size
  · by_cases h2 : off ≤ k ∧ k < off + d.size
    · simp [h, h2]
    · have : ¬ (off ≤ k ∧ k < off + d.size ∧ k < vs.size) := fun h3 => h2 ⟨h3.1, h3.2.1⟩
      rw [if_neg this]
      simp [h, h2]
  · have : ¬ (off ≤ k ∧ k < off + d.size ∧ k < vs.size) := fun h3 => h h3.2.2
    rw [if_neg this]
    simp [h]

theorem sort_wle {vs : Array Value} {T : TypeId} {fr : Nat × Nat} {F : CS} (hb : w.heap[b]? = some (.cells vs T fr)) (hF : ∀ o, off ≤ o → o < off + d.size → F b o) :
    WLe F w (Sort.grow (Sort.putRow enc (Sort.ahead w n) b off d) os) where
  size := sort_size
  row := fun k us S hk => by
    have hlt : k < w.heap.size := (Array.getElem?_eq_some_iff.1 hk).1
    by_cases h : k = b
    · subst h
      rw [hb] at hk
      injection hk with hk
      injection hk with h1 h2 h3
      subst h1 h2 h3
      exact ⟨_, sort_at hb, by simp [Sort.putCells]⟩
    · exact ⟨us, by rw [sort_off hlt h]; exact hk, rfl⟩
  cell := fun k o hlt hn => by
    by_cases h : k = b
    · subst h
      unfold World.cell?
      rw [sort_at hb, hb]
      simp only [Option.isSome_none, Bool.false_eq_true, if_false]
      rw [sort_cells, if_neg fun h => hn (hF o h.1 h.2.1)]
    · unfold World.cell?
      simp only []
      rw [sort_off hlt h]
  whole := fun k hlt hn => by
    by_cases h : k = b
    · subst h
      rw [sort_at hb, hb]
      have hz : d.size = 0 := by
        rcases Nat.eq_zero_or_pos d.size with h0 | h0
        · exact h0
        · exact absurd (hF off (Nat.le_refl _) (by omega)) (hn off)
      congr 2
      apply Array.ext_getElem?
      intro j
      rw [sort_cells, if_neg (by omega)]
    · exact sort_off hlt h
  os := rfl
  output := rfl
  tape := rfl

theorem sort_mem {vs : Array Value} {T : TypeId} {fr : Nat × Nat} {xs : List α} (hb : w.heap[b]? = some (.cells vs T fr)) (hlen : off + xs.length ≤ vs.size) :
    Mem (Sort.grow (Sort.putRow enc (Sort.ahead w n) b off xs.toArray) os) b off (xs.map enc) := by
  intro j v hj
  unfold World.cell?
  rw [sort_at hb]
  simp only [Option.isSome_none, Bool.false_eq_true, if_false]
  rw [List.getElem?_map] at hj
  have hjl : j < xs.length := by
    rcases Nat.lt_or_ge j xs.length with h | h
    · exact h
    · rw [List.getElem?_eq_none h] at hj; cases hj
  rw [sort_cells, if_pos ⟨by omega, by simp only [List.size_toArray]; omega, by omega⟩]
  rw [List.getElem?_eq_getElem hjl] at hj
  simp only [Option.map_some] at hj
  rw [← hj, Nat.add_sub_cancel_left]
  simp [hjl]
end

theorem encP_ints {G : GH} {w : World} : ∀ (xs : List Int) (cs : List Value) (ps : List Pc), EncP (TyRel G w (.int .i64)) xs cs ps ↔ (cs = xs.map (Value.int .i64) ∧ ps = [])
  | [], cs, ps => by simp [EncP]
  | x :: xs, cs, ps => by
    constructor
    · rintro ⟨c1, c2, p1, p2, rfl, rfl, ⟨h1, h2⟩, h3⟩
      obtain ⟨rfl, rfl⟩ := (encP_ints xs c2 p2).1 h3
      subst h1
      simp only [Enc] at h2
      subst h2
      exact ⟨rfl, rfl⟩
    · rintro ⟨rfl, rfl⟩
      exact ⟨[.int .i64 x], xs.map (Value.int .i64), [], [], rfl, rfl, ⟨rfl, rfl⟩, (encP_ints xs _ _).2 ⟨rfl, rfl⟩⟩

theorem good_sortInt {P : Program} {k : FuncId} (N : Nat)
    (hsome : ∀ (blk off cap : Nat) (zs : List Int) (w : World), Sort.Holds (Value.int .i64) w blk off zs.toArray → blk < w.heap.size → zs.length < 4611686018427387904 →
      Calls P k #[.slice (some ⟨blk, off, none⟩) zs.length cap] w fun e w' => e = .returned (.tuple #[]) ∧ ∃ n os, w' = Sort.grow (Sort.putRow (Value.int .i64) (Sort.ahead w n) blk off (zs.mergeSort fun x y => decide (x ≤ y)).toArray) os)
    (hnone : ∀ (p : Option Addr) (cap : Nat) (w : World), Calls P k #[.slice p 0 cap] w fun e w' => e = .returned (.tuple #[]) ∧ w' = w) :
    Good P k (Sig.of [.mut (.int .i64)] [] (fun d => Zfr N d.1)) := by
  intro d o hrun G w vs ns ks hargs hsep hfree hg
  obtain ⟨xs, u⟩ := d
  change List Int at xs
  obtain ⟨hlt, rfl⟩ := sortInt_some (N := N) (xs := xs) hrun
  obtain ⟨pc, vs', n2, ks', rfl, rfl, rfl, hown, h2⟩ := hargs
  obtain ⟨rfl, rfl, rfl⟩ := h2
  have hown' : OwnL (α := Int) w (TyRel G w (.int .i64)) 1 pc.nu xs pc.fp := hown
  obtain ⟨h1, h3, h4⟩ := hown'
  have hsl : (sortInts xs).length = xs.length := by unfold sortInts; exact List.length_mergeSort _
  cases hb : pc.nu.blk with
  | none =>
    rw [hb] at h4
    simp only [] at h4
    subst h4
    have he : pc.nu.hdr = .slice none 0 0 := by unfold Nu.hdr; rw [hb]
    rw [he]
    refine (hnone none 0 w).mono ?_
    rintro e w' ⟨rfl, rfl⟩
    have ho : OwnL (α := Int) w' (TyRel G w' (.int .i64)) 1 pc.nu (sortInts []) pc.fp := ⟨by rw [hsl]; exact h1, h3, by rw [hb]; exact List.eq_nil_of_length_eq_zero hsl⟩
    refine ⟨[], [pc.fp], [], [], G, rfl, ?_⟩
    exact {
      res := ⟨rfl, rfl⟩
      outs := ⟨pc, [], [], rfl, rfl, ho, rfl, rfl, rfl⟩
      sep := by simpa [fps] using hsep
      own := fun S hS b o hS' => by
        have : S = pc.fp := by simpa [fps] using hS
        subst this
        exact ⟨(hfree pc (by simp) b o hS').1, .inl ⟨pc, by simp, hS'⟩, (hfree pc (by simp) b o hS').2⟩
      gx := ⟨fun _ _ _ h => h, fun _ _ _ h => .inl h⟩
      g := hg
      le := { size := Nat.le_refl _, row := fun _ vs _ h => ⟨vs, h, rfl⟩, cell := fun _ _ _ _ => rfl, whole := fun _ _ _ => rfl, os := rfl, output := rfl, tape := rfl } }
  | some b =>
    rw [hb] at h4
    simp only [] at h4
    obtain ⟨h5, h6, ⟨us, T, hrow, hsz⟩, cs, ps, henc, hmem, hse, hle⟩ := h4
    obtain ⟨rfl, rfl⟩ := (encP_ints xs cs ps).1 henc
    have he : pc.nu.hdr = .slice (some ⟨b, pc.nu.off, none⟩) xs.length pc.nu.cap := by unfold Nu.hdr; rw [hb, h1]
    rw [he]
    have hblt : b < w.heap.size := (Array.getElem?_eq_some_iff.1 hrow).1
    have hH : Sort.Holds (Value.int .i64) w b pc.nu.off xs.toArray := by
      intro j hj
      have hj' : j < xs.length := hj
      refine ⟨?_, by simp [World.frozen?, hrow]⟩
      rw [hmem j (Value.int .i64 xs[j]) (by simp [hj'])]
      simp [hj']
    refine (hsome b pc.nu.off pc.nu.cap xs w hH hblt hlt).mono ?_
    rintro e w' ⟨rfl, m, os, rfl⟩
    have hsz' : pc.nu.off + (sortInts xs).length ≤ us.size := by rw [hsl]; have := hsz; simp [Ty.size] at this; omega
    have hfp : ∀ o, pc.nu.off ≤ o → o < pc.nu.off + xs.length → pc.fp b o := fun o ha hb' =>
      hle (rng b pc.nu.off (pc.nu.cap * 1)) (List.mem_cons_self ..) b o ⟨rfl, ha, by omega⟩
    have hw : WLe (Of [pc]) w (Sort.grow (Sort.putRow (Value.int .i64) (Sort.ahead w m) b pc.nu.off (sortInts xs).toArray) os) := sort_wle hrow fun o ha hb' => ⟨pc, by simp, hfp o ha (by simpa [hsl] using hb')⟩
    have ho : OwnL (α := Int) (Sort.grow (Sort.putRow (Value.int .i64) (Sort.ahead w m) b pc.nu.off (sortInts xs).toArray) os) (TyRel G (Sort.grow (Sort.putRow (Value.int .i64) (Sort.ahead w m) b pc.nu.off (sortInts xs).toArray) os) (.int .i64)) 1 pc.nu (sortInts xs) pc.fp := by
      refine ⟨by rw [hsl]; exact h1, h3, ?_⟩
      rw [hb]
      exact ⟨by rw [hsl]; exact h5, h6, ⟨_, T, sort_at hrow, by simpa [Sort.putCells] using hsz⟩, _, _, (encP_ints _ _ _).2 ⟨rfl, rfl⟩, sort_mem hrow hsz', hse, hle⟩
    refine ⟨[], [pc.fp], [], [], G, rfl, ?_⟩
    exact {
      res := ⟨rfl, rfl⟩
      outs := ⟨pc, [], [], rfl, rfl, ho, rfl, rfl, rfl⟩
      sep := by simpa [fps] using hsep
      own := fun S hS b' o hS' => by
        have : S = pc.fp := by simpa [fps] using hS
        subst this
        exact ⟨(hfree pc (by simp) b' o hS').1, .inl ⟨pc, by simp, hS'⟩, Nat.lt_of_lt_of_le (hfree pc (by simp) b' o hS').2 hw.size⟩
      gx := ⟨fun _ _ _ h => h, fun _ _ _ h => .inl h⟩
      g := fun b' o v hv => by
        have hc := hg b' o v hv
        have hbl : b' < w.heap.size := by
          unfold World.cell? at hc
          simp only [] at hc
          rcases Nat.lt_or_ge b' w.heap.size with h | h
          · exact h
          · rw [Array.getElem?_eq_none h] at hc; cases hc
        exact (hw.cell b' o hbl fun ⟨q, hq, hf⟩ => by
          have : q = pc := by simpa using hq
          subst this
          have := (hfree q (by simp) b' o hf).1
          rw [hv] at this; cases this).trans hc
      le := hw }

theorem good_sortL {P : Program} {ρ : Go.Shelf.Ren} (L : Go.Proofs.SlLaysM.n5 P ρ) (N : Nat) : Good P (ρ.f 5) (Sig.of [.mut (.int .i64)] [] (fun d => Zfr N d.1)) :=
  good_sortInt N (fun blk off cap zs w hH hb hs => Go.Proofs.AnyM.slices_Sort_int L blk off cap zs w hH hb hs) (fun p cap w => Go.Proofs.AnyM.slices_Sort_int_none L p cap w)

end Go.Sx
namespace Go.Proofs
open Go.Shelf
def sortL_ren : Go.Shelf.Ren := ⟨fun | 5 => 63 | 8 => 104 | 7 => 103 | 19 => 136 | 20 => 137 | 10 => 127 | 11 => 128 | 12 => 129 | 13 => 130 | 14 => 131 | 15 => 132 | 16 => 133 | 17 => 134 | 18 => 135 | 30 => 150 | 31 => 151 | 32 => 152 | 33 => 153 | 34 => 154 | 35 => 155 | 40 => 160 | n => n, fun | 23 => 38 | 25 => 3 | 3 => 3 | 32 => 136 | 22 => 38 | 0 => 0 | 44 => 161 | 46 => 163 | 4 => 4 | 36 => 153 | 35 => 152 | 41 => 158 | 5 => 5 | 9 => 9 | 53 => 175 | 57 => 179 | 63 => 182 | 64 => 117 | n => n, fun | n => n⟩
theorem sortL : Go.Proofs.SlLaysM.n5 Try.prog sortL_ren := {
  mixed := by kernel_rfl
  f5 := ⟨Try.f63.name, by decide, Try.func63.trans (congrArg some (by kernel_rfl))⟩
  f7 := ⟨Try.f103.name, by decide, Try.func103.trans (congrArg some (by kernel_rfl))⟩
  f8 := Try.func104.trans (congrArg some (by kernel_rfl))
  f10 := ⟨Try.f127.name, by decide, Try.func127.trans (congrArg some (by kernel_rfl))⟩
  f11 := ⟨Try.f128.name, by decide, Try.func128.trans (congrArg some (by kernel_rfl))⟩
  f12 := ⟨Try.f129.name, by decide, Try.func129.trans (congrArg some (by kernel_rfl))⟩
  f13 := ⟨Try.f130.name, by decide, Try.func130.trans (congrArg some (by kernel_rfl))⟩
  f14 := ⟨Try.f131.name, by decide, Try.func131.trans (congrArg some (by kernel_rfl))⟩
  f15 := ⟨Try.f132.name, by decide, Try.func132.trans (congrArg some (by kernel_rfl))⟩
  f16 := ⟨Try.f133.name, by decide, Try.func133.trans (congrArg some (by kernel_rfl))⟩
  f17 := ⟨Try.f134.name, by decide, Try.func134.trans (congrArg some (by kernel_rfl))⟩
  f18 := ⟨Try.f135.name, by decide, Try.func135.trans (congrArg some (by kernel_rfl))⟩
  f19 := Try.func136.trans (congrArg some (by kernel_rfl))
  f20 := Try.func137.trans (congrArg some (by kernel_rfl))
  f30 := ⟨Try.f150.name, by decide, Try.func150.trans (congrArg some (by kernel_rfl))⟩
  f31 := Try.func151.trans (congrArg some (by kernel_rfl))
  f32 := Try.func152.trans (congrArg some (by kernel_rfl))
  f33 := ⟨Try.f153.name, by decide, Try.func153.trans (congrArg some (by kernel_rfl))⟩
  f34 := ⟨Try.f154.name, by decide, Try.func154.trans (congrArg some (by kernel_rfl))⟩
  f35 := ⟨Try.f155.name, by decide, Try.func155.trans (congrArg some (by kernel_rfl))⟩
  f40 := ⟨Try.f160.name, by decide, Try.func160.trans (congrArg some (by kernel_rfl))⟩
  t0 := Try.underlying0
  a0 := Try.isAgg0
  z0 := Try.sizeOf0
  v0 := Try.zeroValue0
  t3 := Try.underlying3
  a3 := Try.isAgg3
  z3 := Try.sizeOf3
  v3 := Try.zeroValue3
  t4 := Try.underlying4
  a4 := Try.isAgg4
  z4 := Try.sizeOf4
  v4 := Try.zeroValue4
  t5 := Try.underlying5
  a5 := Try.isAgg5
  z5 := Try.sizeOf5
  v5 := Try.zeroValue5
  t9 := Try.underlying9
  a9 := Try.isAgg9
  z9 := Try.sizeOf9
  v9 := Try.zeroValue9
  t22 := Try.underlying38
  a22 := Try.isAgg38
  z22 := Try.sizeOf38
  v22 := Try.zeroValue38
  t23 := Try.underlying38
  a23 := Try.isAgg38
  z23 := Try.sizeOf38
  v23 := Try.zeroValue38
  t25 := Try.underlying3
  a25 := Try.isAgg3
  z25 := Try.sizeOf3
  v25 := Try.zeroValue3
  t32 := Try.underlying136
  a32 := Try.isAgg136
  z32 := Try.sizeOf136
  v32 := Try.zeroValue136
  t35 := Try.underlying152
  a35 := Try.isAgg152
  z35 := Try.sizeOf152
  v35 := Try.zeroValue152
  t36 := Try.underlying153
  a36 := Try.isAgg153
  z36 := Try.sizeOf153
  v36 := Try.zeroValue153
  t41 := Try.underlying158
  a41 := Try.isAgg158
  z41 := Try.sizeOf158
  v41 := Try.zeroValue158
  t44 := Try.underlying161
  a44 := Try.isAgg161
  z44 := Try.sizeOf161
  v44 := Try.zeroValue161
  t46 := Try.underlying163
  a46 := Try.isAgg163
  z46 := Try.sizeOf163
  v46 := Try.zeroValue163
  t53 := Try.underlying175
  a53 := Try.isAgg175
  z53 := Try.sizeOf175
  v53 := Try.zeroValue175
  t57 := Try.underlying179
  a57 := Try.isAgg179
  z57 := Try.sizeOf179
  v57 := Try.zeroValue179
  t63 := Try.underlying182
  a63 := Try.isAgg182
  z63 := Try.sizeOf182
  v63 := Try.zeroValue182
  t64 := Try.underlying117
  a64 := Try.isAgg117
  z64 := Try.sizeOf117
  v64 := Try.zeroValue117 }


end Go.Proofs
