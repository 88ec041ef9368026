/-
  Texts joined: Lib, EK, ED, EL, EMf, EM, EMt, EN, EO. Conditions: each theorem's own.
-/
import Derived.Shelf.Small.Bits
import Derived.Shelf.Sort.Plain
import Derived.Test.YtbdgknebimdjoaaProg
import Derived.Test.YtbdgknebimdjoaaK4
import Derived.Shelf.Slices.In.SortNone
import Derived.Sort.OwnSortedInts
import Derived.Test.YtbdgknebimdjoaaK3
/-
  The library's contracts of slices.Sort at int, math/bits.Len and Len8, laid at this program's functions (written by the kit's lay-plain, its numbers are this seat's). Conditions: each theorem's own.
-/
namespace Go.Proofs
open Go.Shelf
def Try.lays126_ren : Go.Shelf.Ren := ⟨fun | 126 => 161 | n => n, fun | 5 => 5 | 3 => 3 | 9 => 9 | n => n, fun | n => n⟩
theorem Try.lays126 : Go.Proofs.Lays.n126 Try.prog Try.lays126_ren := {
  mixed := by kernel_rfl
  f126 := Try.func161.trans (congrArg some (by kernel_rfl))
  t3 := Try.underlying3
  a3 := Try.isAgg3
  z3 := Try.sizeOf3
  v3 := Try.zeroValue3
  t5 := Try.underlying5
  a5 := Try.isAgg5
  z5 := Try.sizeOf5
  v5 := Try.zeroValue5
  t9 := Try.underlying9
  a9 := Try.isAgg9
  z9 := Try.sizeOf9
  v9 := Try.zeroValue9 }
/-- bits.Len8: "Len8 returns the minimum number of bits required to represent x; the result is 0 for x == 0.": IT RETURNS 'Lib.bitLen x'; the world is as it was. ('h0', 'h1': x is a uint8.) (LAID: no walk: one application.) -/
theorem Try.bits_Len8 (x : Int) (w : World) (h0 : 0 ≤ x) (h1 : x ≤ 255) :
    Calls Try.prog 161 #[.int .u8 x] w fun e w' => e = .returned (.int .i64 (Lib.bitLen x.toNat)) ∧ w' = w := Any.bits_Len8 Try.lays126 x w h0 h1
def Try.lays125_ren : Go.Shelf.Ren := ⟨fun | 125 => 99 | 128 => 128 | 129 => 129 | n => n, fun | 46 => 65 | 3 => 3 | 51 => 163 | 53 => 106 | 4 => 4 | 5 => 5 | 9 => 9 | n => n, fun | n => n⟩
theorem Try.lays125 : Go.Proofs.Lays.n125 Try.prog Try.lays125_ren := {
  mixed := by kernel_rfl
  f125 := Try.func99.trans (congrArg some (by kernel_rfl))
  f128 := Try.func128.trans (congrArg some (by kernel_rfl))
  f129 := Try.func129.trans (congrArg some (by kernel_rfl))
  t3 := Try.underlying3
  a3 := Try.isAgg3
  z3 := Try.sizeOf3
  v3 := Try.zeroValue3
  t4 := Try.underlying4
  a4 := Try.isAgg4
  z4 := Try.sizeOf4
  v4 := Try.zeroValue4
  t5 := Try.underlying5
  a5 := Try.isAgg5
  z5 := Try.sizeOf5
  v5 := Try.zeroValue5
  t9 := Try.underlying9
  a9 := Try.isAgg9
  z9 := Try.sizeOf9
  v9 := Try.zeroValue9
  t46 := Try.underlying65
  a46 := Try.isAgg65
  z46 := Try.sizeOf65
  v46 := Try.zeroValue65
  t51 := Try.underlying163
  a51 := Try.isAgg163
  z51 := Try.sizeOf163
  v51 := Try.zeroValue163
  t53 := Try.underlying106
  a53 := Try.isAgg106
  z53 := Try.sizeOf106
  v53 := Try.zeroValue106 }
/-- bits.Len: "Len returns the minimum number of bits required to represent x; the result is 0 for x == 0.": IT RETURNS 'Lib.bitLen x'; the world is as it was. (A uint has 64 bits in the model.) ITS CALLEE bits.Len64 IS MET BY ITS OWN CONTRACT OFF THE SHELF (lay that first). (LAID: no walk: one application.) -/
theorem Try.bits_Len (x : Int) (w : World) (h0 : 0 ≤ x) (h1 : x ≤ 18446744073709551615) :
    Calls Try.prog 99 #[.int .u64 x] w fun e w' => e = .returned (.int .i64 (Lib.bitLen x.toNat)) ∧ w' = w := Any.bits_Len Try.lays125 x w h0 h1
def Try.lays189_ren : Go.Shelf.Ren := ⟨fun | 189 => 71 | 125 => 99 | 257 => 102 | 128 => 128 | 129 => 129 | 294 => 131 | 295 => 132 | 296 => 133 | 297 => 134 | 298 => 135 | 299 => 136 | 216 => 101 | 300 => 137 | 301 => 138 | 328 => 148 | 329 => 149 | 330 => 150 | 331 => 151 | 332 => 152 | 215 => 130 | 343 => 160 | n => n, fun | 28 => 22 | 3 => 3 | 46 => 65 | 0 => 0 | 51 => 163 | 53 => 106 | 4 => 4 | 183 => 167 | 182 => 166 | 131 => 125 | 5 => 5 | 9 => 9 | 218 => 176 | 222 => 180 | 228 => 189 | 229 => 190 | n => n, fun | n => n⟩
theorem Try.lays189 : Go.Proofs.Lays.n189 Try.prog Try.lays189_ren := {
  mixed := by kernel_rfl
  f125 := Try.func99.trans (congrArg some (by kernel_rfl))
  f128 := Try.func128.trans (congrArg some (by kernel_rfl))
  f129 := Try.func129.trans (congrArg some (by kernel_rfl))
  f189 := Try.func71.trans (congrArg some (by kernel_rfl))
  f215 := Try.func130.trans (congrArg some (by kernel_rfl))
  f216 := Try.func101.trans (congrArg some (by kernel_rfl))
  f257 := Try.func102.trans (congrArg some (by kernel_rfl))
  f294 := Try.func131.trans (congrArg some (by kernel_rfl))
  f295 := Try.func132.trans (congrArg some (by kernel_rfl))
  f296 := Try.func133.trans (congrArg some (by kernel_rfl))
  f297 := Try.func134.trans (congrArg some (by kernel_rfl))
  f298 := Try.func135.trans (congrArg some (by kernel_rfl))
  f299 := Try.func136.trans (congrArg some (by kernel_rfl))
  f300 := Try.func137.trans (congrArg some (by kernel_rfl))
  f301 := Try.func138.trans (congrArg some (by kernel_rfl))
  f328 := Try.func148.trans (congrArg some (by kernel_rfl))
  f329 := Try.func149.trans (congrArg some (by kernel_rfl))
  f330 := Try.func150.trans (congrArg some (by kernel_rfl))
  f331 := Try.func151.trans (congrArg some (by kernel_rfl))
  f332 := Try.func152.trans (congrArg some (by kernel_rfl))
  f343 := Try.func160.trans (congrArg some (by kernel_rfl))
  t0 := Try.underlying0
  a0 := Try.isAgg0
  z0 := Try.sizeOf0
  v0 := Try.zeroValue0
  t3 := Try.underlying3
  a3 := Try.isAgg3
  z3 := Try.sizeOf3
  v3 := Try.zeroValue3
  t4 := Try.underlying4
  a4 := Try.isAgg4
  z4 := Try.sizeOf4
  v4 := Try.zeroValue4
  t5 := Try.underlying5
  a5 := Try.isAgg5
  z5 := Try.sizeOf5
  v5 := Try.zeroValue5
  t9 := Try.underlying9
  a9 := Try.isAgg9
  z9 := Try.sizeOf9
  v9 := Try.zeroValue9
  t28 := Try.underlying22
  a28 := Try.isAgg22
  z28 := Try.sizeOf22
  v28 := Try.zeroValue22
  t46 := Try.underlying65
  a46 := Try.isAgg65
  z46 := Try.sizeOf65
  v46 := Try.zeroValue65
  t51 := Try.underlying163
  a51 := Try.isAgg163
  z51 := Try.sizeOf163
  v51 := Try.zeroValue163
  t53 := Try.underlying106
  a53 := Try.isAgg106
  z53 := Try.sizeOf106
  v53 := Try.zeroValue106
  t131 := Try.underlying125
  a131 := Try.isAgg125
  z131 := Try.sizeOf125
  v131 := Try.zeroValue125
  t182 := Try.underlying166
  a182 := Try.isAgg166
  z182 := Try.sizeOf166
  v182 := Try.zeroValue166
  t183 := Try.underlying167
  a183 := Try.isAgg167
  z183 := Try.sizeOf167
  v183 := Try.zeroValue167
  t218 := Try.underlying176
  a218 := Try.isAgg176
  z218 := Try.sizeOf176
  v218 := Try.zeroValue176
  t222 := Try.underlying180
  a222 := Try.isAgg180
  z222 := Try.sizeOf180
  v222 := Try.zeroValue180
  t228 := Try.underlying189
  a228 := Try.isAgg189
  z228 := Try.sizeOf189
  v228 := Try.zeroValue189
  t229 := Try.underlying190
  a229 := Try.isAgg190
  z229 := Try.sizeOf190
  v229 := Try.zeroValue190 }
open Go.Sort Go.RowKit in
theorem Try.slices_Sort_int (blk off cap : Nat) (zs : List Int) (w : World) (hH : Holds (Value.int .i64) w blk off zs.toArray) (hblk : blk < w.heap.size) (hsz : zs.length < 4611686018427387904) :
    Calls Try.prog 71 #[.slice (some ⟨blk, off, none⟩) zs.length cap] w fun e w' =>
      e = .returned (.tuple #[]) ∧ ∃ n os, w' = grow (putRow (Value.int .i64) (Sort.ahead w n) blk off (zs.mergeSort fun x y => decide (x ≤ y)).toArray) os := Any.slices_Sort_int Try.lays189 blk off cap zs w hH hblk hsz
end Go.Proofs
/-
  slices.Sort of ints, math/bits.Len: their contracts. Conditions: each theorem's own.
-/
namespace Go.Proofs.Ytbdgknebimdjoaa
open Go Go.Shelf Go.RowKit Go.Lib Go.Sort
set_option linter.unusedVariables false
set_option linter.unusedSimpArgs false
set_option maxRecDepth 100000
theorem bitLen_eq : ∀ (f x : Nat), x < 2 ^ f → bitLenAux f x = if x = 0 then 0 else Nat.log2 x + 1
  | 0, x, h => by
    have : x = 0 := by omega
    subst this; rfl
  | f + 1, x, h => by
    unfold bitLenAux
    by_cases h0 : x = 0
    · rw [if_pos h0, if_pos h0]
    · rw [if_neg h0, if_neg h0, bitLen_eq f (x / 2) (by rw [Nat.pow_succ] at h; omega), Nat.log2_def x]
      by_cases h1 : x / 2 = 0
      · rw [if_pos h1, if_neg (by omega)]
      · rw [if_neg h1, if_pos (by omega)]; omega
theorem bitLen_hi {x : Int} (h0 : 0 ≤ x) (h1 : x ≤ 9223372036854775807) : ((Lib.bitLen x.toNat : Nat) : Int) = hiI x + 1 := by
  show ((bitLenAux 64 x.toNat : Nat) : Int) = _
  rw [bitLen_eq 64 _ (by omega)]
  unfold hiI
  by_cases h : x = 0
  · subst h; rfl
  · rw [if_neg (by omega), decide_eq_false (by omega)]
    push_cast
    rfl
theorem len_sat (x : Int) (h0 : 0 ≤ x) (h1 : x ≤ 9223372036854775807) : Sat Try.prog 99 [.v (.int .u64 x)] [] (.v (.int .i64 (hiI x + 1))) [] := by
  refine sat_of_calls (fun w => ?_) rfl rfl
  refine (Go.Proofs.Try.bits_Len x w h0 (by omega)).mono ?_
  rintro e w' ⟨rfl, rfl⟩
  refine ⟨?_, Below.refl _ _⟩
  show Ending.returned (Value.int .i64 _) = .returned (Value.int .i64 (hiI x + 1))
  rw [bitLen_hi h0 h1]
theorem len_sound : Sound Try.prog 99 sLen.ctr := sLen.sound (by kernel_rfl) sLen_enc fun x hc => len_sat x (hc _ (.head _)) (hc _ (.tail _ (.head _)))
/-! ### sort -/
theorem merge_srt (xs : List Int) : (xs.mergeSort fun x y => decide (x ≤ y)) = srtI xs := by
  refine srtI_unique (List.mergeSort_perm _ _) ?_
  have := List.pairwise_mergeSort (le := fun x y : Int => decide (x ≤ y)) (fun a b c h k => by simp at h k ⊢; omega) (fun a b => by simp; omega) xs
  exact this.imp fun h => by simpa using h
theorem sortI_sat (xs : List Int) (h1 : xs.length ≤ 4294967296) :
    Sat Try.prog 71 [.o 0] [(0, .row 3 (.ints .i64 xs))] (.tu []) [(0, .row 3 (.ints .i64 (srtI xs)))] := by
  intro D β w us hargs hhp hD hβ
  simp only [Reps, Rep] at hargs
  obtain ⟨u0, r0, rfl, ⟨L, hL, rfl⟩, rfl⟩ := hargs
  obtain ⟨L', hL', hB, hdis⟩ := hhp.1 0 (SBlk.row 3 (.ints .i64 xs)) (by simp)
  rw [hL] at hL'
  cases hL'
  obtain ⟨hw, hlen, hB⟩ := hB
  simp only [Dat.wd, Dat.len] at hw hlen hB
  have hgiven : ∀ g, Given β [(0, SBlk.row 3 (.ints .i64 xs))] g ↔ L.nil = false ∧ g = L.g := by
    intro g
    constructor
    · rintro ⟨l, b, L2, h1, h2, h3, h4⟩
      simp only [List.mem_singleton, Prod.mk.injEq] at h1
      obtain ⟨rfl, rfl⟩ := h1
      rw [hL] at h2
      cases h2
      exact ⟨h3, h4.symm⟩
    · rintro ⟨hn, rfl⟩
      exact ⟨0, SBlk.row 3 (.ints .i64 xs), L, by simp, hL, hn, rfl⟩
  have hsrtlen : (srtI xs).length = xs.length := srtI_len xs
  -- what is left to show, the world behind once told
  have fin : ∀ w' : World, w'.os = w.os → w'.tape = w.tape → w'.output = w.output → w.heap.size ≤ w'.heap.size → (∀ k, k < w.heap.size → ¬ (L.nil = false ∧ k = L.g) → w'.heap[k]? = w.heap[k]?) →
      (Grows D w β D w' β → BlkRep D w' β L (.row 3 (.ints .i64 (srtI xs)))) → ∃ v D' β', Ending.returned (Value.tuple #[]) = .returned v ∧ After D β w [(0, .row 3 (.ints .i64 xs))] (.tu []) [(0, .row 3 (.ints .i64 (srtI xs)))] v D' β' w' := by
    intro w' e1 e2 e3 e4 e5 e6
    have G : Grows D w β D w' β := ⟨fun _ h => h, fun g hgD => e5 g (hD g hgD) (fun ⟨hn, e⟩ => (hdis hn).1 (e ▸ hgD)), fun _ _ h => h⟩
    refine ⟨_, D, β, rfl, ?_⟩
    exact {
      grows := G
      ret := by simp only [Rep, Reps]; exact ⟨[], rfl, rfl⟩
      hps := by
        refine ⟨fun l b hl => ?_, fun l l' b b' L1 L2 hl hl' _ _ _ _ _ => ?_⟩
        · simp only [List.mem_singleton, Prod.mk.injEq] at hl
          obtain ⟨rfl, rfl⟩ := hl
          exact ⟨L, hL, e6 G, fun hn => ⟨(hdis hn).1, Nat.lt_of_lt_of_le (hdis hn).2 e4⟩⟩
        · simp only [List.mem_singleton, Prod.mk.injEq] at hl hl'
          rw [hl.1, hl'.1]
      d := fun g hgD => ⟨.inl hgD, Nat.lt_of_lt_of_le (hD g hgD) e4⟩
      dom := fun l L hL => .inl hL
      own := fun l b L2 hl hL2 hn2 => by
        simp only [List.mem_singleton, Prod.mk.injEq] at hl
        obtain ⟨rfl, rfl⟩ := hl
        rw [hL] at hL2
        cases hL2
        exact .inr ((hgiven _).2 ⟨hn2, rfl⟩)
      os := e1, tape := e2, output := e3, size := e4
      block := fun g hg1 hg2 => e5 g hg1 fun e => hg2 ((hgiven g).2 e) }
  rcases hB with ⟨hni, hz⟩ | ⟨hni, hcap, hmax, cs, ty', hcs, hcl, hval⟩
  · have hx : xs = [] := List.eq_nil_of_length_eq_zero hz
    subst hx
    have hv : L.val = .slice none 0 0 := by simp [Loc.val, hni]
    have e : [L.val].toArray = #[.slice none 0 0] := by rw [hv]
    rw [e]
    refine Calls.mono (show Calls Try.prog 71 _ _ _ from Go.Proofs.Any.slices_Sort_int_none Go.Proofs.Try.lays189 none 0 w) ?_
    rintro e w' ⟨rfl, rfl⟩
    exact fin w' rfl rfl rfl (Nat.le_refl _) (fun _ _ _ => rfl) (fun _ => ⟨hw, hlen, .inl ⟨hni, rfl⟩⟩)
  obtain ⟨hnD, hlt⟩ := hdis hni
  have hH : Holds (Value.int .i64) w L.g 0 xs.toArray := by
    intro j hj
    have hj' : j < xs.length := by simpa using hj
    obtain ⟨x, hx1, hx2⟩ := hval j 0 hj' (by simp [Dat.wd])
    simp only [Dat.wd, Nat.mul_one, Nat.add_zero, Dat.ok] at hx1 hx2
    subst hx2
    have e : xs.toArray[j]! = xs.getD j 0 := by
      rw [getElem!_pos xs.toArray j hj]
      simp [List.getD_eq_getElem?_getD, List.getElem?_eq_getElem hj']
    rw [e, Nat.zero_add]
    refine ⟨?_, ?_⟩
    · simp [World.cell?, hcs, hx1]
    · simp [World.frozen?, hcs]
  have hval2 : L.val = .slice (some ⟨L.g, 0, none⟩) xs.length L.cap := by
    unfold Loc.val
    rw [hni, hlen]
    rfl
  have key := Go.Proofs.Try.slices_Sort_int L.g 0 L.cap xs w hH hlt (by omega)
  have e : [L.val].toArray = #[.slice (some ⟨L.g, 0, none⟩) xs.length L.cap] := by rw [hval2]
  rw [e]
  refine Calls.mono (show Calls Try.prog 71 _ _ _ from key) ?_
  rintro e w' ⟨rfl, n, os, rfl⟩
  rw [merge_srt]
  have hgr := grownBy_sortedI (w := w) (g := L.g) (n := n) (os := os) (srtI xs).toArray
  refine fin _ rfl rfl rfl hgr.size (fun k hk hne => hgr.block k hk (fun e => by
    simp only [Option.some.injEq] at e
    exact hne ⟨hni, e⟩)) (fun G => ⟨hw, by simp only [Dat.len]; omega, .inr ⟨hni, by simp only [Dat.len]; omega, hmax, (putCells (Value.int .i64) 0 (srtI xs).toArray cs.toArray).toList, ty', by simpa using heap_sortedI (srtI xs).toArray hcs, ?_, ?_⟩⟩)
  · simp only [putCells, Array.length_toList, Array.size_mapIdx, List.size_toArray, Dat.wd]
    exact hcl
  · intro i j hi hj
    simp only [Dat.len, Dat.wd] at hi hj hcl
    have j0 : j = 0 := by omega
    subst j0
    refine ⟨.int .i64 ((srtI xs).getD i 0), ?_, rfl⟩
    have hlt2 : i < cs.length := by omega
    simp only [Dat.wd, Nat.mul_one, Nat.add_zero, putCells, Array.getElem?_toList, Array.getElem?_mapIdx, List.getElem?_toArray, List.getElem?_eq_getElem hlt2, Option.map_some, Nat.zero_add, Nat.sub_zero, List.size_toArray]
    rw [if_pos ⟨Nat.zero_le _, by omega⟩, getElem!_pos (srtI xs).toArray i (by simpa using hi)]
    simp [List.getD_eq_getElem?_getD, List.getElem?_eq_getElem hi]
theorem sortI_sound : Sound Try.prog 71 sSortI.ctr := sSortI.sound (by kernel_rfl) sSortI_enc fun xs hc => sortI_sat xs (hc _ (.head _))
end Go.Proofs.Ytbdgknebimdjoaa
/-
  Chapter 11: the conditions hold. Conditions: each theorem's own.
-/
namespace Go.Proofs.Ytbdgknebimdjoaa
open Go Go.RowKit
set_option linter.unusedVariables false
set_option linter.unusedSimpArgs false
set_option maxRecDepth 100000
/-! ### small -/
theorem gt_nat {n : Nat} (h : (256 : Int) < (n : Int)) : 256 < n := by omega
theorem ne0 {a : Int} (h : (a != (0 : Int)) = true) : (a == 0) = false := by
  cases hb : a == 0
  · rfl
  · have : a = 0 := by simpa using hb
    subst this
    cases h
theorem eq0 {a : Int} (h : (a != (0 : Int)) = false) : a = 0 := by simpa using h
theorem beq0 {a : Int} (h : a = 0) : (a == 0) = true := by rw [h]; rfl
theorem takeAll {α : Type} (l : List α) : List.take (Int.toNat (l.length : Int) - Int.toNat (0 : Int)) (List.drop (Int.toNat (0 : Int)) l) = l := by simp
theorem enc_bad {g : Int} {l : List Int} (h : (dchk g l != (0 : Int)) = true) : encG g l = 0 ∧ encL g l = [] := by
  have : okE g l = false := ne0 h
  unfold encG encL
  rw [this]
  exact ⟨rfl, rfl⟩
theorem enc_good {g : Int} {l : List Int} (h : dchk g l = 0) : encG g l = g ∧ encL g l = statesL l.length (spr g l) := by
  have : okE g l = true := beq0 h
  unfold encG encL
  rw [this]
  exact ⟨rfl, rfl⟩
theorem cellsP_le (sp : List Int) (s : Int) (i : Nat) : (cellsP sp s i).length ≤ sp.length := by
  unfold cellsP
  rw [cellsF_len]
  refine Nat.le_trans List.count_le_length ?_
  rw [List.length_take]
  exact Nat.min_le_right _ _
/-! ### the reference's cells -/
theorem celE0 {g : Int} {l : List Int} {s : Int} (h : celE g l s = 0) : dchk g l = 0 ∧ 0 ≤ s ∧ s < l.length ∧ l.getD s.toNat 0 ≠ 0 := by
  unfold celE at h
  cases h1 : okE g l
  · rw [h1, cond_false] at h
    unfold okE at h1
    rw [h] at h1
    cases h1
  · rw [h1, cond_true] at h
    cases h2 : decide (s < 0) || decide ((l.length : Int) ≤ s)
    · rw [h2, cond_false] at h
      simp only [Bool.or_eq_false_iff, decide_eq_false_iff_not] at h2
      cases h3 : l.getD s.toNat 0 == 0
      · exact ⟨by unfold okE at h1; simpa using h1, by omega, by omega, by simpa using h3⟩
      · rw [h3] at h; cases h
    · rw [h2] at h; cases h
theorem celO0 {g : Int} {l : List Int} {s : Int} (h : (celE g l s != (0 : Int)) = true) : celO g l s = [] := by unfold celO; rw [ne0 h]; rfl
theorem celO1 {g : Int} {l : List Int} {s : Int} (h : celE g l s = 0) : celO g l s = cellsL (spr g l) s := by unfold celO; rw [beq0 h]; rfl
theorem cel_bad {g : Int} {l : List Int} {s : Int} (h : dchk g l ≠ 0) : celE g l s = dchk g l := by
  have : okE g l = false := by unfold okE; simpa using h
  unfold celE
  rw [this]; rfl
theorem cel_out {g : Int} {l : List Int} {s : Int} (h : dchk g l = 0) (h2 : s < 0 ∨ (l.length : Int) ≤ s) : celE g l s = 2 := by
  have : okE g l = true := beq0 h
  unfold celE
  rw [this, cond_true]
  have : (decide (s < 0) || decide ((l.length : Int) ≤ s)) = true := by simpa using h2
  rw [this]; rfl
theorem cel_in {g : Int} {l : List Int} {s : Int} (h : dchk g l = 0) (h1 : 0 ≤ s) (h2 : s < l.length) : celE g l s = cond (l.getD s.toNat 0 == 0) 7 0 := by
  have : okE g l = true := beq0 h
  unfold celE
  rw [this, cond_true, decide_eq_false (by omega), decide_eq_false (by omega)]
  rfl
theorem rcelE_v (g : Int) (l : List Int) (s : Int) (h0 : l.length ≤ 4294967296) : rcelE_t g l s := by
  unfold rcelE_t
  refine ⟨h0, fun hd => ⟨fun hs => ⟨⟨fun h => (by cases h), fun _ => ⟨(), trivial, rfl, rfl, (cel_out (by simpa using hd) (.inl (by simpa using hs))).symm⟩⟩, ?_⟩, fun hs => ⟨fun hs2 => ⟨⟨fun h => (by cases h), fun _ => ⟨(), trivial, rfl, rfl, (cel_out (by simpa using hd) (.inr (by simpa using hs2))).symm⟩⟩, ?_⟩, fun hs2 => ⟨⟨fun _ => ?_, fun h => (by rw [hd] at h; cases h)⟩, ?_⟩⟩⟩, fun hd => ⟨⟨fun h => (by rw [hd] at h; cases h), fun _ => ⟨(), trivial, rfl, rfl, (cel_bad (by simpa using hd)).symm⟩⟩, ?_⟩⟩
  case refine_3 =>
    have hs : ¬ s < 0 := by simpa using hs
    have hs2 : ¬ s ≥ (l.length : Int) := by simpa using hs2
    have e := cel_in (g := g) (l := l) (s := s) (by simpa using hd) (by omega) (by omega)
    exact ⟨by omega, by omega, fun h => ⟨(), trivial, rfl, rfl, by rw [e, h]; rfl⟩, fun h => ⟨(), trivial, rfl, rfl, by rw [e, h]; simpa using hd⟩⟩
  all_goals
    intro _ _
    refine ⟨fun hb => ⟨by rw [celO0 hb]; rfl, rfl⟩, fun hb => ?_⟩
    have hc := eq0 hb
    have hdk := (celE0 hc).1
    have hdd := dchk0 hdk
    have hsz := szN_bd hdd.g5 hdd.g12
    have hspr : (sprO g l).length = szN g := by rw [sprO1 hdk, spr_len]
    refine ⟨⟨0, ⟨Nat.zero_le _, hc⟩, rfl, rfl, rfl, rfl⟩, fun i hi => ⟨fun hlt => ⟨by omega, by simpa using hlt, fun he => ?_, fun he => ?_⟩, fun hge => ?_⟩⟩
    · have hlt : i < (sprO g l).length := by simpa using hlt
      have hle := cellsP_le (sprO g l) s i
      refine ⟨by omega, i + 1, ⟨by omega, hc⟩, by rw [Nat.sub_eq, Nat.sub_eq]; omega, rfl, rfl, cnt_wrap (by omega), ?_⟩
      rw [cellsP_succ hlt]
      rw [toNat_cast] at he
      rw [he]; rfl
    · have hlt : i < (sprO g l).length := by simpa using hlt
      refine ⟨i + 1, ⟨by omega, hc⟩, by rw [Nat.sub_eq, Nat.sub_eq]; omega, rfl, rfl, cnt_wrap (by omega), ?_⟩
      rw [cellsP_succ hlt]
      rw [toNat_cast] at he
      rw [he]; simp
    · have hge : i = (sprO g l).length := by simp at hge; omega
      subst hge
      exact ⟨by rw [cellsP_all, celO1 hc, sprO1 hdk], hc.symm⟩
/-! ### encode tables -/
theorem encE_v (g : Int) (l : List Int) (h0 : l.length ≤ 4294967296) : encE_t g l := by
  unfold encE_t
  refine ⟨h0, fun h => ⟨(enc_bad h).1.symm, by rw [(enc_bad h).2]; rfl, rfl⟩, fun h => ⟨h0, fun h => ⟨(enc_bad h).1.symm, by rw [(enc_bad h).2]; rfl, rfl⟩, fun _ => ?_⟩⟩
  have h := eq0 h
  have hd := dchk0 h
  have hsz := szN_bd hd.g5 hd.g12
  have hn2 := hd.n2
  have hspr : (sprO g l).length = szN g := by rw [sprO1 h, spr_len]
  refine ⟨by omega, Int.le_refl _, by omega, by omega, ⟨0, ⟨Nat.zero_le _, h⟩, rfl, rfl, by rw [hspr], rfl, rfl, rfl, rfl, by rw [toNat_cast, states_zero]; rfl⟩, fun i hi => ⟨fun hlt => ?_, fun hge => ?_⟩⟩
  · have hlt : i < szN g := by simpa using hlt
    obtain ⟨s, k1, k2, k3⟩ := spr_sym hd hlt
    rw [← sprO1 h] at k3
    simp only [toNat_cast, k3, states_len, states_get k1]
    have etk : ∀ X : List Int, List.take (X.length - Int.toNat (0 : Int)) (List.drop (Int.toNat (0 : Int)) X) = X := fun X => by simp
    simp only [etk]
    have hle := cellsP_le (sprO g l) s i
    refine ⟨by omega, by rw [hspr]; omega, by omega, by omega, by omega, by omega, by omega, Int.le_refl _, (by first | rfl | trivial), by omega, by omega, by omega, by omega, i + 1, ⟨by omega, h⟩, by rw [Nat.sub_eq, Nat.sub_eq]; omega, (by first | rfl | trivial), (by first | rfl | trivial), (by first | rfl | trivial), cnt_wrap (by omega), (by first | rfl | trivial), (by first | rfl | trivial), (by first | rfl | trivial), states_succ (by rw [hspr]; exact hlt) k1 k3⟩
  · have hge : i = szN g := by simp at hge; omega
    subst hge
    refine ⟨(enc_good h).1.symm, ?_, h.symm⟩
    rw [(enc_good h).2, ← hspr, states_all, sprO1 h]
theorem encR_succ (g : Int) (l : List Int) (i : Nat) : encR g l (i + 1) = encR g l i ++ [celO g l (i : Int)] := by
  unfold encR
  rw [List.range_succ, List.map_append]
  rfl
theorem encR_all {g : Int} {l : List Int} (h : dchk g l = 0) : encR g l l.length = encL g l := by
  rw [(enc_good h).2]
  unfold encR statesL
  refine List.map_congr_left fun s hs => ?_
  rw [List.mem_range] at hs
  have e := cel_in (g := g) (l := l) (s := (s : Int)) h (by omega) (by omega)
  rw [toNat_cast] at e
  by_cases h0 : l.getD s 0 = 0
  · rw [beq0 h0] at e
    rw [celO0 (by rw [e]; rfl), cells_zero (dchk0 h) hs h0]
  · have : (l.getD s 0 == 0) = false := by simpa using h0
    rw [this] at e
    exact celO1 e
theorem rencE_v (g : Int) (l : List Int) (h0 : l.length ≤ 4294967296) : rencE_t g l := by
  unfold rencE_t
  refine ⟨h0, fun h => ⟨(enc_bad h).1.symm, by rw [(enc_bad h).2]; rfl, rfl⟩, fun h => ?_⟩
  have h := eq0 h
  have hd := dchk0 h
  have hn2 := hd.n2
  refine ⟨⟨0, ⟨Nat.zero_le _, h⟩, rfl, rfl, rfl, rfl, rfl, rfl, rfl, rfl⟩, fun i hi => ⟨fun hlt => ?_, fun hge => ?_⟩⟩
  · have hlt : i < l.length := by simpa using hlt
    have hel : (encR g l i).length = i := by simp [encR]
    exact ⟨h0, by rw [hel]; omega, i + 1, ⟨by omega, h⟩, by rw [Nat.sub_eq, Nat.sub_eq]; omega, rfl, cnt_wrap (by omega), rfl, rfl, rfl, rfl, rfl, (encR_succ g l i).symm⟩
  · have hge : i = l.length := by simp at hge; omega
    subst hge
    exact ⟨(enc_good h).1.symm, encR_all h, h.symm⟩
theorem one_bad {s : Int} (h : s < 0 ∨ 255 < s) : oneL s = [] ∧ oneE s = 2 := by
  have : badS s = true := by unfold badS; simpa using h
  unfold oneL oneE
  rw [this]
  exact ⟨rfl, rfl⟩
theorem one_good {s : Int} (h1 : 0 ≤ s) (h2 : s ≤ 255) : oneL s = (List.replicate (s + 1).toNat []).set s.toNat [0] ∧ oneE s = 0 := by
  have : badS s = false := by unfold badS; simp; omega
  unfold oneL oneE
  rw [this]
  exact ⟨rfl, rfl⟩
theorem oneE1_v (s : Int) : oneE1_t s := by
  unfold oneE1_t
  refine ⟨fun h => ?_, fun h => ⟨fun h2 => ?_, fun h2 => ?_⟩⟩
  · obtain ⟨e1, e2⟩ := one_bad (s := s) (.inl (by simpa using h))
    exact ⟨rfl, by rw [e1]; rfl, e2.symm⟩
  · obtain ⟨e1, e2⟩ := one_bad (s := s) (.inr (by simpa using h2))
    exact ⟨rfl, by rw [e1]; rfl, e2.symm⟩
  · have h : ¬ s < 0 := by simpa using h
    have h2 : ¬ s > 255 := by simpa using h2
    obtain ⟨e1, e2⟩ := one_good (s := s) (by omega) (by omega)
    rw [wr (n := s + 1) (by omega) (by omega), List.length_replicate]
    exact ⟨by omega, Int.le_refl _, by omega, by omega, by omega, by omega, by omega, rfl, e1.symm, e2.symm⟩
theorem roneE1_v (s : Int) : roneE1_t s := by
  unfold roneE1_t
  refine ⟨fun h => ?_, fun h => ⟨fun h2 => ?_, fun h2 => ?_⟩⟩
  · obtain ⟨e1, e2⟩ := one_bad (s := s) (.inl (by simpa using h))
    exact ⟨rfl, by rw [e1]; rfl, e2.symm⟩
  · have h2 : s ≥ 256 := by simpa using h2
    obtain ⟨e1, e2⟩ := one_bad (s := s) (.inr (by omega))
    exact ⟨rfl, by rw [e1]; rfl, e2.symm⟩
  · have h : ¬ s < 0 := by simpa using h
    have h2 : ¬ s ≥ 256 := by simpa using h2
    obtain ⟨e1, e2⟩ := one_good (s := s) (by omega) (by omega)
    rw [wr (n := s + 1) (by omega) (by omega), List.length_replicate]
    exact ⟨by omega, Int.le_refl _, by omega, by omega, by omega, by omega, by omega, rfl, e1.symm, e2.symm⟩
theorem sameE_v (a : Int) (x : List (List Int)) (b : Int) (y : List (List Int)) (h0 : x.length ≤ 4294967296) (h1 : x.flatten.length ≤ 4294967296) : sameE_t a x b y := by
  unfold sameE_t
  refine ⟨fun h => ?_, fun h => ⟨fun h2 => ?_, fun h2 => ?_⟩⟩
  · have : (a == b) = false := by
      cases hb : a == b
      · rfl
      · have : a = b := by simpa using hb
        subst this
        simp at h
    rw [this]; rfl
  · have : sameL x y = false := by
      unfold sameL
      rw [beq_eq_false_iff_ne]
      rintro rfl
      simp at h2
    rw [this, Bool.and_false]
  · have hab : a = b := by simpa using h
    have hxy : x.length = y.length := by have : (x.length : Int) = y.length := by simpa using h2
                                         omega
    refine ⟨⟨0, ⟨Nat.zero_le _, hxy, hab, rfl⟩, rfl, rfl, rfl, rfl, rfl⟩, fun i hi => ⟨fun hlt => ?_, fun hge => ?_⟩⟩
    · have hlt : i < x.length := by simpa using hlt
      rw [toNat_cast]
      have hrow := row_le x i
      refine ⟨by omega, by omega, by omega, by omega, by omega, fun hb => ?_, fun hb => ⟨i + 1, ⟨by omega, hxy, hab, ?_⟩, by rw [Nat.sub_eq, Nat.sub_eq]; omega, cnt_wrap64 (by omega), rfl, rfl, rfl, rfl⟩⟩
      · have : sameL x y = false := by
          unfold sameL
          rw [beq_eq_false_iff_ne]
          rintro rfl
          simp [eqI] at hb
        rw [this, Bool.and_false]
      · have hb : x.getD i [] = y.getD i [] := by simpa [eqI] using hb
        rw [take_succ x [] hlt, take_succ y [] (by omega), hi.2.2.2, hb]
    · have hge : i = x.length := by simp at hge; omega
      subst hge
      have e := hi.2.2.2
      rw [List.take_length, hxy, List.take_length] at e
      subst e
      subst hab
      simp [sameL]
/-! ### in order, copies -/
theorem sortedE_v (l : List Int) (h0 : l.length ≤ 4294967296) : sortedE_t l := by
  unfold sortedE_t
  refine ⟨⟨0, ⟨Nat.zero_le _, fun m h1 h2 => by omega⟩, rfl, by rw [wr (by omega) (by omega)]; simp⟩, fun k hk => ⟨fun hlt => ?_, fun hge => ?_⟩⟩
  · have hlt : (l.length : Int) - 1 - k > 0 := by simpa using hlt
    have e1 : ((l.length : Int) - 1 - k).toNat = l.length - 1 - k := by omega
    have e2 : IntKind.wrap IntKind.i64 ((l.length : Int) - 1 - k - 1) = (l.length : Int) - 1 - k - 1 := wr (by omega) (by omega)
    have e3 : ((l.length : Int) - 1 - k - 1).toNat = l.length - 1 - k - 1 := by omega
    rw [e2, e1, e3]
    refine ⟨by omega, by omega, by omega, by omega, fun h => ?_, fun h => ⟨k + 1, ⟨by omega, fun m h1 h2 => ?_⟩, by rw [Nat.sub_eq, Nat.sub_eq]; omega, rfl, by push_cast; omega⟩⟩
    · have h : l.getD (l.length - 1 - k) 0 < l.getD (l.length - 1 - k - 1) 0 := by simpa using h
      symm
      rw [Bool.eq_false_iff]
      intro hs
      have := sorted_iff.1 hs (l.length - 1 - k - 1) (by omega)
      rw [show l.length - 1 - k - 1 + 1 = l.length - 1 - k by omega] at this
      omega
    · have h : ¬ l.getD (l.length - 1 - k) 0 < l.getD (l.length - 1 - k - 1) 0 := by simpa using h
      rcases Nat.lt_or_ge (m + k) l.length with h3 | h3
      · have : m = l.length - 1 - k := by omega
        subst this
        omega
      · exact hk.2 m h3 h2
  · have hge : ¬ (l.length : Int) - 1 - k > 0 := by simpa using hge
    symm
    rw [sorted_iff]
    intro i hi
    have := hk.2 (i + 1) (by omega) hi
    simpa using this
theorem cutE_v (t : List (List Int)) (h0 : t.length ≤ 65536) (h1 : t.flatten.length ≤ 65536) : cutE_t t := by
  unfold cutE_t
  refine ⟨by omega, Int.le_refl _, by omega, by omega, ⟨0, Nat.zero_le _, rfl, rfl, rfl, by rw [toNat_cast, cutP_zero]; rfl⟩, fun i hi => ⟨fun hlt => ?_, fun hge => ?_⟩⟩
  · have hlt : i < t.length := by simpa using hlt
    rw [nle] at hi
    have hrow := row_le t i
    have e : ∀ X : List Int, List.take (Int.toNat (0 : Int) - Int.toNat (0 : Int)) X = [] := fun X => by simp
    rw [toNat_cast, cutP_len hi, e, List.nil_append]
    exact ⟨by omega, by omega, by omega, by omega, by omega, rfl, by rw [List.length_nil, Nat.zero_add]; omega, by omega, by omega, by omega, i + 1, by rw [nle]; omega, by rw [Nat.sub_eq, Nat.sub_eq]; omega, rfl, rfl, cnt_wrap (by omega), cutP_succ hlt⟩
  · have hge : i = t.length := by rw [nle] at hi; simp at hge; omega
    subst hge
    exact cutP_all t
theorem gatherE_v (t : List (List Int)) (h0 : t.length ≤ 65536) (h1 : t.flatten.length ≤ 65536) : gatherE_t t := by
  unfold gatherE_t
  refine ⟨⟨0, Nat.zero_le _, rfl, rfl, rfl, rfl⟩, fun i hi => ⟨fun hlt => ?_, fun hge => ?_⟩⟩
  · have hlt : i < t.length := by simpa using hlt
    have hrow := row_le t i
    have hf := flatP_le t i
    rw [toNat_cast]
    exact ⟨by omega, by omega, by omega, i + 1, by rw [nle]; omega, by rw [Nat.sub_eq, Nat.sub_eq]; omega, rfl, rfl, cnt_wrap (by omega), (flatP_succ hlt).symm⟩
  · have hge : i = t.length := by rw [nle] at hi; simp at hge; omega
    subst hge
    exact flatP_all t
/-! ### which tables are right -/
theorem wu0 {g : Int} (h1 : 0 ≤ g) (h2 : g ≤ 12) : IntKind.wrap IntKind.u64 g = g := wru (by omega) (by omega)
theorem sz_wrap0 {g : Int} (h1 : 0 ≤ g) (h2 : g ≤ 12) : IntKind.wrap IntKind.i64 ((1 : Int) * (2 : Int) ^ min (Int.toNat g) (IntKind.bits IntKind.i64)) = (szN g : Int) := by
  rw [shl1 (by omega) (by omega), szI]
theorem ebad_of {g : Int} {t : List (List Int)} (h : g < 0 ∨ 12 < g ∨ 256 < t.length) : ebad g t = true := by
  cases hb : ebad g t
  · have := ebad_iff.1 hb; omega
  · rfl
theorem litT_of {g : Int} {t : List (List Int)} (h : litT g t = true) (hb : ebad g t = false) : t.flatten.length ≤ 65536 := by
  unfold litT at h
  rw [hb] at h
  simpa using h
theorem chkE_v (g : Int) (t : List (List Int)) (h0 : t.length ≤ 4294967296) (h1 : litT g t = true) : chkE_t g t := by
  unfold chkE_t
  refine ⟨fun h => (echk_bad (ebad_of (.inl (by simpa using h)))).symm, fun h => ⟨fun h2 => (echk_bad (ebad_of (.inr (.inl (by simpa using h2))))).symm, fun h2 => ⟨fun h3 => (echk_bad (ebad_of (.inr (.inr (gt_nat (by simpa using h3)))))).symm, fun h3 => ?_⟩⟩⟩
  have hg0 : ¬ g < 0 := by simpa using h
  have hg12 : ¬ g > 12 := by simpa using h2
  have hn : ¬ (t.length : Int) > 256 := by simpa using h3
  have hb : ebad g t = false := ebad_iff.2 ⟨by omega, by omega, by omega⟩
  have hf := litT_of h1 hb
  have hsz := sz0 (g := g) (by omega) (by omega)
  have e1 := wu0 (g := g) (by omega) (by omega)
  refine ⟨⟨0, ⟨Nat.zero_le _, hb, rfl⟩, rfl, rfl, rfl, rfl, rfl⟩, fun i hi => ⟨fun hlt => ?_, fun hge => ?_⟩⟩
  · have hlt : i < t.length := by simpa using hlt
    have hrow := row_le t i
    rw [toNat_cast]
    refine ⟨by omega, by omega, by omega, fun hs => ?_, fun hs => ⟨i + 1, ⟨by omega, hb, ?_⟩, by rw [Nat.sub_eq, Nat.sub_eq]; omega, rfl, rfl, cnt_wrap (by omega), rfl, rfl⟩⟩
    · refine (echk_form hb fun hx => ?_).symm
      have := List.all_eq_true.1 hx.1 _ (getD_row hlt)
      rw [this] at hs
      cases hs
    · rw [take_succ t [] hlt, List.all_append, hi.2.2]
      simpa using hs
  · have hge : i = t.length := by simp at hge; omega
    subst hge
    have hall : t.all sorted = true := by have := hi.2.2; rwa [List.take_length] at this
    rw [e1, srtI_len, sz_wrap0 (by omega) (by omega)]
    refine ⟨by omega, by omega, by omega, by omega, by omega, by omega, fun hl => ?_, fun hl => ?_⟩
    · refine (echk_form hb fun hx => ?_).symm
      rw [hx.2.len] at hl
      simp at hl
    · have hlen : t.flatten.length = szN g := by have : (t.flatten.length : Int) = szN g := by simpa using hl
                                                 omega
      refine ⟨⟨0, ⟨Nat.zero_le _, hb, hall, hlen, fun k hk => by omega⟩, by rw [hlen], rfl, rfl⟩, fun j hj => ⟨fun hlt => ?_, fun hge => ?_⟩⟩
      · have hlt : j < szN g := by simpa using hlt
        rw [toNat_cast, hlen]
        refine ⟨by omega, by omega, by omega, fun hne => ?_, fun he => ⟨j + 1, ⟨by omega, hb, hall, by first | rfl | exact hlen, fun k hk => ?_⟩, by rw [Nat.sub_eq, Nat.sub_eq]; omega, rfl, cnt_wrap (by omega), rfl⟩⟩
        · refine (echk_form hb fun hx => ?_).symm
          rw [whole_srt hx.2] at hne
          simp [upL, List.getD_eq_getElem?_getD, List.getElem?_range hlt] at hne
        · rcases Nat.lt_or_ge k j with h5 | h5
          · exact hj.2.2.2.2 k h5
          · have : k = j := by omega
            subst this
            have he : (k : Int) = (srtI t.flatten).getD k 0 := by simpa using he
            exact he.symm
      · have hge : j = szN g := by simp at hge; omega
        subst hge
        refine (echk_good hb hall (srt_whole ?_)).symm
        apply List.ext_getElem?
        intro k
        by_cases hk : k < szN g
        · have := hj.2.2.2.2 k hk
          rw [List.getD_eq_getElem?_getD, List.getElem?_eq_getElem (by rw [srtI_len, hlen]; exact hk)] at this
          rw [List.getElem?_eq_getElem (by rw [srtI_len, hlen]; exact hk)]
          simp only [Option.getD_some] at this
          rw [this]
          simp [upL, List.getElem?_range hk]
        · rw [List.getElem?_eq_none (by rw [srtI_len]; omega), List.getElem?_eq_none (by simp [upL]; omega)]
theorem ChkOk.zero (g : Int) (t : List (List Int)) : ChkOk g t 0 0 := ⟨fun c hc => by simp [preF, flatP] at hc, by simp [preF, flatP], fun k hk => by omega, by simp [sorted]⟩
theorem sorted_snoc {l : List Int} {c : Int} (h : sorted l = true) (hc : ∀ k, l.length = k + 1 → l.getD k 0 ≤ c) : sorted (l ++ [c]) = true := by
  rw [sorted_iff] at h ⊢
  intro i hi
  simp only [List.length_append, List.length_singleton] at hi
  by_cases h1 : i + 1 < l.length
  · have := h i h1
    simp only [List.getD_eq_getElem?_getD] at this ⊢
    rw [List.getElem?_append_left (by omega), List.getElem?_append_left h1]
    exact this
  · have e : l.length = i + 1 := by omega
    have := hc i e
    simp only [List.getD_eq_getElem?_getD] at this ⊢
    rw [List.getElem?_append_left (by omega), List.getElem?_append_right (by omega)]
    simpa [e] using this
theorem ChkOk.succ {g : Int} {t : List (List Int)} {s i : Nat} (h : ChkOk g t s i) (hi : i < (t.getD s []).length) (h0 : 0 ≤ (t.getD s []).getD i 0) (h1 : (t.getD s []).getD i 0 < (szN g : Int)) (hm : (t.getD s []).getD i 0 ∉ preF t s i)
    (hle : ∀ k, i = k + 1 → (t.getD s []).getD k 0 ≤ (t.getD s []).getD i 0) : ChkOk g t s (i + 1) := by
  refine ⟨fun c hc => ?_, ?_, h.srt, ?_⟩
  · rw [preF_succ hi, List.mem_append, List.mem_singleton] at hc
    rcases hc with hc | rfl
    · exact h.rng c hc
    · exact ⟨h0, h1⟩
  · rw [preF_succ hi, List.nodup_append]
    refine ⟨h.nodup, by simp, fun a ha b hb => ?_⟩
    simp only [List.mem_singleton] at hb
    rintro rfl
    exact hm (hb ▸ ha)
  · rw [take_succ (t.getD s []) 0 hi]
    refine sorted_snoc h.cur fun k hk => ?_
    rw [List.length_take] at hk
    have := hle k (by omega)
    simp only [List.getD_eq_getElem?_getD] at this ⊢
    rw [List.getElem?_take, if_pos (by omega)]
    exact this
theorem ChkOk.next {g : Int} {t : List (List Int)} {s : Nat} (hs : s < t.length) (h : ChkOk g t s (t.getD s []).length) : ChkOk g t (s + 1) 0 := by
  have e := preF_all hs
  refine ⟨by rw [← e]; exact h.rng, by rw [← e]; exact h.nodup, fun k hk => ?_, by simp [sorted]⟩
  rcases Nat.lt_or_ge k s with h1 | h1
  · exact h.srt k h1
  · have : k = s := by omega
    subst this
    have := h.cur
    rwa [List.take_length] at this
/-- what is wrong stays wrong -/
theorem wrong {g : Int} {t : List (List Int)} {s i : Nat} (hb : ebad g t = false) (hs : s < t.length) (hi : i < (t.getD s []).length)
    (h : (t.getD s []).getD i 0 < 0 ∨ (szN g : Int) ≤ (t.getD s []).getD i 0 ∨ (t.getD s []).getD i 0 ∈ preF t s i ∨ ∃ k, i = k + 1 ∧ (t.getD s []).getD i 0 ≤ (t.getD s []).getD k 0) : echk g t = 3 := by
  refine echk_form hb fun ⟨ha, hw⟩ => ?_
  obtain ⟨r, hr⟩ := flat_pre (s := s) (i := i + 1) hs
  rw [preF_succ hi] at hr
  have hin : (t.getD s []).getD i 0 ∈ t.flatten := by rw [hr]; simp
  have hrng := hw.rng _ hin
  have hnd := hw.nodup
  rw [hr] at hnd
  have hnd2 := (List.nodup_append.1 hnd).1
  have hnm : (t.getD s []).getD i 0 ∉ preF t s i := fun hm => (List.nodup_append.1 hnd2).2.2 _ hm _ (by simp) rfl
  rcases h with h | h | h | ⟨k, rfl, h⟩
  · omega
  · omega
  · exact hnm h
  · have hsr := sorted_iff.1 (List.all_eq_true.1 ha _ (getD_row hs)) k hi
    have e : (t.getD s []).getD (k + 1) 0 = (t.getD s []).getD k 0 := by omega
    refine hnm ?_
    rw [e]
    unfold preF
    rw [List.mem_append]
    right
    rw [take_succ (t.getD s []) 0 (show k < _ by omega)]
    simp
theorem rchkE_v (g : Int) (t : List (List Int)) (h0 : t.length ≤ 4294967296) (h1 : litT g t = true) : rchkE_t g t := by
  unfold rchkE_t
  refine ⟨fun h => (echk_bad (ebad_of (.inl (by simpa using h)))).symm, fun h => ⟨fun h2 => (echk_bad (ebad_of (.inr (.inl (by simpa using h2))))).symm, fun h2 => ⟨fun h3 => (echk_bad (ebad_of (.inr (.inr (gt_nat (by simpa using h3)))))).symm, fun h3 => ?_⟩⟩⟩
  have hg0 : ¬ g < 0 := by simpa using h
  have hg12 : ¬ g > 12 := by simpa using h2
  have hn : ¬ (t.length : Int) > 256 := by simpa using h3
  have hb : ebad g t = false := ebad_iff.2 ⟨by omega, by omega, by omega⟩
  have hf := litT_of h1 hb
  have hsz := sz0 (g := g) (by omega) (by omega)
  have e1 := wu0 (g := g) (by omega) (by omega)
  simp only [e1, sz_wrap0 (show 0 ≤ g by omega) (show g ≤ 12 by omega)]
  refine ⟨by omega, by omega, Int.le_refl _, by omega, by omega, ⟨0, ⟨Nat.zero_le _, hb, ChkOk.zero g t⟩, (by first | rfl | trivial), by simp [preF, flatP], (by first | rfl | trivial), (by first | rfl | trivial), (by first | rfl | trivial), by rw [toNat_cast]; rfl⟩, fun s hs => ⟨fun hlt => ?_, fun hge => ?_⟩⟩
  · have hlt : s < t.length := by simpa using hlt
    refine ⟨s, ⟨0, ⟨hlt, Nat.zero_le _, hb, hs.2.2⟩, (by first | rfl | trivial), (by first | rfl | trivial), (by first | rfl | trivial), (by first | rfl | trivial), (by first | rfl | trivial), (by first | rfl | trivial), (by first | rfl | trivial)⟩, fun i hi => ?_⟩
    obtain ⟨_, hi1, _, hok⟩ := hi
    have hrow := row_le t s
    have hpl := preF_le (i := i) hlt
    simp only [toNat_cast]
    refine ⟨by omega, by omega, fun hil => ?_, fun hil => ?_⟩
    · have hil : i < (t.getD s []).length := by simpa using hil
      generalize hc : (t.getD s []).getD i 0 = c
      refine ⟨by omega, by omega, by omega, by omega, fun hx => (wrong hb hlt hil (.inl (by rw [hc]; simpa using hx))).symm, fun hx => ⟨fun hy => (wrong hb hlt hil (.inr (.inl (by rw [hc]; simpa using hy)))).symm, fun hy => ?_⟩⟩
      have hx : ¬ c < 0 := by simpa using hx
      have hy : ¬ c ≥ (szN g : Int) := by simpa using hy
      have hseen := seen_get (g := g) (preF t s i) hok.rng c (by omega) (by omega)
      rw [seen_len]
      refine ⟨by omega, by omega, by omega, fun hz => (wrong hb hlt hil (.inr (.inr (.inl (by rw [hc]; exact hseen.1 hz))))).symm, fun hz => ?_⟩
      have hnm : c ∉ preF t s i := fun hm => by rw [hseen.2 hm] at hz; cases hz
      have step : (∀ k, i = k + 1 → (t.getD s []).getD k 0 ≤ (t.getD s []).getD i 0) → ∃ y : Nat, (s < t.length ∧ y ≤ (t.getD s []).length ∧ ebad g t = false ∧ ChkOk g t s y) ∧ Nat.sub (t.getD s []).length y < Nat.sub (t.getD s []).length i ∧
          IntKind.wrap IntKind.i64 ((↑(List.length (preF t s i)) : Int) + (1 : Int)) = (↑(List.length (preF t s y)) : Int) ∧ IntKind.wrap IntKind.i64 ((↑i : Int) + (1 : Int)) = (↑y : Int) ∧ List.set (seenL g (preF t s i)) (Int.toNat c) true = seenL g (preF t s y) := by
        intro hle
        refine ⟨i + 1, ⟨hlt, by omega, hb, hok.succ hil (by omega) (by omega) (by rw [hc]; exact hnm) hle⟩, by rw [Nat.sub_eq, Nat.sub_eq]; omega, ?_, cnt_wrap (by omega), ?_⟩
        · rw [preF_succ hil, List.length_append, List.length_singleton]
          exact cnt_wrap (by omega)
        · rw [preF_succ hil, hc, seen_snoc]
      refine ⟨fun hp => ?_, fun hp => ?_⟩
      · have hp : (i : Int) > 0 := by simpa using hp
        have ew : IntKind.wrap IntKind.i64 ((i : Int) - 1) = (i : Int) - 1 := wr (by omega) (by omega)
        have ei : ((i : Int) - 1).toNat = i - 1 := by omega
        rw [ew, ei]
        refine ⟨by omega, by omega, by omega, by omega, fun hq => (wrong hb hlt hil (.inr (.inr (.inr ⟨i - 1, by omega, by rw [hc]; simpa using hq⟩)))).symm, fun hq => ?_⟩
        have hq : ¬ c ≤ (t.getD s []).getD (i - 1) 0 := by simpa using hq
        obtain ⟨y, k1, k2, k3, k4, k5⟩ := step (fun k hk => by
          have : k = i - 1 := by omega
          subst this
          omega)
        exact ⟨by omega, by omega, by omega, y, k1, k2, (by first | rfl | trivial), k3, (by first | rfl | trivial), k4, (by first | rfl | trivial), (by first | rfl | trivial), k5⟩
      · have hp : ¬ (i : Int) > 0 := by simpa using hp
        obtain ⟨y, k1, k2, k3, k4, k5⟩ := step (fun k hk => by omega)
        exact ⟨by omega, by omega, by omega, y, k1, k2, (by first | rfl | trivial), k3, (by first | rfl | trivial), k4, (by first | rfl | trivial), (by first | rfl | trivial), k5⟩
    · have hil : i = (t.getD s []).length := by rw [decide_eq_false_iff_not] at hil; omega
      subst hil
      exact ⟨s + 1, ⟨by omega, hb, hok.next hlt⟩, by rw [Nat.sub_eq, Nat.sub_eq]; omega, (by first | rfl | trivial), by rw [preF_all hlt], cnt_wrap (by omega), (by first | rfl | trivial), (by first | rfl | trivial), by rw [preF_all hlt]⟩
  · have hge : s = t.length := by simp at hge; omega
    subst hge
    have e : preF t t.length 0 = t.flatten := by rw [preF_zero, flatP_all]
    have hok := hs.2.2
    have hall : t.all sorted = true := by
      rw [List.all_eq_true]
      intro x hx
      obtain ⟨k, hk, rfl⟩ := List.mem_iff_getElem.1 hx
      have := hok.srt k hk
      rwa [List.getD_eq_getElem?_getD, List.getElem?_eq_getElem hk] at this
    rw [e]
    refine ⟨fun hl => ?_, fun hl => ?_⟩
    · refine (echk_form hb fun hx => ?_).symm
      rw [hx.2.len] at hl
      simp at hl
    · have hlen : t.flatten.length = szN g := by have : (t.flatten.length : Int) = szN g := by simpa using hl
                                                 omega
      exact (echk_good hb hall ⟨by rw [← e]; exact hok.nodup, by rw [← e]; exact hok.rng, hlen⟩).symm
end Go.Proofs.Ytbdgknebimdjoaa
/-
  Chapter 11: the conditions of steps hold. Conditions: each theorem's own.
-/
namespace Go.Proofs.Ytbdgknebimdjoaa
open Go Go.RowKit
set_option linter.unusedVariables false
set_option linter.unusedSimpArgs false
set_option maxRecDepth 100000
theorem and_pow64 (a n : Nat) (ha : a ≤ 100000) (hn : n ≤ 20) : bits .and .i64 (a : Int) ((2 : Int) ^ n - 1) = ((a % 2 ^ n : Nat) : Int) := by
  have hx : ∀ a : Nat, a ≤ 4294967295 → (BitVec.ofInt 64 (a : Int)).toNat = a := fun a ha => by
    rw [BitVec.ofInt_natCast, BitVec.toNat_ofNat]; exact Nat.mod_eq_of_lt (by omega)
  have h1 := Nat.two_pow_pos n
  have h2 := Nat.pow_le_pow_right (show 0 < 2 by omega) hn
  have e : (2 : Int) ^ n - 1 = ((2 ^ n - 1 : Nat) : Int) := by rw [pow_cast]; omega
  rw [e]
  show IntKind.i64.wrap ((BitVec.ofInt 64 (a : Int) &&& BitVec.ofInt 64 ((2 ^ n - 1 : Nat) : Int)).toNat : Int) = _
  rw [BitVec.toNat_and, hx a (by omega), hx _ (by omega), Nat.and_two_pow_sub_one_eq_mod, IntKind.wrap_i64]
  have h3 : a % 2 ^ n ≤ a := Nat.mod_le _ _
  omega
theorem and_powu (a n : Nat) (ha : a ≤ 100000) (hn : n ≤ 20) : bits .and .u64 (a : Int) ((2 : Int) ^ n - 1) = ((a % 2 ^ n : Nat) : Int) := by
  have hx : ∀ a : Nat, a ≤ 4294967295 → (BitVec.ofInt 64 (a : Int)).toNat = a := fun a ha => by
    rw [BitVec.ofInt_natCast, BitVec.toNat_ofNat]; exact Nat.mod_eq_of_lt (by omega)
  have h1 := Nat.two_pow_pos n
  have h2 := Nat.pow_le_pow_right (show 0 < 2 by omega) hn
  have e : (2 : Int) ^ n - 1 = ((2 ^ n - 1 : Nat) : Int) := by rw [pow_cast]; omega
  rw [e]
  show IntKind.u64.wrap ((BitVec.ofInt 64 (a : Int) &&& BitVec.ofInt 64 ((2 ^ n - 1 : Nat) : Int)).toNat : Int) = _
  rw [BitVec.toNat_and, hx a (by omega), hx _ (by omega), Nat.and_two_pow_sub_one_eq_mod, IntKind.wrap_u64]
  have h3 : a % 2 ^ n ≤ a := Nat.mod_le _ _
  omega
/-- the numbers of a step -/
structure StpN (g : Int) (t : List (List Int)) (x s : Int) : Prop where
  p1 : 1 ≤ ((celT t s).length : Int)
  X1 : (szN g : Int) ≤ putX g x
  X2 : putX g x < 2 * (szN g : Int)
  sz : (szN g : Int) ≤ 4096
  nb : NbOk (putX g x) (celT t s).length
  h0 : 0 ≤ hiI (celT t s).length
  hX : hiI (putX g x) ≤ 13
theorem log2_le {n k : Nat} (h : n < 2 ^ (k + 1)) (h0 : n ≠ 0) : Nat.log2 n ≤ k := by
  have := (Nat.log2_lt h0 (k := k + 1)).2 h
  omega
theorem stpN {g : Int} {t : List (List Int)} {x s : Int} (h0 : 0 ≤ g) (h1 : g ≤ 12) (hx0 : 0 ≤ x) (hx1 : x < (szN g : Int)) (hn : noC t s = false) (hl : (celT t s).length ≤ szN g) : StpN g t x s := by
  have hsz := sz0 h0 h1
  have hp : 1 ≤ ((celT t s).length : Int) := by
    rcases Nat.eq_zero_or_pos (celT t s).length with h | h
    · rw [noC_iff.2 h] at hn; cases hn
    · omega
  have hX : putX g x = x + (szN g : Int) := rfl
  refine ⟨hp, by omega, by omega, by omega, nb_ok hp (by omega), ?_, ?_⟩
  · rw [hiI_pos (by omega)]; omega
  · rw [hiI_pos (by omega)]
    have := log2_le (n := (putX g x).toNat) (k := 13) (by omega) (by omega)
    omega
theorem celsE_v (g : Int) (t : List (List Int)) (s : Int) : celsE_t g t s := by
  unfold celsE_t
  refine ⟨fun h => ?_, fun h => ⟨fun h2 => ?_, fun h2 => ?_⟩⟩
  · rw [celT_out (.inl (by simpa using h))]; rfl
  · rw [celT_out (.inr (by simpa using h2))]; rfl
  · have h : ¬ s < 0 := by simpa using h
    have h2 : ¬ s ≥ (t.length : Int) := by simpa using h2
    exact ⟨by omega, by omega, (celT_in (by omega) (by omega)).symm⟩
theorem celM_out {t : List (List Int)} {s : Int} (h : (celT t s).length = 0) : celM t s = 7 := by unfold celM; rw [noC_iff.2 h]; rfl
theorem celM_in {t : List (List Int)} {s : Int} (h : (celT t s).length ≠ 0) : celM t s = 0 := by
  have : noC t s = false := by
    cases hb : noC t s
    · rfl
    · exact absurd (noC_iff.1 hb) h
  unfold celM; rw [this]; rfl
theorem rcelsE_v (g : Int) (t : List (List Int)) (s : Int) : rcelsE_t g t s := by
  unfold rcelsE_t
  refine ⟨fun h => ?_, fun h => ⟨fun h2 => ?_, fun h2 => ?_⟩⟩
  · have e := celT_out (t := t) (s := s) (.inl (by simpa using h))
    exact ⟨by rw [e]; rfl, (celM_out (by rw [e]; rfl)).symm⟩
  · have e := celT_out (t := t) (s := s) (.inr (by simpa using h2))
    exact ⟨by rw [e]; rfl, (celM_out (by rw [e]; rfl)).symm⟩
  · have h : ¬ s < 0 := by simpa using h
    have h2 : ¬ s ≥ (t.length : Int) := by simpa using h2
    have e := celT_in (t := t) (s := s) (by omega) (by omega)
    rw [← e]
    refine ⟨by omega, by omega, fun h3 => ?_, fun h3 => ⟨by omega, by omega, rfl, ?_⟩⟩
    · have h3 : (celT t s).length = 0 := by have : ((celT t s).length : Int) = 0 := by simpa using h3
                                            omega
      exact ⟨h3, (celM_out h3).symm⟩
    · have h3 : ¬ (celT t s).length = 0 := by
        intro h4
        rw [h4] at h3
        cases h3
      exact (celM_in h3).symm
theorem pow_n {n : Int} (h0 : 0 ≤ n) (h1 : n ≤ 13) : (2 : Int) ^ n.toNat ≤ 8192 := by
  have := pow_mono (show n.toNat ≤ 13 by omega)
  simpa using this
theorem putE_v (g : Int) (t : List (List Int)) (x s : Int) (h0 : 0 ≤ g) (h1 : g ≤ 12) (ht : t.length ≤ 4294967296) (hx0 : 0 ≤ x) (hx1 : x < (szN g : Int)) (hn : noC t s = false) (hl : (celT t s).length ≤ szN g) : putE_t g t x s := by
  have hs := stpN h0 h1 hx0 hx1 hn hl
  obtain ⟨k1, k2, k3, k4, k5, k6, k7⟩ := hs
  have hX : putX g x = x + (szN g : Int) := rfl
  have hn0 := k5.n0
  have hnle := k5.nle
  have hlo := k5.lo
  have hhi := k5.hi
  have hnu := k5.nu
  have e1 : IntKind.wrap IntKind.u64 x = x := wru (by omega) (by omega)
  have e2 : IntKind.wrap IntKind.u64 ((1 : Int) * (2 : Int) ^ min (Int.toNat (IntKind.wrap IntKind.u64 g)) (IntKind.bits IntKind.u64)) = (szN g : Int) := by
    rw [wu0 h0 h1, bu64, Nat.min_eq_left (by omega), Int.one_mul, ← szI]
    exact wru (by omega) (by omega)
  have e3 : IntKind.wrap IntKind.u64 ((celT t s).length : Int) = ((celT t s).length : Int) := wru (by omega) (by omega)
  have e4 : IntKind.wrap IntKind.u64 (x + (szN g : Int)) = putX g x := by rw [← hX]; exact wru (by omega) (by omega)
  have e5 : IntKind.wrap IntKind.i64 (hiI (putX g x) + 1 - (hiI ((celT t s).length : Int) + 1)) = hiI (putX g x) - hiI ((celT t s).length : Int) := by
    rw [wr (by omega) (by omega)]; omega
  have e6 : IntKind.wrap IntKind.u64 (hiI (putX g x) - hiI ((celT t s).length : Int)) = hiI (putX g x) - hiI ((celT t s).length : Int) := wru (by omega) (by omega)
  have en : IntKind.wrap IntKind.u64 (putN g t x s) = putN g t x s := wru (by unfold putN; omega) (by unfold putN; omega)
  have em : ∀ n : Int, 0 ≤ n → n ≤ 13 → min n.toNat (IntKind.bits IntKind.u64) = n.toNat := fun n _ _ => by rw [bu64]; omega
  have ed : ∀ n : Int, 0 ≤ n → n ≤ 13 → Int.fdiv (putX g x) ((2 : Int) ^ n.toNat) = putX g x / 2 ^ n.toNat := fun n _ _ => fdivp (by have := pow_pos' n.toNat; omega)
  have hpn : putN g t x s = nbI (putX g x) ((celT t s).length : Int) := rfl
  unfold putE_t
  simp only [e2]
  simp only [e1, e3, e4, e5, e6, en, wu0 h0 h1]
  rw [em _ (by omega) (by omega), ed _ (by omega) (by omega), em (putN g t x s) (by omega) (by omega), ed (putN g t x s) (by omega) (by omega)]
  have hpow := pow_n (n := putN g t x s) (by omega) (by omega)
  have hpp := pow_pos' (putN g t x s).toNat
  have e7 : IntKind.wrap IntKind.u64 ((1 : Int) * (2 : Int) ^ (putN g t x s).toNat) = 2 ^ (putN g t x s).toNat := by rw [Int.one_mul]; exact wru (by omega) (by omega)
  have e8 : IntKind.wrap IntKind.u64 ((2 : Int) ^ (putN g t x s).toNat - 1) = 2 ^ (putN g t x s).toNat - 1 := wru (by omega) (by omega)
  have e9 : IntKind.wrap IntKind.u64 (putX g x / 2 ^ (putN g t x s).toNat - ((celT t s).length : Int)) = putX g x / 2 ^ (putN g t x s).toNat - ((celT t s).length : Int) := wru (by rw [hpn]; omega) (by rw [hpn]; omega)
  have e10 : IntKind.wrap IntKind.i64 (putX g x / 2 ^ (putN g t x s).toNat - ((celT t s).length : Int)) = putX g x / 2 ^ (putN g t x s).toNat - ((celT t s).length : Int) := wr (by rw [hpn]; omega) (by rw [hpn]; omega)
  have e11 : IntKind.wrap IntKind.i64 (bits BinOp.and IntKind.u64 (putX g x) ((2 : Int) ^ (putN g t x s).toNat - 1)) = putV g t x s := by
    obtain ⟨a, ha⟩ := Int.eq_ofNat_of_zero_le (show 0 ≤ putX g x by omega)
    rw [ha, and_powu a _ (by omega) (by omega), wr (by omega) (by have := Nat.mod_le a (2 ^ (putN g t x s).toNat); omega)]
    unfold putV
    rw [ha]
    push_cast
    rfl
  simp only [e7, e8, e9, e10, e11]
  refine ⟨ht, h0, by omega, by omega, by omega, by omega, ?_⟩
  refine ⟨⟨by omega, fun hc => ⟨(), trivial, ?_, (by first | rfl | trivial), (by first | rfl | trivial), (by first | rfl | trivial)⟩, fun hc => ⟨(), trivial, ?_, (by first | rfl | trivial), (by first | rfl | trivial), (by first | rfl | trivial)⟩⟩, fun _ _ => ?_⟩
  · rw [wr (by omega) (by omega)]
    show _ = nbI _ _
    unfold nbI
    rw [hc]; rfl
  · show _ = nbI _ _
    unfold nbI
    rw [hc]; rfl
  · refine ⟨by omega, by rw [hpn]; omega, by rw [hpn]; omega, by omega, rfl, (by first | rfl | trivial), (by first | rfl | trivial)⟩
theorem stE0 {g : Int} {t : List (List Int)} {x s : Int} (h : stE g t x s = 0) : 0 ≤ x ∧ x < (szN g : Int) ∧ noC t s = false := by
  unfold stE at h
  cases h1 : decide (x < 0) || decide ((szN g : Int) ≤ x)
  · rw [h1, cond_false] at h
    simp only [Bool.or_eq_false_iff, decide_eq_false_iff_not] at h1
    refine ⟨by omega, by omega, ?_⟩
    unfold celM at h
    cases h2 : noC t s
    · rfl
    · rw [h2] at h; cases h
  · rw [h1] at h; cases h
theorem stE_out {g : Int} {t : List (List Int)} {x s : Int} (h : x < 0 ∨ (szN g : Int) ≤ x) : stE g t x s = 2 := by
  unfold stE
  have : (decide (x < 0) || decide ((szN g : Int) ≤ x)) = true := by simpa using h
  rw [this]; rfl
theorem stE_in {g : Int} {t : List (List Int)} {x s : Int} (h0 : 0 ≤ x) (h1 : x < (szN g : Int)) : stE g t x s = celM t s := by
  unfold stE
  rw [decide_eq_false (by omega), decide_eq_false (by omega)]
  rfl
theorem st_bad {g : Int} {t : List (List Int)} {x s : Int} (h : stE g t x s ≠ 0) : stS g t x s = 0 ∧ stB g t x s = 0 ∧ stV g t x s = 0 := by
  have : (stE g t x s == 0) = false := by simpa using h
  unfold stS stB stV
  rw [this]
  exact ⟨rfl, rfl, rfl⟩
theorem st_good {g : Int} {t : List (List Int)} {x s : Int} (h : stE g t x s = 0) : stS g t x s = putS g t x s ∧ stB g t x s = putN g t x s ∧ stV g t x s = putV g t x s := by
  unfold stS stB stV
  rw [beq0 h]
  exact ⟨rfl, rfl, rfl⟩
theorem stpE_v (g : Int) (t : List (List Int)) (x s : Int) (h0 : 0 ≤ g) (h1 : g ≤ 12) (ht : t.length ≤ 4294967296) (hl : (celT t s).length ≤ szN g) : stpE_t g t x s := by
  have hsz := sz0 h0 h1
  unfold stpE_t
  simp only [wu0 h0 h1, sz_wrap0 h0 h1]
  refine ⟨h0, fun h => ?_, fun h => ⟨fun h2 => ?_, fun h2 => ⟨ht, fun h3 => ?_, fun h3 => ?_⟩⟩⟩
  · have e := stE_out (g := g) (t := t) (s := s) (.inl (show x < 0 by simpa using h))
    obtain ⟨k1, k2, k3⟩ := st_bad (g := g) (t := t) (x := x) (s := s) (by rw [e]; decide)
    exact ⟨k1.symm, k2.symm, k3.symm, e.symm⟩
  · have e := stE_out (g := g) (t := t) (s := s) (.inr (show (szN g : Int) ≤ x by simpa using h2))
    obtain ⟨k1, k2, k3⟩ := st_bad (g := g) (t := t) (x := x) (s := s) (by rw [e]; decide)
    exact ⟨k1.symm, k2.symm, k3.symm, e.symm⟩
  · have h : ¬ x < 0 := by simpa using h
    have h2 : ¬ x ≥ (szN g : Int) := by simpa using h2
    have e := stE_in (t := t) (s := s) (show 0 ≤ x by omega) (show x < (szN g : Int) by omega)
    obtain ⟨k1, k2, k3⟩ := st_bad (g := g) (t := t) (x := x) (s := s) (by rw [e]; simpa using h3)
    exact ⟨k1.symm, k2.symm, k3.symm, e.symm⟩
  · have h : ¬ x < 0 := by simpa using h
    have h2 : ¬ x ≥ (szN g : Int) := by simpa using h2
    have e := stE_in (t := t) (s := s) (show 0 ≤ x by omega) (show x < (szN g : Int) by omega)
    have e0 : stE g t x s = 0 := by rw [e]; exact eq0 h3
    obtain ⟨j1, j2, j3⟩ := stE0 e0
    obtain ⟨k1, k2, k3, k4, k5, k6, k7⟩ := stpN h0 h1 j1 j2 j3 hl
    obtain ⟨g1, g2, g3⟩ := st_good e0
    have hX : putX g x = x + (szN g : Int) := rfl
    have hn0 := k5.n0
    have hnle := k5.nle
    have hlo := k5.lo
    have hhi := k5.hi
    have hpn : putN g t x s = nbI (putX g x) ((celT t s).length : Int) := rfl
    refine ⟨⟨0, ⟨e0, by rw [hpn]; exact hn0⟩, (by first | rfl | trivial), by rw [← hX]; exact wr (by omega) (by omega), (by first | rfl | trivial)⟩, fun b hb => ?_⟩
    obtain ⟨_, hb⟩ := hb
    have eb : IntKind.wrap IntKind.u64 (b : Int) = (b : Int) := wru (by omega) (by omega)
    have eb2 : min (Int.toNat (b : Int)) (IntKind.bits IntKind.i64) = b := by rw [b64, toNat_cast]; omega
    have ed : Int.fdiv (putX g x) ((2 : Int) ^ b) = putX g x / 2 ^ b := fdivp (by have := pow_pos' b; omega)
    have e2 : IntKind.wrap IntKind.i64 ((2 : Int) * ((celT t s).length : Int)) = 2 * ((celT t s).length : Int) := wr (by omega) (by omega)
    simp only [eb, eb2, ed, e2]
    refine ⟨by omega, fun hc => ?_, fun hc => ?_⟩
    · have hc : putX g x / 2 ^ b ≥ 2 * ((celT t s).length : Int) := by simpa using hc
      have hlt : (b : Int) < putN g t x s := by
        rcases Int.lt_or_le (b : Int) (putN g t x s) with h4 | h4
        · exact h4
        · have : b = (putN g t x s).toNat := by omega
          rw [this, hpn] at hc
          omega
      exact ⟨b + 1, ⟨e0, by push_cast; omega⟩, by rw [Nat.sub_eq, Nat.sub_eq]; omega, (by first | rfl | trivial), (by first | rfl | trivial), cnt_wrap (by omega)⟩
    · have hc : ¬ putX g x / 2 ^ b ≥ 2 * ((celT t s).length : Int) := by simpa using hc
      have heq : (b : Int) = putN g t x s := by
        rcases Int.lt_or_le (b : Int) (putN g t x s) with h4 | h4
        · have := nb_below (X := putX g x) k1 (by omega) (b := b) (by rw [← hpn]; exact h4)
          omega
        · omega
      have hbn : b = (putN g t x s).toNat := by omega
      have hpow := pow_n (n := putN g t x s) (by omega) (by omega)
      have hpp := pow_pos' b
      rw [← hbn] at hpow
      have e3 : IntKind.wrap IntKind.i64 ((1 : Int) * (2 : Int) ^ b) = 2 ^ b := by rw [Int.one_mul]; exact wr (by omega) (by omega)
      have e4 : IntKind.wrap IntKind.i64 ((2 : Int) ^ b - 1) = 2 ^ b - 1 := wr (by omega) (by omega)
      have hlo' : ((celT t s).length : Int) ≤ putX g x / 2 ^ b := by rw [hbn, hpn]; exact hlo
      have e5 : IntKind.wrap IntKind.i64 (putX g x / 2 ^ b - ((celT t s).length : Int)) = putX g x / 2 ^ b - ((celT t s).length : Int) := wr (by omega) (by omega)
      have e6 : bits BinOp.and IntKind.i64 (putX g x) ((2 : Int) ^ b - 1) = putV g t x s := by
        obtain ⟨a, ha⟩ := Int.eq_ofNat_of_zero_le (show 0 ≤ putX g x by omega)
        rw [ha, and_pow64 a _ (by omega) (by omega)]
        unfold putV
        rw [ha, ← hbn]
        push_cast
        rfl
      simp only [e3, e4, e5, e6]
      refine ⟨by omega, by omega, by omega, by omega, ?_, by rw [g2]; exact heq, g3.symm, e0.symm⟩
      rw [g1]
      unfold putS
      rw [← hbn]
/-! ### first states, steps -/
theorem fr_bad {g : Int} {t : List (List Int)} {s : Int} (h : (echk g t != (0 : Int)) = true) : frE g t s = echk g t ∧ frI g t s = 0 := by
  have e : frE g t s = echk g t := by unfold frE; rw [ne0 h]; rfl
  refine ⟨e, ?_⟩
  unfold frI
  rw [e, ne0 h]; rfl
theorem fr_none {g : Int} {t : List (List Int)} {s : Int} (h : echk g t = 0) (h2 : (celT t s).length = 0) : frE g t s = 7 ∧ frI g t s = 0 := by
  have e : frE g t s = 7 := by unfold frE; rw [beq0 h, cond_true, celM_out h2]
  refine ⟨e, ?_⟩
  unfold frI
  rw [e]; rfl
theorem fr_good {g : Int} {t : List (List Int)} {s : Int} (h : echk g t = 0) (h2 : (celT t s).length ≠ 0) : frE g t s = 0 ∧ frI g t s = (celT t s).getD 0 0 := by
  have e : frE g t s = 0 := by unfold frE; rw [beq0 h, cond_true, celM_in h2]
  refine ⟨e, ?_⟩
  unfold frI
  rw [beq0 e]; rfl
theorem len0 {n : Nat} (h : ((n : Int) == 0) = true) : n = 0 := by
  have : (n : Int) = 0 := by simpa using h
  omega
theorem len1 {n : Nat} (h : ((n : Int) == 0) = false) : n ≠ 0 := by
  intro e
  subst e
  cases h
theorem firE_v (g : Int) (t : List (List Int)) (s : Int) (ht : t.length ≤ 4294967296) (hl : litT g t = true) : firE_t g t s := by
  unfold firE_t
  refine ⟨ht, hl, fun h => ⟨(fr_bad h).2.symm, (fr_bad h).1.symm⟩, fun h => ⟨ht, fun h2 => ?_, fun h2 => ?_⟩⟩
  · exact ⟨(fr_none (eq0 h) (len0 h2)).2.symm, (fr_none (eq0 h) (len0 h2)).1.symm⟩
  · have hp := len1 h2
    exact ⟨by omega, by omega, (fr_good (eq0 h) hp).2.symm, (fr_good (eq0 h) hp).1.symm⟩
theorem celM_ne {t : List (List Int)} {s : Int} (h : (celM t s != (0 : Int)) = true) : (celT t s).length = 0 := by
  by_cases h2 : (celT t s).length = 0
  · exact h2
  · rw [celM_in h2] at h; cases h
theorem celM_eq {t : List (List Int)} {s : Int} (h : (celM t s != (0 : Int)) = false) : (celT t s).length ≠ 0 := by
  intro h2
  rw [celM_out h2] at h; cases h
theorem rfirE_v (g : Int) (t : List (List Int)) (s : Int) (ht : t.length ≤ 4294967296) (hl : litT g t = true) : rfirE_t g t s := by
  unfold rfirE_t
  refine ⟨ht, hl, fun h => ⟨(fr_bad h).2.symm, (fr_bad h).1.symm⟩, fun h => ⟨ht, fun h2 => ?_, fun h2 => ?_⟩⟩
  · have h3 := celM_ne h2
    exact ⟨(fr_none (eq0 h) h3).2.symm, by rw [celM_out h3]; exact (fr_none (eq0 h) h3).1.symm⟩
  · have hp := celM_eq h2
    exact ⟨by omega, by omega, (fr_good (eq0 h) hp).2.symm, (fr_good (eq0 h) hp).1.symm⟩
theorem pu_bad {g : Int} {t : List (List Int)} {x s : Int} (h : puE g t x s ≠ 0) : puS g t x s = 0 ∧ puB g t x s = 0 ∧ puV g t x s = 0 := by
  have : (puE g t x s == 0) = false := by simpa using h
  unfold puS puB puV
  rw [this]
  exact ⟨rfl, rfl, rfl⟩
theorem pu_good {g : Int} {t : List (List Int)} {x s : Int} (h : puE g t x s = 0) : puS g t x s = putS g t x s ∧ puB g t x s = putN g t x s ∧ puV g t x s = putV g t x s := by
  unfold puS puB puV
  rw [beq0 h]
  exact ⟨rfl, rfl, rfl⟩
theorem puE_chk {g : Int} {t : List (List Int)} {x s : Int} (h : (echk g t != (0 : Int)) = true) : puE g t x s = echk g t := by unfold puE; rw [ne0 h]; rfl
theorem puE_st {g : Int} {t : List (List Int)} {x s : Int} (h : echk g t = 0) : puE g t x s = stE g t x s := by unfold puE; rw [beq0 h]; rfl
theorem putEE_v (g : Int) (t : List (List Int)) (x s : Int) (ht : t.length ≤ 4294967296) (hl : litT g t = true) : putEE_t g t x s := by
  unfold putEE_t
  refine ⟨ht, hl, fun h => ?_, fun h => ?_⟩
  · have e := puE_chk (x := x) (s := s) h
    obtain ⟨k1, k2, k3⟩ := pu_bad (g := g) (t := t) (x := x) (s := s) (by rw [e]; simpa using h)
    exact ⟨k1.symm, k2.symm, k3.symm, e.symm⟩
  have h := eq0 h
  have ht0 := echk0 h
  have hg0 := ht0.g0
  have hg12 := ht0.g12
  have e := puE_st (x := x) (s := s) h
  simp only [wu0 hg0 hg12, sz_wrap0 hg0 hg12]
  refine ⟨fun h2 => ?_, fun h2 => ⟨hg0, fun h3 => ?_, fun h3 => ⟨ht, fun h4 => ?_, fun h4 => ?_⟩⟩⟩
  · rw [stE_out (.inl (show x < 0 by simpa using h2))] at e
    obtain ⟨k1, k2, k3⟩ := pu_bad (g := g) (t := t) (x := x) (s := s) (by rw [e]; decide)
    exact ⟨k1.symm, k2.symm, k3.symm, e.symm⟩
  · rw [stE_out (.inr (show (szN g : Int) ≤ x by simpa using h3))] at e
    obtain ⟨k1, k2, k3⟩ := pu_bad (g := g) (t := t) (x := x) (s := s) (by rw [e]; decide)
    exact ⟨k1.symm, k2.symm, k3.symm, e.symm⟩
  · have h2 : ¬ x < 0 := by simpa using h2
    have h3 : ¬ x ≥ (szN g : Int) := by simpa using h3
    rw [stE_in (by omega) (by omega), celM_out (len0 h4)] at e
    obtain ⟨k1, k2, k3⟩ := pu_bad (g := g) (t := t) (x := x) (s := s) (by rw [e]; decide)
    exact ⟨k1.symm, k2.symm, k3.symm, e.symm⟩
  · have h2 : ¬ x < 0 := by simpa using h2
    have h3 : ¬ x ≥ (szN g : Int) := by simpa using h3
    have hp := len1 h4
    rw [stE_in (by omega) (by omega), celM_in hp] at e
    obtain ⟨k1, k2, k3⟩ := pu_good (g := g) (t := t) (x := x) (s := s) e
    refine ⟨hg0, hg12, ht, by omega, by omega, ?_, ht0.cel_le s, k1.symm, k2.symm, k3.symm, e.symm⟩
    cases hb : noC t s
    · rfl
    · exact absurd (noC_iff.1 hb) hp
theorem rputEE_v (g : Int) (t : List (List Int)) (x s : Int) (ht : t.length ≤ 4294967296) (hl : litT g t = true) : rputEE_t g t x s := by
  unfold rputEE_t
  refine ⟨ht, hl, fun h => ?_, fun h => ?_⟩
  · have e := puE_chk (x := x) (s := s) h
    obtain ⟨k1, k2, k3⟩ := pu_bad (g := g) (t := t) (x := x) (s := s) (by rw [e]; simpa using h)
    exact ⟨k1.symm, k2.symm, k3.symm, e.symm⟩
  have h := eq0 h
  have ht0 := echk0 h
  have e := puE_st (x := x) (s := s) h
  refine ⟨ht0.g0, ht0.g12, ht, ht0.cel_le s, ?_, ?_, ?_, e.symm⟩
  · unfold stS puS; rw [e]
  · unfold stB puB; rw [e]
  · unfold stV puV; rw [e]
/-! ### the symbols of cells -/
theorem markF_len (s : Int) : ∀ (l o : List Int), (markF o s l).length = o.length
  | [], _ => rfl
  | c :: l, o => by
    unfold markF
    rw [List.foldl_cons]
    exact (markF_len s l _).trans (by simp)
theorem markP_succ (g : Int) (t : List (List Int)) (i : Nat) : markP g t (i + 1) = markF (markP g t i) (i : Int) (t.getD i []) := by
  unfold markP
  rw [List.range_succ, List.foldl_append]
  rfl
theorem markP_len (g : Int) (t : List (List Int)) : ∀ i, (markP g t i).length = szN g
  | 0 => by simp [markP, zL]
  | i + 1 => by rw [markP_succ, markF_len, markP_len g t i]
theorem markQ_len (g : Int) (t : List (List Int)) (s j : Nat) : (markQ g t s j).length = szN g := by unfold markQ; rw [markF_len, markP_len]
theorem markQ_succ {g : Int} {t : List (List Int)} {s j : Nat} (h : j < (t.getD s []).length) : markQ g t s (j + 1) = (markQ g t s j).set ((t.getD s []).getD j 0).toNat (s : Int) := by
  unfold markQ markF
  rw [take_succ (t.getD s []) 0 h, List.foldl_append]
  rfl
theorem markQ_zero (g : Int) (t : List (List Int)) (s : Nat) : markQ g t s 0 = markP g t s := by simp [markQ, markF]
theorem markQ_all (g : Int) (t : List (List Int)) (s : Nat) : markQ g t s (t.getD s []).length = markP g t (s + 1) := by rw [markP_succ]; unfold markQ; rw [List.take_length]
theorem ce_bad {g : Int} {t : List (List Int)} (h : (echk g t != (0 : Int)) = true) : ceO g t = [] := by unfold ceO; rw [ne0 h]; rfl
theorem ce_good {g : Int} {t : List (List Int)} (h : echk g t = 0) : ceO g t = markP g t t.length := by unfold ceO; rw [beq0 h]; rfl
theorem TOk.row_rng {g : Int} {t : List (List Int)} (h : TOk g t) {s j : Nat} (hs : s < t.length) (hj : j < (t.getD s []).length) : 0 ≤ (t.getD s []).getD j 0 ∧ (t.getD s []).getD j 0 < (szN g : Int) :=
  h.w.rng _ (List.mem_flatten.2 ⟨_, getD_row hs, getD_mem' hj⟩)
theorem ceE_v (g : Int) (t : List (List Int)) (ht : t.length ≤ 4294967296) (hl : litT g t = true) : ceE_t g t := by
  unfold ceE_t
  refine ⟨ht, hl, fun h => ⟨by rw [ce_bad h]; rfl, rfl⟩, fun h => ?_⟩
  have h := eq0 h
  have hk := echk0 h
  have hg0 := hk.g0
  have hg12 := hk.g12
  have hn := hk.n
  have hsz := sz0 hg0 hg12
  have hwl := hk.w.len
  simp only [wu0 hg0 hg12, sz_wrap0 hg0 hg12]
  refine ⟨hg0, by omega, Int.le_refl _, by omega, by omega, ⟨0, ⟨Nat.zero_le _, h⟩, (by first | rfl | trivial), (by first | rfl | trivial), (by first | rfl | trivial), by rw [toNat_cast]; rfl⟩, fun s hs => ⟨fun hlt => ?_, fun hge => ?_⟩⟩
  · have hlt : s < t.length := by simpa using hlt
    have hrow := row_le t s
    refine ⟨by omega, by omega, s, ⟨0, ⟨hlt, Nat.zero_le _, h⟩, (by first | rfl | trivial), (by first | rfl | trivial), (by first | rfl | trivial), (by first | rfl | trivial), (by first | rfl | trivial), (by first | rfl | trivial), (by first | rfl | trivial), (markQ_zero g t s).symm⟩, fun j hj => ⟨fun hjl => ?_, fun hjl => ?_⟩⟩
    · have hjl : j < (t.getD s []).length := by rw [decide_eq_true_eq] at hjl; omega
      have hr := hk.row_rng hlt hjl
      rw [markQ_len, toNat_cast]
      exact ⟨by omega, by omega, hr.1, hr.2, by omega, j + 1, ⟨hlt, by omega, h⟩, by rw [Nat.sub_eq, Nat.sub_eq]; omega, (by first | rfl | trivial), (by first | rfl | trivial), (by first | rfl | trivial), (by first | rfl | trivial), (by first | rfl | trivial), (by first | rfl | trivial), cnt_wrap (by omega), (markQ_succ hjl).symm⟩
    · have hjl : j = (t.getD s []).length := by rw [decide_eq_false_iff_not] at hjl; omega
      subst hjl
      exact ⟨s + 1, ⟨by omega, h⟩, by rw [Nat.sub_eq, Nat.sub_eq]; omega, (by first | rfl | trivial), (by first | rfl | trivial), cnt_wrap (by omega), markQ_all g t s⟩
  · have hge : s = t.length := by rw [decide_eq_false_iff_not] at hge; omega
    subst hge
    exact ⟨(ce_good h).symm, h.symm⟩
theorem rceE_v (g : Int) (t : List (List Int)) (ht : t.length ≤ 4294967296) (hl : litT g t = true) : rceE_t g t := by
  unfold rceE_t
  refine ⟨ht, hl, fun h => ⟨by rw [ce_bad h]; rfl, rfl⟩, fun h => ?_⟩
  have h := eq0 h
  have hk := echk0 h
  have hg0 := hk.g0
  have hg12 := hk.g12
  have hn := hk.n
  have hsz := sz0 hg0 hg12
  have hwl := hk.w.len
  simp only [wu0 hg0 hg12, sz_wrap0 hg0 hg12]
  refine ⟨hg0, by omega, Int.le_refl _, by omega, by omega, ⟨0, ⟨Nat.zero_le _, h⟩, (by first | rfl | trivial), (by first | rfl | trivial), (by first | rfl | trivial), by rw [toNat_cast]; rfl⟩, fun s hs => ⟨fun hlt => ?_, fun hge => ?_⟩⟩
  · have hlt : s < t.length := by simpa using hlt
    have hrow := row_le t s
    refine ⟨s, ⟨0, ⟨hlt, Nat.zero_le _, h⟩, (by first | rfl | trivial), (by first | rfl | trivial), (by first | rfl | trivial), (by first | rfl | trivial), (markQ_zero g t s).symm⟩, fun j hj => ?_⟩
    simp only [toNat_cast]
    refine ⟨by omega, by omega, fun hjl => ?_, fun hjl => ?_⟩
    · have hjl : j < (t.getD s []).length := by rw [decide_eq_true_eq] at hjl; omega
      have hr := hk.row_rng hlt hjl
      rw [markQ_len]
      exact ⟨by omega, by omega, by omega, by omega, hr.1, hr.2, by omega, j + 1, ⟨hlt, by omega, h⟩, by rw [Nat.sub_eq, Nat.sub_eq]; omega, (by first | rfl | trivial), cnt_wrap (by omega), (by first | rfl | trivial), (by first | rfl | trivial), (markQ_succ hjl).symm⟩
    · have hjl : j = (t.getD s []).length := by rw [decide_eq_false_iff_not] at hjl; omega
      subst hjl
      exact ⟨s + 1, ⟨by omega, h⟩, by rw [Nat.sub_eq, Nat.sub_eq]; omega, cnt_wrap (by omega), (by first | rfl | trivial), (by first | rfl | trivial), markQ_all g t s⟩
  · have hge : s = t.length := by rw [decide_eq_false_iff_not] at hge; omega
    subst hge
    exact ⟨(ce_good h).symm, h.symm⟩
/-! ### a list from its end -/
theorem backE_v (l : List Int) (h0 : l.length ≤ 4294967296) (l0 : Nat) : backE_t l l0 := by
  unfold backE_t
  refine ⟨(), 0, Nat.zero_le _, rfl, ⟨rfl, by rw [wr (by omega) (by omega)]; simp, rfl⟩, fun k hk => ⟨fun hlt => ?_, fun hge => ?_⟩⟩
  · have hlt : (l.length : Int) - 1 - k ≥ 0 := by simpa using hlt
    have e1 : ((l.length : Int) - 1 - k).toNat = l.length - 1 - k := by omega
    rw [nle] at hk
    refine ⟨by omega, by omega, rfl, ?_, ⟨k + 1, by rw [nle]; omega, rfl, by rw [Nat.sub_eq, Nat.sub_eq]; omega, rfl, ?_, rfl⟩, trivial⟩
    · rw [e1, List.getElem?_map, List.getElem?_reverse (by omega), List.getD_eq_getElem?_getD, List.getElem?_eq_getElem (by omega)]
      rfl
    · rw [wr (by omega) (by omega)]; push_cast; omega
  · have hge : ¬ (l.length : Int) - 1 - k ≥ 0 := by simpa using hge
    rw [nle] at hk
    simp
    omega
end Go.Proofs.Ytbdgknebimdjoaa
/-
  Chapter 11: what the laws' helpers compute. Conditions: none (definitions).
-/
namespace Go.Proofs.Ytbdgknebimdjoaa
open Go
set_option linter.unusedVariables false
set_option maxRecDepth 100000
def exD : List Int := [16, 8, 8]
def exT : List (List Int) := encL 5 exD
def bitB (x s w : Int) : Bool := cond (puE 5 exT x s == 0) (puB 5 exT x s == w) false
def litL (g : Int) (t : List (List Int)) : Bool := (decide (g ≤ 10) || decide (12 < g)) && decide (t.length ≤ 300) && decide ((flatP t 301).length ≤ 1100)
def rowsOk (t : List (List Int)) : Bool := t.all fun r => decide (r.length ≤ 17592186044416)
def bkV (l : List Int) : List (List Value) := l.reverse.map fun x => [.int .i64 x]
end Go.Proofs.Ytbdgknebimdjoaa
/-
  Chapter 11: writing symbols, the laws: contracts and loops. Conditions: none (definitions).
-/
namespace Go.Proofs.Ytbdgknebimdjoaa
open Go Go.RowKit
set_option linter.unusedVariables false
set_option linter.unusedSimpArgs false
set_option maxRecDepth 100000
/-! ### contracts -/
def sNo : Spec where
  ι := Int × Int × List (List Int)
  dec l H := match l with
    | [.v (.int .i64 s), .p l0 0 0] => match H l0 with
      | some (.cells 83 [.v (.int .i64 g), .dat (.lists t)]) => some ((s, g, t), [l0])
      | _ => none
    | _ => none
  args := fun (s, g, t) => [.v (.int .i64 s), .p 0 0 0]
  hp := fun (s, g, t) => [(0, .cells 83 [.v (.int .i64 g), .dat (.lists t)])]
  pre := fun (s, g, t) => [⟨t.length ≤ 4294967296, inferInstance⟩]
  out := fun (s, g, t) => .leaf (.v (.bool (noC t s))) [(0, .cells 83 [.v (.int .i64 g), .dat (.lists t)])]
theorem sNo_enc : ∀ l H n i ls, sNo.dec l H = some (i, ls) → l = renL (rho ls n) (sNo.args i) ∧ givenHp H ls = renH (rho ls n) (sNo.hp i) := by
  intro l H n i ls h
  simp only [sNo] at h
  repeat' split at h
  all_goals first
    | (cases h; done)
    | (cases h; exact ⟨rfl, rfl⟩)
    | (cases h; refine ⟨rfl, ?_⟩; simp only [givenHp, List.filterMap_cons, List.filterMap_nil, Option.map, *]; rfl)
def sIdxE : Spec where
  ι := List Int × Int × List (List Int)
  dec l H := match l with
    | [.dat (.ints .i64 l), .fn (.func 64) [] [.p l0 0 0]] => match H l0 with
      | some (.cells 83 [.v (.int .i64 g), .dat (.lists t)]) => some ((l, g, t), [l0])
      | _ => none
    | _ => none
  args := fun (l, g, t) => [.dat (.ints .i64 l), .fn (.func 64) [] [.p 0 0 0]]
  hp := fun (l, g, t) => [(0, .cells 83 [.v (.int .i64 g), .dat (.lists t)])]
  pre := fun (l, g, t) => [⟨l.length ≤ 4294967296, inferInstance⟩, ⟨t.length ≤ 4294967296, inferInstance⟩]
  out := fun (l, g, t) => .leaf (.v (.int .i64 (cond (l.any (noC t)) ((l.findIdx (noC t) : Nat) : Int) (-1)))) [(0, .cells 83 [.v (.int .i64 g), .dat (.lists t)])]
theorem sIdxE_enc : ∀ l H n i ls, sIdxE.dec l H = some (i, ls) → l = renL (rho ls n) (sIdxE.args i) ∧ givenHp H ls = renH (rho ls n) (sIdxE.hp i) := by
  intro l H n i ls h
  simp only [sIdxE] at h
  repeat' split at h
  all_goals first
    | (cases h; done)
    | (cases h; exact ⟨rfl, rfl⟩)
    | (cases h; refine ⟨rfl, ?_⟩; simp only [givenHp, List.filterMap_cons, List.filterMap_nil, Option.map, *]; rfl)
def sHasE : Spec where
  ι := List Int × Int × List (List Int)
  dec l H := match l with
    | [.dat (.ints .i64 l), .fn (.func 64) [] [.p l0 0 0]] => match H l0 with
      | some (.cells 83 [.v (.int .i64 g), .dat (.lists t)]) => some ((l, g, t), [l0])
      | _ => none
    | _ => none
  args := fun (l, g, t) => [.dat (.ints .i64 l), .fn (.func 64) [] [.p 0 0 0]]
  hp := fun (l, g, t) => [(0, .cells 83 [.v (.int .i64 g), .dat (.lists t)])]
  pre := fun (l, g, t) => [⟨l.length ≤ 4294967296, inferInstance⟩, ⟨t.length ≤ 4294967296, inferInstance⟩]
  out := fun (l, g, t) => .leaf (.v (.bool (l.any (noC t)))) [(0, .cells 83 [.v (.int .i64 g), .dat (.lists t)])]
theorem sHasE_enc : ∀ l H n i ls, sHasE.dec l H = some (i, ls) → l = renL (rho ls n) (sHasE.args i) ∧ givenHp H ls = renH (rho ls n) (sHasE.hp i) := by
  intro l H n i ls h
  simp only [sHasE] at h
  repeat' split at h
  all_goals first
    | (cases h; done)
    | (cases h; exact ⟨rfl, rfl⟩)
    | (cases h; refine ⟨rfl, ?_⟩; simp only [givenHp, List.filterMap_cons, List.filterMap_nil, Option.map, *]; rfl)
def sBack : Spec where
  ι := List Int
  dec l H := match l with
    | [.dat (.ints .i64 l)] => some (l, [])
    | _ => none
  args := fun l => [.dat (.ints .i64 l)]
  out := fun l => .leaf (.fn (.func 100) [] [.p 2000 0 0]) [(2000, .cells 22 [.dat (.ints .i64 l)])]
theorem sBack_enc : ∀ l H n i ls, sBack.dec l H = some (i, ls) → l = renL (rho ls n) (sBack.args i) ∧ givenHp H ls = renH (rho ls n) (sBack.hp i) := by
  intro l H n i ls h
  simp only [sBack] at h
  repeat' split at h
  all_goals first
    | (cases h; done)
    | (cases h; exact ⟨rfl, rfl⟩)
def sEx : Spec where
  ι := Unit
  dec l H := match l with
    | [] => some ((), [])
    | _ => none
  args := fun _ => []
  out := fun _ => .leaf (.tu [.ag [.v (.int .i64 5), .dat (.lists exT)], .v (.int .i64 0)]) []
theorem sEx_enc : ∀ l H n i ls, sEx.dec l H = some (i, ls) → l = renL (rho ls n) (sEx.args i) ∧ givenHp H ls = renH (rho ls n) (sEx.hp i) := by
  intro l H n i ls h
  simp only [sEx] at h
  repeat' split at h
  all_goals first
    | (cases h; done)
    | (cases h; exact ⟨rfl, rfl⟩)
def sBitB : Spec where
  ι := Int × Int × Int
  dec l H := match l with
    | [.v (.int .i64 x), .v (.int .i64 s), .v (.int .i64 w)] => some ((x, s, w), [])
    | _ => none
  args := fun (x, s, w) => [.v (.int .i64 x), .v (.int .i64 s), .v (.int .i64 w)]
  out := fun (x, s, w) => .leaf (.v (.bool (bitB x s w))) []
theorem sBitB_enc : ∀ l H n i ls, sBitB.dec l H = some (i, ls) → l = renL (rho ls n) (sBitB.args i) ∧ givenHp H ls = renH (rho ls n) (sBitB.hp i) := by
  intro l H n i ls h
  simp only [sBitB] at h
  repeat' split at h
  all_goals first
    | (cases h; done)
    | (cases h; exact ⟨rfl, rfl⟩)
def sAwake : Spec where
  ι := Unit
  dec l H := match l with
    | [] => some ((), [])
    | _ => none
  args := fun _ => []
  out := fun _ => .leaf (.v (.bool true)) []
theorem sAwake_enc : ∀ l H n i ls, sAwake.dec l H = some (i, ls) → l = renL (rho ls n) (sAwake.args i) ∧ givenHp H ls = renH (rho ls n) (sAwake.hp i) := by
  intro l H n i ls h
  simp only [sAwake] at h
  repeat' split at h
  all_goals first
    | (cases h; done)
    | (cases h; exact ⟨rfl, rfl⟩)
def sLit : Spec where
  ι := Int × List (List Int)
  dec l H := match l with
    | [.ag [.v (.int .i64 g), .dat (.lists t)]] => some ((g, t), [])
    | _ => none
  args := fun (g, t) => [.ag [.v (.int .i64 g), .dat (.lists t)]]
  pre := fun (g, t) => [⟨t.length ≤ 17592186044416, inferInstance⟩, ⟨rowsOk t = true, inferInstance⟩]
  out := fun (g, t) => .leaf (.v (.bool (litL g t))) []
theorem sLit_enc : ∀ l H n i ls, sLit.dec l H = some (i, ls) → l = renL (rho ls n) (sLit.args i) ∧ givenHp H ls = renH (rho ls n) (sLit.hp i) := by
  intro l H n i ls h
  simp only [sLit] at h
  repeat' split at h
  all_goals first
    | (cases h; done)
    | (cases h; exact ⟨rfl, rfl⟩)
/-! ### loops -/
def oLit (g : Int) (t : List (List Int)) : LoopInv := { ι := Nat, p := fun i => i ≤ t.length ∧ i ≤ 301, tm := fun i => [(1, .p 1000 0 0), (3, .v (.int .i64 (flatP t i).length)), (4, .v (.int .i64 (i : Nat)))], hp := fun i => [eB 1000 g t], μ := fun i => 301 - i }
def rRun2 (g : Int) (t : List (List Int)) (l : List Int) : RngInv := { rRun g t l with xs := bkV l.dropLast }
def oRunP (g : Int) (t : List (List Int)) (l : List Int) : Nat → Option LoopFam := fun k => cond (Nat.beq k 0) (some (.rng Nat fun _ => rRun2 g t l)) none
/-! ### tables -/
def GEh : List (Nat × Ctr) := (64, sNo.ctr) :: (67, sBack.ctr) :: (21, sEx.ctr) :: (27, sLit.ctr) :: GEg
def GEi : List (Nat × Ctr) := (98, sIdxE.ctr) :: (22, sBitB.ctr) :: GEh
def GEj : List (Nat × Ctr) := (63, sHasE.ctr) :: (15, sAwake.ctr) :: GEi
def GEk : List (Nat × Ctr) := (23, sRun.ctr) :: (31, sRun.ctr) :: GEj
/-! ### conditions
--%VC noE ;; (s g : Int) (t : List (List Int)) ;; GEg ;; fun _ => none ;; encode.Run$1 ;; [.v (.int .i64 s), .p 0 0 0] ;; [(0, .cells 83 [.v (.int .i64 g), .dat (.lists t)])] ;; (.v (.bool (noC t s))) ;; [(0, .cells 83 [.v (.int .i64 g), .dat (.lists t)])]
--%VC bckE ;; (l : List Int) ;; GEg ;; fun _ => none ;; encode.backward ;; [.dat (.ints .i64 l)] ;; [] ;; (.fn (.func 100) [] [.p 2000 0 0]) ;; [(2000, .cells 22 [.dat (.ints .i64 l)])]
--%VC exE ;;  ;; GEg ;; fun _ => none ;; law11.example ;; [] ;; [] ;; (.tu [.ag [.v (.int .i64 5), .dat (.lists exT)], .v (.int .i64 0)]) ;; []
--%VC litE ;; (g : Int) (t : List (List Int)) ;; GEg ;; one (oLit g t) ;; law11.light ;; [.ag [.v (.int .i64 g), .dat (.lists t)]] ;; [] ;; (.v (.bool (litL g t))) ;; []
--%VC idxE ;; (l : List Int) (g : Int) (t : List (List Int)) ;; GEh ;; one (oIdxE g t l) ;; slices.IndexFunc[[]int,int] ;; [.dat (.ints .i64 l), .fn (.func 64) [] [.p 0 0 0]] ;; [(0, .cells 83 [.v (.int .i64 g), .dat (.lists t)])] ;; (.v (.int .i64 (cond (l.any (noC t)) ((l.findIdx (noC t) : Nat) : Int) (-1)))) ;; [(0, .cells 83 [.v (.int .i64 g), .dat (.lists t)])]
--%VC bitE ;; (x s w : Int) ;; GEh ;; fun _ => none ;; law11.bits ;; [.v (.int .i64 x), .v (.int .i64 s), .v (.int .i64 w)] ;; [] ;; (.v (.bool (bitB x s w))) ;; []
--%VC hasE ;; (l : List Int) (g : Int) (t : List (List Int)) ;; GEi ;; fun _ => none ;; slices.ContainsFunc[[]int,int] ;; [.dat (.ints .i64 l), .fn (.func 64) [] [.p 0 0 0]] ;; [(0, .cells 83 [.v (.int .i64 g), .dat (.lists t)])] ;; (.v (.bool (l.any (noC t)))) ;; [(0, .cells 83 [.v (.int .i64 g), .dat (.lists t)])]
--%VC awkE ;;  ;; GEi ;; fun _ => none ;; law11.awake ;; [] ;; [] ;; (.v (.bool true)) ;; []
--%VC runE ;; (g : Int) (t : List (List Int)) (l : List Int) ;; GEj ;; oRunP g t l ;; encode.Run ;; [.ag [.v (.int .i64 g), .dat (.lists t)], .dat (.ints .i64 l)] ;; [] ;; (.tu [.v (.int .i64 (ruS g t l)), .v (.int .i64 (ruN g t l)), .v (.int .i64 (ruE g t l))]) ;; []
--%VC rrunE ;; (g : Int) (t : List (List Int)) (l : List Int) ;; GEj ;; one (oRunR g t l) ;; ref11.Run ;; [.ag [.v (.int .i64 g), .dat (.lists t)], .dat (.ints .i64 l)] ;; [] ;; (.tu [.v (.int .i64 (ruS g t l)), .v (.int .i64 (ruN g t l)), .v (.int .i64 (ruE g t l))]) ;; []
--%VC lwMk ;; (g : Int) (l : List Int) (s : Int) ;; GEk ;; fun _ => none ;; law11.EncodeMakes ;; [.ag [.v (.int .i64 g), .dat (.ints .i64 l)], .v (.int .i64 s)] ;; [] ;; (.v (.bool true)) ;; []
--%VC lwSt ;; (g : Int) (t : List (List Int)) (x s : Int) (l : List Int) ;; GEk ;; fun _ => none ;; law11.EncodeSteps ;; [.ag [.v (.int .i64 g), .dat (.lists t)], .v (.int .i64 x), .v (.int .i64 s), .dat (.ints .i64 l)] ;; [] ;; (.v (.bool true)) ;; []
--%VC lwKn ;;  ;; GEk ;; fun _ => none ;; law11.EncodeKnown ;; [] ;; [] ;; (.v (.bool true)) ;; []
-/
end Go.Proofs.Ytbdgknebimdjoaa
/-
  The conditions of the functions told in the text before, and that they are the executor's. Conditions: none.
-/
namespace Go.Proofs.Ytbdgknebimdjoaa
open Go Go.RowKit
set_option linter.unusedVariables false
set_option maxRecDepth 100000
def noE_t (s g : Int) (t : List (List Int)) : Prop :=
 List.length t ≤ (4294967296 : Nat) ∧ ((↑(List.length (celT t s)) : Int) == (0 : Int)) = noC t s ∧ g = g ∧ t = t
--end
theorem noE_e (s g : Int) (t : List (List Int)) : noE_t s g t = vcG Try.prog (Gof GEg) (fun _ => none) Try.f64 [.v (.int .i64 s), .p 0 0 0] [(0, .cells 83 [.v (.int .i64 g), .dat (.lists t)])] (.leaf ((.v (.bool (noC t s)))) ([(0, .cells 83 [.v (.int .i64 g), .dat (.lists t)])])) := by kernel_rfl
def bckE_t (l : List Int) : Prop :=
 l = l
--end
theorem bckE_e (l : List Int) : bckE_t l = vcG Try.prog (Gof GEg) (fun _ => none) Try.f67 [.dat (.ints .i64 l)] [] (.leaf ((.fn (.func 100) [] [.p 2000 0 0])) ([(2000, .cells 22 [.dat (.ints .i64 l)])])) := by kernel_rfl
def exE_t  : Prop :=
 List.length [(16 : Int), (8 : Int), (8 : Int)] ≤ (4294967296 : Nat) ∧
 encG (5 : Int) [(16 : Int), (8 : Int), (8 : Int)] = (5 : Int) ∧ encL (5 : Int) [(16 : Int), (8 : Int), (8 : Int)] = exT ∧ dchk (5 : Int) [(16 : Int), (8 : Int), (8 : Int)] = (0 : Int)
--end
theorem exE_e  : exE_t  = vcG Try.prog (Gof GEg) (fun _ => none) Try.f21 [] [] (.leaf ((.tu [.ag [.v (.int .i64 5), .dat (.lists exT)], .v (.int .i64 0)])) ([])) := by kernel_rfl
def litE_t (g : Int) (t : List (List Int)) : Prop :=
 (∃ (x0 : Nat), (x0 ≤ List.length t ∧ x0 ≤ (301 : Nat)) ∧ (0 : Int) = (↑(List.length (flatP t x0)) : Int) ∧ (0 : Int) = (↑x0 : Int) ∧ g = g ∧ t = t) ∧
 ∀ (x1 : Nat),
 x1 ≤ List.length t ∧ x1 ≤ (301 : Nat) →
 (decide ((↑x1 : Int) < (↑(List.length t) : Int)) = true →
 (decide ((↑x1 : Int) < (301 : Int)) = true →
 (0 : Int) ≤ (↑x1 : Int) ∧
 (↑x1 : Int) < (↑(List.length t) : Int) ∧
 ∃ (y2 : Nat),
 (y2 ≤ List.length t ∧ y2 ≤ (301 : Nat)) ∧
 Nat.sub (301 : Nat) y2 < Nat.sub (301 : Nat) x1 ∧
 IntKind.wrap IntKind.i64 ((↑(List.length (flatP t x1)) : Int) + (↑(List.length (List.getD t (Int.toNat (↑x1 : Int)) [])) : Int)) = (↑(List.length (flatP t y2)) : Int) ∧
 IntKind.wrap IntKind.i64 ((↑x1 : Int) + (1 : Int)) = (↑y2 : Int) ∧ g = g ∧ t = t) ∧
 (decide ((↑x1 : Int) < (301 : Int)) = false →
 (decide (g ≤ (10 : Int)) = true →
 (decide ((↑(List.length t) : Int) ≤ (300 : Int)) = true → decide ((↑(List.length (flatP t x1)) : Int) ≤ (1100 : Int)) = litL g t) ∧
 (decide ((↑(List.length t) : Int) ≤ (300 : Int)) = false → false = litL g t)) ∧
 (decide (g ≤ (10 : Int)) = false →
 (decide (g > (12 : Int)) = true →
 (decide ((↑(List.length t) : Int) ≤ (300 : Int)) = true → decide ((↑(List.length (flatP t x1)) : Int) ≤ (1100 : Int)) = litL g t) ∧
 (decide ((↑(List.length t) : Int) ≤ (300 : Int)) = false → false = litL g t)) ∧
 (decide (g > (12 : Int)) = false → false = litL g t)))) ∧
 (decide ((↑x1 : Int) < (↑(List.length t) : Int)) = false →
 (decide (g ≤ (10 : Int)) = true →
 (decide ((↑(List.length t) : Int) ≤ (300 : Int)) = true → decide ((↑(List.length (flatP t x1)) : Int) ≤ (1100 : Int)) = litL g t) ∧
 (decide ((↑(List.length t) : Int) ≤ (300 : Int)) = false → false = litL g t)) ∧
 (decide (g ≤ (10 : Int)) = false →
 (decide (g > (12 : Int)) = true →
 (decide ((↑(List.length t) : Int) ≤ (300 : Int)) = true → decide ((↑(List.length (flatP t x1)) : Int) ≤ (1100 : Int)) = litL g t) ∧
 (decide ((↑(List.length t) : Int) ≤ (300 : Int)) = false → false = litL g t)) ∧
 (decide (g > (12 : Int)) = false → false = litL g t)))
--end
theorem litE_e (g : Int) (t : List (List Int)) : litE_t g t = vcG Try.prog (Gof GEg) (one (oLit g t)) Try.f27 [.ag [.v (.int .i64 g), .dat (.lists t)]] [] (.leaf ((.v (.bool (litL g t)))) ([])) := by kernel_rfl
def idxE_t (l : List Int) (g : Int) (t : List (List Int)) : Prop :=
 (∃ (x0 : Nat), (x0 ≤ List.length l ∧ List.any (List.take x0 l) (noC t) = false) ∧ l = l ∧ (↑(List.length l) : Int) = (↑(List.length l) : Int) ∧ (0 : Int) = (↑x0 : Int) ∧ g = g ∧ t = t) ∧
 ∀ (x1 : Nat),
 x1 ≤ List.length l ∧ List.any (List.take x1 l) (noC t) = false →
 (decide ((↑x1 : Int) < (↑(List.length l) : Int)) = true →
 (0 : Int) ≤ (↑x1 : Int) ∧
 (↑x1 : Int) < (↑(List.length l) : Int) ∧
 List.length t ≤ (4294967296 : Nat) ∧
 (noC t (List.getD l (Int.toNat (↑x1 : Int)) (0 : Int)) = true → ((↑x1 : Int) = bif List.any l (noC t) then (↑(List.findIdx (noC t) l) : Int) else (-1 : Int)) ∧ g = g ∧ t = t) ∧
 (noC t (List.getD l (Int.toNat (↑x1 : Int)) (0 : Int)) = false →
 ∃ (y2 : Nat),
 (y2 ≤ List.length l ∧ List.any (List.take y2 l) (noC t) = false) ∧
 Nat.sub (List.length l) y2 < Nat.sub (List.length l) x1 ∧
 l = l ∧ (↑(List.length l) : Int) = (↑(List.length l) : Int) ∧ IntKind.wrap IntKind.i64 ((↑x1 : Int) + (1 : Int)) = (↑y2 : Int) ∧ g = g ∧ t = t)) ∧
 (decide ((↑x1 : Int) < (↑(List.length l) : Int)) = false → ((-1 : Int) = bif List.any l (noC t) then (↑(List.findIdx (noC t) l) : Int) else (-1 : Int)) ∧ g = g ∧ t = t)
--end
theorem idxE_e (l : List Int) (g : Int) (t : List (List Int)) : idxE_t l g t = vcG Try.prog (Gof GEh) (one (oIdxE g t l)) Try.f98 [.dat (.ints .i64 l), .fn (.func 64) [] [.p 0 0 0]] [(0, .cells 83 [.v (.int .i64 g), .dat (.lists t)])] (.leaf ((.v (.int .i64 (cond (l.any (noC t)) ((l.findIdx (noC t) : Nat) : Int) (-1))))) ([(0, .cells 83 [.v (.int .i64 g), .dat (.lists t)])])) := by kernel_rfl
def bitE_t (x s w : Int) : Prop :=
 List.length exT ≤ (4294967296 : Nat) ∧
 litT (5 : Int) exT = true ∧
 (((0 : Int) == (0 : Int)) = true →
 ((puE (5 : Int) exT x s == (0 : Int)) = true → (puB (5 : Int) exT x s == w) = bitB x s w) ∧ ((puE (5 : Int) exT x s == (0 : Int)) = false → false = bitB x s w)) ∧
 (((0 : Int) == (0 : Int)) = false → false = bitB x s w)
--end
theorem bitE_e (x s w : Int) : bitE_t x s w = vcG Try.prog (Gof GEh) (fun _ => none) Try.f22 [.v (.int .i64 x), .v (.int .i64 s), .v (.int .i64 w)] [] (.leaf ((.v (.bool (bitB x s w)))) ([])) := by kernel_rfl
def hasE_t (l : List Int) (g : Int) (t : List (List Int)) : Prop :=
 List.length l ≤ (4294967296 : Nat) ∧
 List.length t ≤ (4294967296 : Nat) ∧ decide ((bif List.any l (noC t) then (↑(List.findIdx (noC t) l) : Int) else (-1 : Int)) ≥ (0 : Int)) = List.any l (noC t) ∧ g = g ∧ t = t
--end
theorem hasE_e (l : List Int) (g : Int) (t : List (List Int)) : hasE_t l g t = vcG Try.prog (Gof GEi) (fun _ => none) Try.f63 [.dat (.ints .i64 l), .fn (.func 64) [] [.p 0 0 0]] [(0, .cells 83 [.v (.int .i64 g), .dat (.lists t)])] (.leaf ((.v (.bool (l.any (noC t))))) ([(0, .cells 83 [.v (.int .i64 g), .dat (.lists t)])])) := by kernel_rfl
def awkE_t  : Prop :=
 (((0 : Int) == (0 : Int)) = true →
 (((5 : Int) == (5 : Int)) = true →
 (((↑(List.length exT) : Int) == (3 : Int)) = true →
 (0 : Int) ≤ (0 : Int) ∧
 (0 : Int) < (↑(List.length exT) : Int) ∧
 (((↑(List.length (List.getD exT (Int.toNat (0 : Int)) [])) : Int) == (16 : Int)) = true →
 (0 : Int) ≤ (1 : Int) ∧
 (1 : Int) < (↑(List.length exT) : Int) ∧
 (((↑(List.length (List.getD exT (Int.toNat (1 : Int)) [])) : Int) == (8 : Int)) = true →
 (0 : Int) ≤ (2 : Int) ∧
 (2 : Int) < (↑(List.length exT) : Int) ∧
 (((↑(List.length (List.getD exT (Int.toNat (2 : Int)) [])) : Int) == (8 : Int)) = true →
 (bitB (0 : Int) (0 : Int) (1 : Int) = true → bitB (0 : Int) (1 : Int) (2 : Int) = true) ∧ (bitB (0 : Int) (0 : Int) (1 : Int) = false → false = true)) ∧
 (((↑(List.length (List.getD exT (Int.toNat (2 : Int)) [])) : Int) == (8 : Int)) = false → false = true)) ∧
 (((↑(List.length (List.getD exT (Int.toNat (1 : Int)) [])) : Int) == (8 : Int)) = false → false = true)) ∧
 (((↑(List.length (List.getD exT (Int.toNat (0 : Int)) [])) : Int) == (16 : Int)) = false → false = true)) ∧
 (((↑(List.length exT) : Int) == (3 : Int)) = false → false = true)) ∧
 (((5 : Int) == (5 : Int)) = false → false = true)) ∧
 (((0 : Int) == (0 : Int)) = false → false = true)
--end
theorem awkE_e  : awkE_t  = vcG Try.prog (Gof GEi) (fun _ => none) Try.f15 [] [] (.leaf ((.v (.bool true))) ([])) := by kernel_rfl
def runE_t (g : Int) (t : List (List Int)) (l : List Int) : Prop :=
 List.length t ≤ (4294967296 : Nat) ∧
 litT g t = true ∧
 ((echk g t != (0 : Int)) = true → (0 : Int) = ruS g t l ∧ (0 : Int) = ruN g t l ∧ echk g t = ruE g t l) ∧
 ((echk g t != (0 : Int)) = false →
 (decide ((↑(List.length l) : Int) > (100000 : Int)) = true → (0 : Int) = ruS g t l ∧ (0 : Int) = ruN g t l ∧ (2 : Int) = ruE g t l) ∧
 (decide ((↑(List.length l) : Int) > (100000 : Int)) = false →
 (((↑(List.length l) : Int) == (0 : Int)) = true → (0 : Int) = ruS g t l ∧ (0 : Int) = ruN g t l ∧ (7 : Int) = ruE g t l) ∧
 (((↑(List.length l) : Int) == (0 : Int)) = false →
 List.length l ≤ (4294967296 : Nat) ∧
 List.length t ≤ (4294967296 : Nat) ∧
 (List.any l (noC t) = true → (0 : Int) = ruS g t l ∧ (0 : Int) = ruN g t l ∧ (7 : Int) = ruE g t l) ∧
 (List.any l (noC t) = false →
 (0 : Int) ≤ IntKind.wrap IntKind.i64 ((↑(List.length l) : Int) - (1 : Int)) ∧
 IntKind.wrap IntKind.i64 ((↑(List.length l) : Int) - (1 : Int)) < (↑(List.length l) : Int) ∧
 List.length t ≤ (4294967296 : Nat) ∧
 (0 : Int) ≤ (0 : Int) ∧
 (0 : Int) < (↑(List.length (celT t (List.getD l (Int.toNat (IntKind.wrap IntKind.i64 ((↑(List.length l) : Int) - (1 : Int)))) (0 : Int)))) : Int) ∧
 (0 : Int) ≤ (0 : Int) ∧
 (0 : Int) ≤ IntKind.wrap IntKind.i64 ((↑(List.length l) : Int) - (1 : Int)) ∧
 IntKind.wrap IntKind.i64 ((↑(List.length l) : Int) - (1 : Int)) ≤ (↑(List.length l) : Int) ∧
 ∃ (y0 : Nat),
 ISat Try.prog ((100 : Nat)) [SV.p (1200040 : Nat) (0 : Nat) (0 : Nat)]
 [((1200040 : Nat), SBlk.cells (22 : TypeId) [SV.dat (Dat.ints IntKind.i64 (List.dropLast l))])]
 (List.map (fun (x : Int) => [Value.int IntKind.i64 x]) (List.reverse (List.dropLast l))) ∧
 List.take (Int.toNat (IntKind.wrap IntKind.i64 ((↑(List.length l) : Int) - (1 : Int))) - Int.toNat (0 : Int)) (List.drop (Int.toNat (0 : Int)) l) =
 List.dropLast l ∧
 ruE g t l = (0 : Int) ∧
 ((0 : Int) = (0 : Int) ∧
 List.getD (celT t (List.getD l (Int.toNat (IntKind.wrap IntKind.i64 ((↑(List.length l) : Int) - (1 : Int)))) (0 : Int))) (Int.toNat (0 : Int))
 (0 : Int) =
 (runL g t (List.drop (List.length l - (1 : Nat) - (0 : Nat)) l)).fst ∧
 (0 : Int) = (runL g t (List.drop (List.length l - (1 : Nat) - (0 : Nat)) l)).snd ∧ g = g ∧ t = t ∧ g = g ∧ t = t) ∧
 (∀ (i1 : Nat),
 i1 < List.length (List.map (fun (x : Int) => [Value.int IntKind.i64 x]) (List.reverse (List.dropLast l))) →
 ruE g t l = (0 : Int) →
 (List.map (fun (x : Int) => [Value.int IntKind.i64 x]) (List.reverse (List.dropLast l)))[i1]? =
 some [Value.int IntKind.i64 (List.getD l (List.length l - (2 : Nat) - i1) (0 : Int))] ∧
 List.length [Value.int IntKind.i64 (List.getD l (List.length l - (2 : Nat) - i1) (0 : Int))] = List.length #[(50 : Nat)].toList ∧
 (0 : Int) ≤ g ∧
 g ≤ (12 : Int) ∧
 List.length t ≤ (4294967296 : Nat) ∧
 (0 : Int) ≤ (runL g t (List.drop (List.length l - (1 : Nat) - i1) l)).fst ∧
 (runL g t (List.drop (List.length l - (1 : Nat) - i1) l)).fst < (↑(szN g) : Int) ∧
 noC t (List.getD l (List.length l - (2 : Nat) - i1) (0 : Int)) = false ∧
 List.length (celT t (List.getD l (List.length l - (2 : Nat) - i1) (0 : Int))) ≤ szN g ∧
 ruE g t l = (0 : Int) ∧
 putS g t (runL g t (List.drop (List.length l - (1 : Nat) - i1) l)).fst
 (List.getD l (List.length l - (2 : Nat) - i1) (0 : Int)) =
 (runL g t (List.drop (List.length l - (1 : Nat) - (i1 + (1 : Nat))) l)).fst ∧
 IntKind.wrap IntKind.i64
 ((runL g t (List.drop (List.length l - (1 : Nat) - i1) l)).snd +
 putN g t (runL g t (List.drop (List.length l - (1 : Nat) - i1) l)).fst
 (List.getD l (List.length l - (2 : Nat) - i1) (0 : Int))) =
 (runL g t (List.drop (List.length l - (1 : Nat) - (i1 + (1 : Nat))) l)).snd ∧
 g = g ∧ t = t ∧ g = g ∧ t = t) ∧
 (ruE g t l = (0 : Int) →
 (runL g t
 (List.drop
 (List.length l - (1 : Nat) - List.length (List.map (fun (x : Int) => [Value.int IntKind.i64 x]) (List.reverse (List.dropLast l))))
 l)).fst =
 ruS g t l ∧
 (runL g t
 (List.drop
 (List.length l - (1 : Nat) - List.length (List.map (fun (x : Int) => [Value.int IntKind.i64 x]) (List.reverse (List.dropLast l))))
 l)).snd =
 ruN g t l ∧
 (0 : Int) = ruE g t l)))))
--end
theorem runE_e (g : Int) (t : List (List Int)) (l : List Int) : runE_t g t l = vcG Try.prog (Gof GEj) (oRunP g t l) Try.f23 [.ag [.v (.int .i64 g), .dat (.lists t)], .dat (.ints .i64 l)] [] (.leaf ((.tu [.v (.int .i64 (ruS g t l)), .v (.int .i64 (ruN g t l)), .v (.int .i64 (ruE g t l))])) ([])) := by kernel_rfl
def rrunE_t (g : Int) (t : List (List Int)) (l : List Int) : Prop :=
 List.length t ≤ (4294967296 : Nat) ∧
 litT g t = true ∧
 ((echk g t != (0 : Int)) = true → (0 : Int) = ruS g t l ∧ (0 : Int) = ruN g t l ∧ echk g t = ruE g t l) ∧
 ((echk g t != (0 : Int)) = false →
 (decide ((↑(List.length l) : Int) > (100000 : Int)) = true → (0 : Int) = ruS g t l ∧ (0 : Int) = ruN g t l ∧ (2 : Int) = ruE g t l) ∧
 (decide ((↑(List.length l) : Int) > (100000 : Int)) = false →
 (((↑(List.length l) : Int) == (0 : Int)) = true → (0 : Int) = ruS g t l ∧ (0 : Int) = ruN g t l ∧ (7 : Int) = ruE g t l) ∧
 (((↑(List.length l) : Int) == (0 : Int)) = false →
 (0 : Int) ≤ IntKind.wrap IntKind.i64 ((↑(List.length l) : Int) - (1 : Int)) ∧
 IntKind.wrap IntKind.i64 ((↑(List.length l) : Int) - (1 : Int)) < (↑(List.length l) : Int) ∧
 List.length t ≤ (4294967296 : Nat) ∧
 litT g t = true ∧
 ((frE g t (List.getD l (Int.toNat (IntKind.wrap IntKind.i64 ((↑(List.length l) : Int) - (1 : Int)))) (0 : Int)) != (0 : Int)) = true →
 (0 : Int) = ruS g t l ∧ (0 : Int) = ruN g t l ∧ frE g t (List.getD l (Int.toNat (IntKind.wrap IntKind.i64 ((↑(List.length l) : Int) - (1 : Int)))) (0 : Int)) = ruE g t l) ∧
 ((frE g t (List.getD l (Int.toNat (IntKind.wrap IntKind.i64 ((↑(List.length l) : Int) - (1 : Int)))) (0 : Int)) != (0 : Int)) = false →
 (∃ (x0 : Nat),
 ((1 : Nat) ≤ x0 ∧ x0 ≤ List.length l ∧ echk g t = (0 : Int) ∧ List.length l ≤ (100000 : Nat) ∧ List.any (List.drop (List.length l - x0) l) (noC t) = false) ∧
 l = l ∧
 frI g t (List.getD l (Int.toNat (IntKind.wrap IntKind.i64 ((↑(List.length l) : Int) - (1 : Int)))) (0 : Int)) = (runL g t (List.drop (List.length l - x0) l)).fst ∧
 (0 : Int) = (runL g t (List.drop (List.length l - x0) l)).snd ∧
 IntKind.wrap IntKind.i64 ((↑(List.length l) : Int) - (2 : Int)) = (↑(List.length l) : Int) - (1 : Int) - (↑x0 : Int) ∧ g = g ∧ t = t) ∧
 ∀ (x1 : Nat),
 (1 : Nat) ≤ x1 ∧ x1 ≤ List.length l ∧ echk g t = (0 : Int) ∧ List.length l ≤ (100000 : Nat) ∧ List.any (List.drop (List.length l - x1) l) (noC t) = false →
 (decide ((↑(List.length l) : Int) - (1 : Int) - (↑x1 : Int) ≥ (0 : Int)) = true →
 (0 : Int) ≤ (↑(List.length l) : Int) - (1 : Int) - (↑x1 : Int) ∧
 (↑(List.length l) : Int) - (1 : Int) - (↑x1 : Int) < (↑(List.length l) : Int) ∧
 (0 : Int) ≤ g ∧
 g ≤ (12 : Int) ∧
 List.length t ≤ (4294967296 : Nat) ∧
 List.length (celT t (List.getD l (Int.toNat ((↑(List.length l) : Int) - (1 : Int) - (↑x1 : Int))) (0 : Int))) ≤ szN g ∧
 ((stE g t (runL g t (List.drop (List.length l - x1) l)).fst
 (List.getD l (Int.toNat ((↑(List.length l) : Int) - (1 : Int) - (↑x1 : Int))) (0 : Int)) !=
 (0 : Int)) =
 true →
 (0 : Int) = ruS g t l ∧
 (0 : Int) = ruN g t l ∧
 stE g t (runL g t (List.drop (List.length l - x1) l)).fst
 (List.getD l (Int.toNat ((↑(List.length l) : Int) - (1 : Int) - (↑x1 : Int))) (0 : Int)) =
 ruE g t l) ∧
 ((stE g t (runL g t (List.drop (List.length l - x1) l)).fst
 (List.getD l (Int.toNat ((↑(List.length l) : Int) - (1 : Int) - (↑x1 : Int))) (0 : Int)) !=
 (0 : Int)) =
 false →
 ∃ (y2 : Nat),
 ((1 : Nat) ≤ y2 ∧
 y2 ≤ List.length l ∧ echk g t = (0 : Int) ∧ List.length l ≤ (100000 : Nat) ∧ List.any (List.drop (List.length l - y2) l) (noC t) = false) ∧
 Nat.sub (List.length l) y2 < Nat.sub (List.length l) x1 ∧
 l = l ∧
 stS g t (runL g t (List.drop (List.length l - x1) l)).fst
 (List.getD l (Int.toNat ((↑(List.length l) : Int) - (1 : Int) - (↑x1 : Int))) (0 : Int)) =
 (runL g t (List.drop (List.length l - y2) l)).fst ∧
 IntKind.wrap IntKind.i64
 ((runL g t (List.drop (List.length l - x1) l)).snd +
 stB g t (runL g t (List.drop (List.length l - x1) l)).fst
 (List.getD l (Int.toNat ((↑(List.length l) : Int) - (1 : Int) - (↑x1 : Int))) (0 : Int))) =
 (runL g t (List.drop (List.length l - y2) l)).snd ∧
 IntKind.wrap IntKind.i64 ((↑(List.length l) : Int) - (1 : Int) - (↑x1 : Int) - (1 : Int)) =
 (↑(List.length l) : Int) - (1 : Int) - (↑y2 : Int) ∧
 g = g ∧ t = t)) ∧
 (decide ((↑(List.length l) : Int) - (1 : Int) - (↑x1 : Int) ≥ (0 : Int)) = false →
 (runL g t (List.drop (List.length l - x1) l)).fst = ruS g t l ∧ (runL g t (List.drop (List.length l - x1) l)).snd = ruN g t l ∧ (0 : Int) = ruE g t l)))))
--end
theorem rrunE_e (g : Int) (t : List (List Int)) (l : List Int) : rrunE_t g t l = vcG Try.prog (Gof GEj) (one (oRunR g t l)) Try.f31 [.ag [.v (.int .i64 g), .dat (.lists t)], .dat (.ints .i64 l)] [] (.leaf ((.tu [.v (.int .i64 (ruS g t l)), .v (.int .i64 (ruN g t l)), .v (.int .i64 (ruE g t l))])) ([])) := by kernel_rfl
def lwMk_t (g : Int) (l : List Int) (s : Int) : Prop :=
 (decide ((↑(List.length l) : Int) > (300 : Int)) = true → true = true) ∧
 (decide ((↑(List.length l) : Int) > (300 : Int)) = false →
 (decide (g > (10 : Int)) = true →
 (decide (g ≤ (12 : Int)) = true → true = true) ∧
 (decide (g ≤ (12 : Int)) = false →
 List.length l ≤ (4294967296 : Nat) ∧
 List.length l ≤ (4294967296 : Nat) ∧
 List.length (encL g l) ≤ (4294967296 : Nat) ∧
 List.length (List.flatten (encL g l)) ≤ (4294967296 : Nat) ∧
 ((!(encG g l == encG g l && sameL (encL g l) (encL g l))) = true → false = true) ∧
 ((!(encG g l == encG g l && sameL (encL g l) (encL g l))) = false →
 ((dchk g l != dchk g l) = true → false = true) ∧
 ((dchk g l != dchk g l) = false →
 List.length (oneL s) ≤ (4294967296 : Nat) ∧
 List.length (List.flatten (oneL s)) ≤ (4294967296 : Nat) ∧
 (((0 : Int) == (0 : Int) && sameL (oneL s) (oneL s)) = true → ((oneE s == oneE s) = true → true = true) ∧ ((oneE s == oneE s) = false → false = true)) ∧
 (((0 : Int) == (0 : Int) && sameL (oneL s) (oneL s)) = false → false = true))))) ∧
 (decide (g > (10 : Int)) = false →
 List.length l ≤ (4294967296 : Nat) ∧
 List.length l ≤ (4294967296 : Nat) ∧
 List.length (encL g l) ≤ (4294967296 : Nat) ∧
 List.length (List.flatten (encL g l)) ≤ (4294967296 : Nat) ∧
 ((!(encG g l == encG g l && sameL (encL g l) (encL g l))) = true → false = true) ∧
 ((!(encG g l == encG g l && sameL (encL g l) (encL g l))) = false →
 ((dchk g l != dchk g l) = true → false = true) ∧
 ((dchk g l != dchk g l) = false →
 List.length (oneL s) ≤ (4294967296 : Nat) ∧
 List.length (List.flatten (oneL s)) ≤ (4294967296 : Nat) ∧
 (((0 : Int) == (0 : Int) && sameL (oneL s) (oneL s)) = true → ((oneE s == oneE s) = true → true = true) ∧ ((oneE s == oneE s) = false → false = true)) ∧
 (((0 : Int) == (0 : Int) && sameL (oneL s) (oneL s)) = false → false = true)))))
--end
theorem lwMk_e (g : Int) (l : List Int) (s : Int) : lwMk_t g l s = vcG Try.prog (Gof GEk) (fun _ => none) Try.f3 [.ag [.v (.int .i64 g), .dat (.ints .i64 l)], .v (.int .i64 s)] [] (.leaf ((.v (.bool true))) ([])) := by kernel_rfl
def lwSt_t (g : Int) (t : List (List Int)) (x s : Int) (l : List Int) : Prop :=
 List.length t ≤ (17592186044416 : Nat) ∧
 rowsOk t = true ∧
 ((!litL g t) = true → true = true) ∧
 ((!litL g t) = false →
 (decide ((↑(List.length l) : Int) > (60 : Int)) = true →
 (decide ((↑(List.length l) : Int) ≤ (100000 : Int)) = true → true = true) ∧
 (decide ((↑(List.length l) : Int) ≤ (100000 : Int)) = false →
 (decide ((↑(List.length l) : Int) > (100003 : Int)) = true → true = true) ∧
 (decide ((↑(List.length l) : Int) > (100003 : Int)) = false →
 List.length t ≤ (4294967296 : Nat) ∧
 litT g t = true ∧
 List.length t ≤ (4294967296 : Nat) ∧
 litT g t = true ∧
 ((frI g t s != frI g t s) = true → false = true) ∧
 ((frI g t s != frI g t s) = false →
 ((frE g t s != frE g t s) = true → false = true) ∧
 ((frE g t s != frE g t s) = false →
 List.length t ≤ (4294967296 : Nat) ∧
 litT g t = true ∧
 List.length t ≤ (4294967296 : Nat) ∧
 litT g t = true ∧
 ((echk g t != echk g t) = true → false = true) ∧
 ((echk g t != echk g t) = false →
 List.length t ≤ (4294967296 : Nat) ∧
 litT g t = true ∧
 List.length t ≤ (4294967296 : Nat) ∧
 litT g t = true ∧
 ((puS g t x s != puS g t x s) = true → false = true) ∧
 ((puS g t x s != puS g t x s) = false →
 ((puB g t x s != puB g t x s) = true → false = true) ∧
 ((puB g t x s != puB g t x s) = false →
 ((puV g t x s != puV g t x s) = true → false = true) ∧
 ((puV g t x s != puV g t x s) = false →
 ((puE g t x s != puE g t x s) = true → false = true) ∧
 ((puE g t x s != puE g t x s) = false →
 List.length t ≤ (4294967296 : Nat) ∧
 litT g t = true ∧
 List.length l ≤ (4294967296 : Nat) ∧
 List.length t ≤ (4294967296 : Nat) ∧
 litT g t = true ∧
 List.length l ≤ (4294967296 : Nat) ∧
 ((ruS g t l != ruS g t l) = true → false = true) ∧
 ((ruS g t l != ruS g t l) = false →
 ((ruN g t l != ruN g t l) = true → false = true) ∧
 ((ruN g t l != ruN g t l) = false →
 ((ruE g t l != ruE g t l) = true → false = true) ∧
 ((ruE g t l != ruE g t l) = false →
 List.length t ≤ (4294967296 : Nat) ∧
 litT g t = true ∧
 List.length t ≤ (4294967296 : Nat) ∧
 litT g t = true ∧
 List.length (ceO g t) ≤ (4294967296 : Nat) ∧
 (eqI (ceO g t) (ceO g t) = true →
 ((echk g t == echk g t) = true → true = true) ∧
 ((echk g t == echk g t) = false → false = true)) ∧
 (eqI (ceO g t) (ceO g t) = false → false = true)))))))))))))) ∧
 (decide ((↑(List.length l) : Int) > (60 : Int)) = false →
 (decide ((↑(List.length l) : Int) > (100003 : Int)) = true → true = true) ∧
 (decide ((↑(List.length l) : Int) > (100003 : Int)) = false →
 List.length t ≤ (4294967296 : Nat) ∧
 litT g t = true ∧
 List.length t ≤ (4294967296 : Nat) ∧
 litT g t = true ∧
 ((frI g t s != frI g t s) = true → false = true) ∧
 ((frI g t s != frI g t s) = false →
 ((frE g t s != frE g t s) = true → false = true) ∧
 ((frE g t s != frE g t s) = false →
 List.length t ≤ (4294967296 : Nat) ∧
 litT g t = true ∧
 List.length t ≤ (4294967296 : Nat) ∧
 litT g t = true ∧
 ((echk g t != echk g t) = true → false = true) ∧
 ((echk g t != echk g t) = false →
 List.length t ≤ (4294967296 : Nat) ∧
 litT g t = true ∧
 List.length t ≤ (4294967296 : Nat) ∧
 litT g t = true ∧
 ((puS g t x s != puS g t x s) = true → false = true) ∧
 ((puS g t x s != puS g t x s) = false →
 ((puB g t x s != puB g t x s) = true → false = true) ∧
 ((puB g t x s != puB g t x s) = false →
 ((puV g t x s != puV g t x s) = true → false = true) ∧
 ((puV g t x s != puV g t x s) = false →
 ((puE g t x s != puE g t x s) = true → false = true) ∧
 ((puE g t x s != puE g t x s) = false →
 List.length t ≤ (4294967296 : Nat) ∧
 litT g t = true ∧
 List.length l ≤ (4294967296 : Nat) ∧
 List.length t ≤ (4294967296 : Nat) ∧
 litT g t = true ∧
 List.length l ≤ (4294967296 : Nat) ∧
 ((ruS g t l != ruS g t l) = true → false = true) ∧
 ((ruS g t l != ruS g t l) = false →
 ((ruN g t l != ruN g t l) = true → false = true) ∧
 ((ruN g t l != ruN g t l) = false →
 ((ruE g t l != ruE g t l) = true → false = true) ∧
 ((ruE g t l != ruE g t l) = false →
 List.length t ≤ (4294967296 : Nat) ∧
 litT g t = true ∧
 List.length t ≤ (4294967296 : Nat) ∧
 litT g t = true ∧
 List.length (ceO g t) ≤ (4294967296 : Nat) ∧
 (eqI (ceO g t) (ceO g t) = true →
 ((echk g t == echk g t) = true → true = true) ∧
 ((echk g t == echk g t) = false → false = true)) ∧
 (eqI (ceO g t) (ceO g t) = false → false = true))))))))))))))
--end
theorem lwSt_e (g : Int) (t : List (List Int)) (x s : Int) (l : List Int) : lwSt_t g t x s l = vcG Try.prog (Gof GEk) (fun _ => none) Try.f5 [.ag [.v (.int .i64 g), .dat (.lists t)], .v (.int .i64 x), .v (.int .i64 s), .dat (.ints .i64 l)] [] (.leaf ((.v (.bool true))) ([])) := by kernel_rfl
def lwKn_t  : Prop :=
 (((0 : Int) != (0 : Int)) = true → false = true) ∧
 (((0 : Int) != (0 : Int)) = false →
 ((!bitB (31 : Int) (0 : Int) (1 : Int)) = true → false = true) ∧
 ((!bitB (31 : Int) (0 : Int) (1 : Int)) = false →
 List.length exT ≤ (4294967296 : Nat) ∧
 litT (5 : Int) exT = true ∧
 List.length [(0 : Int)] ≤ (4294967296 : Nat) ∧
 List.length exT ≤ (4294967296 : Nat) ∧
 litT (5 : Int) exT = true ∧
 List.length [(0 : Int), (1 : Int)] ≤ (4294967296 : Nat) ∧
 List.length (oneL (3 : Int)) ≤ (4294967296 : Nat) ∧
 litT (0 : Int) (oneL (3 : Int)) = true ∧
 ((ruN (5 : Int) exT [(0 : Int)] != (0 : Int)) = true → false = true) ∧
 ((ruN (5 : Int) exT [(0 : Int)] != (0 : Int)) = false →
 ((ruE (5 : Int) exT [(0 : Int)] != (0 : Int)) = true → false = true) ∧
 ((ruE (5 : Int) exT [(0 : Int)] != (0 : Int)) = false →
 ((ruN (5 : Int) exT [(0 : Int), (1 : Int)] != (1 : Int)) = true → false = true) ∧
 ((ruN (5 : Int) exT [(0 : Int), (1 : Int)] != (1 : Int)) = false →
 ((ruE (5 : Int) exT [(0 : Int), (1 : Int)] != (0 : Int)) = true → false = true) ∧
 ((ruE (5 : Int) exT [(0 : Int), (1 : Int)] != (0 : Int)) = false →
 ((oneE (3 : Int) != (0 : Int)) = true → false = true) ∧
 ((oneE (3 : Int) != (0 : Int)) = false →
 (((0 : Int) != (0 : Int)) = true → false = true) ∧
 (((0 : Int) != (0 : Int)) = false →
 (((↑(List.length (oneL (3 : Int))) : Int) != (4 : Int)) = true → false = true) ∧
 (((↑(List.length (oneL (3 : Int))) : Int) != (4 : Int)) = false →
 (0 : Int) ≤ (3 : Int) ∧
 (3 : Int) < (↑(List.length (oneL (3 : Int))) : Int) ∧
 (((↑(List.length (List.getD (oneL (3 : Int)) (Int.toNat (3 : Int)) [])) : Int) != (1 : Int)) = true → false = true) ∧
 (((↑(List.length (List.getD (oneL (3 : Int)) (Int.toNat (3 : Int)) [])) : Int) != (1 : Int)) = false →
 ((puS (0 : Int) (oneL (3 : Int)) (0 : Int) (3 : Int) != (0 : Int)) = true → false = true) ∧
 ((puS (0 : Int) (oneL (3 : Int)) (0 : Int) (3 : Int) != (0 : Int)) = false →
 ((puB (0 : Int) (oneL (3 : Int)) (0 : Int) (3 : Int) != (0 : Int)) = true → false = true) ∧
 ((puB (0 : Int) (oneL (3 : Int)) (0 : Int) (3 : Int) != (0 : Int)) = false →
 ((puE (0 : Int) (oneL (3 : Int)) (0 : Int) (3 : Int) != (0 : Int)) = true → false = true) ∧
 ((puE (0 : Int) (oneL (3 : Int)) (0 : Int) (3 : Int) != (0 : Int)) = false →
 List.length exT ≤ (4294967296 : Nat) ∧
 litT (5 : Int) exT = true ∧
 List.length exT ≤ (4294967296 : Nat) ∧
 litT (5 : Int) exT = true ∧
 ((frE (5 : Int) exT (3 : Int) == (7 : Int)) = true →
 ((puE (5 : Int) exT (32 : Int) (0 : Int) == (2 : Int)) = true →
 List.length [[(0 : Int)], [(0 : Int)]] ≤ (4294967296 : Nat) ∧
 litT (0 : Int) [[(0 : Int)], [(0 : Int)]] = true ∧
 ((echk (0 : Int) [[(0 : Int)], [(0 : Int)]] == (3 : Int)) = true → true = true) ∧
 ((echk (0 : Int) [[(0 : Int)], [(0 : Int)]] == (3 : Int)) = false → false = true)) ∧
 ((puE (5 : Int) exT (32 : Int) (0 : Int) == (2 : Int)) = false → false = true)) ∧
 ((frE (5 : Int) exT (3 : Int) == (7 : Int)) = false → false = true))))))))))))))
--end
theorem lwKn_e  : lwKn_t  = vcG Try.prog (Gof GEk) (fun _ => none) Try.f4 [] [] (.leaf ((.v (.bool true))) ([])) := by kernel_rfl
end Go.Proofs.Ytbdgknebimdjoaa
/-
  Chapter 11: the functions have their contracts; a whole run of symbols. Conditions: each theorem's own.
-/
namespace Go.Proofs.Ytbdgknebimdjoaa
open Go Go.RowKit
set_option linter.unusedVariables false
set_option linter.unusedSimpArgs false
set_option maxRecDepth 100000
theorem rcelE_sound : Sound Try.prog 62 sRcel.ctr := sRcel.sound (by kernel_rfl) sRcel_enc fun ⟨g, l, s⟩ hc => by
  have h0 := hc _ (.head _)
  exact satG GEd_ok mixed Try.func62 (rcelE_e g l s) (rcelE_v g l s h0)
theorem encE_sound : Sound Try.prog 16 sEnc.ctr := sEnc.sound (by kernel_rfl) sEnc_enc fun ⟨g, l⟩ hc => by
  have h0 := hc _ (.head _)
  exact satG GEd_ok mixed Try.func16 (encE_e g l) (encE_v g l h0)
theorem oneE1_sound : Sound Try.prog 19 sOneE.ctr := sOneE.sound (by kernel_rfl) sOneE_enc fun s hc => by
  exact satG GEd_ok mixed Try.func19 (oneE1_e s) (oneE1_v s)
theorem roneE1_sound : Sound Try.prog 20 sOneE.ctr := sOneE.sound (by kernel_rfl) sOneE_enc fun s hc => by
  exact satG GEd_ok mixed Try.func20 (roneE1_e s) (roneE1_v s)
theorem sameE_sound : Sound Try.prog 18 sSameE.ctr := sSameE.sound (by kernel_rfl) sSameE_enc fun ⟨a, x, b, y⟩ hc => by
  have h0 := hc _ (.head _)
  have h1 := hc _ (.tail _ (.head _))
  exact satG GEd_ok mixed Try.func18 (sameE_e a x b y) (sameE_v a x b y h0 h1)
theorem sortedE_sound : Sound Try.prog 68 sSorted.ctr := sSorted.sound (by kernel_rfl) sSorted_enc fun l hc => by
  have h0 := hc _ (.head _)
  exact satG GEd_ok mixed Try.func68 (sortedE_e l) (sortedE_v l h0)
theorem cutE_sound : Sound Try.prog 70 sCut.ctr := sCut.sound (by kernel_rfl) sCut_enc fun t hc => by
  have h0 := hc _ (.head _)
  have h1 := hc _ (.tail _ (.head _))
  exact satG GEd_ok mixed Try.func70 (cutE_e t) (cutE_v t h0 h1)
theorem gatherE_sound : Sound Try.prog 69 sGather.ctr := sGather.sound (by kernel_rfl) sGather_enc fun t hc => by
  have h0 := hc _ (.head _)
  have h1 := hc _ (.tail _ (.head _))
  exact satG GEd_ok mixed Try.func69 (gatherE_e t) (gatherE_v t h0 h1)
theorem celsE_sound : Sound Try.prog 65 sCells.ctr := sCells.sound (by kernel_rfl) sCells_enc fun ⟨g, t, s⟩ hc => by
  have h0 := hc _ (.head _)
  exact satG GEd_ok mixed Try.func65 (celsE_e g t s) (celsE_v g t s)
theorem rcelsE_sound : Sound Try.prog 72 sRcells.ctr := sRcells.sound (by kernel_rfl) sRcells_enc fun ⟨g, t, s⟩ hc => by
  have h0 := hc _ (.head _)
  exact satG GEd_ok mixed Try.func72 (rcelsE_e g t s) (rcelsE_v g t s)
theorem GEe_ok : AllOk Try.prog GEe := .cons rcelE_sound <| .cons encE_sound <| .cons oneE1_sound <| .cons roneE1_sound <| .cons sameE_sound <| .cons sortedE_sound <| .cons cutE_sound <| .cons gatherE_sound <| .cons sortI_sound <| .cons len_sound <| .cons celsE_sound <| .cons rcelsE_sound GEd_ok
theorem rencE_sound : Sound Try.prog 17 sEnc.ctr := sEnc.sound (by kernel_rfl) sEnc_enc fun ⟨g, l⟩ hc => by
  have h0 := hc _ (.head _)
  exact satG GEe_ok mixed Try.func17 (rencE_e g l) (rencE_v g l h0)
theorem chkE_sound : Sound Try.prog 26 sChkT.ctr := sChkT.sound (by kernel_rfl) sChkT_enc fun ⟨g, t⟩ hc => by
  have h0 := hc _ (.head _)
  have h1 := hc _ (.tail _ (.head _))
  exact satG GEe_ok mixed Try.func26 (chkE_e g t) (chkE_v g t h0 h1)
theorem rchkE_sound : Sound Try.prog 29 sChkT.ctr := sChkT.sound (by kernel_rfl) sChkT_enc fun ⟨g, t⟩ hc => by
  have h0 := hc _ (.head _)
  have h1 := hc _ (.tail _ (.head _))
  exact satG GEe_ok mixed Try.func29 (rchkE_e g t) (rchkE_v g t h0 h1)
theorem putE_sound : Sound Try.prog 66 sPut.ctr := sPut.sound (by kernel_rfl) sPut_enc fun ⟨g, t, x, s⟩ hc => by
  have h0 := hc _ (.head _)
  have h1 := hc _ (.tail _ (.head _))
  have h2 := hc _ (.tail _ (.tail _ (.head _)))
  have h3 := hc _ (.tail _ (.tail _ (.tail _ (.head _))))
  have h4 := hc _ (.tail _ (.tail _ (.tail _ (.tail _ (.head _)))))
  have h5 := hc _ (.tail _ (.tail _ (.tail _ (.tail _ (.tail _ (.head _))))))
  have h6 := hc _ (.tail _ (.tail _ (.tail _ (.tail _ (.tail _ (.tail _ (.head _)))))))
  exact satG GEe_ok mixed Try.func66 (putE_e g t x s) (putE_v g t x s h0 h1 h2 h3 h4 h5 h6)
theorem stpE_sound : Sound Try.prog 73 sStp.ctr := sStp.sound (by kernel_rfl) sStp_enc fun ⟨g, t, x, s⟩ hc => by
  have h0 := hc _ (.head _)
  have h1 := hc _ (.tail _ (.head _))
  have h2 := hc _ (.tail _ (.tail _ (.head _)))
  have h3 := hc _ (.tail _ (.tail _ (.tail _ (.head _))))
  exact satG GEe_ok mixed Try.func73 (stpE_e g t x s) (stpE_v g t x s h0 h1 h2 h3)
theorem GEf_ok : AllOk Try.prog GEf := .cons rencE_sound <| .cons chkE_sound <| .cons rchkE_sound <| .cons putE_sound <| .cons stpE_sound GEe_ok
theorem firE_sound : Sound Try.prog 25 sFirst.ctr := sFirst.sound (by kernel_rfl) sFirst_enc fun ⟨g, t, s⟩ hc => by
  have h0 := hc _ (.head _)
  have h1 := hc _ (.tail _ (.head _))
  exact satG GEf_ok mixed Try.func25 (firE_e g t s) (firE_v g t s h0 h1)
theorem rfirE_sound : Sound Try.prog 28 sFirst.ctr := sFirst.sound (by kernel_rfl) sFirst_enc fun ⟨g, t, s⟩ hc => by
  have h0 := hc _ (.head _)
  have h1 := hc _ (.tail _ (.head _))
  exact satG GEf_ok mixed Try.func28 (rfirE_e g t s) (rfirE_v g t s h0 h1)
theorem putEE_sound : Sound Try.prog 24 sPutE.ctr := sPutE.sound (by kernel_rfl) sPutE_enc fun ⟨g, t, x, s⟩ hc => by
  have h0 := hc _ (.head _)
  have h1 := hc _ (.tail _ (.head _))
  exact satG GEf_ok mixed Try.func24 (putEE_e g t x s) (putEE_v g t x s h0 h1)
theorem rputEE_sound : Sound Try.prog 30 sPutE.ctr := sPutE.sound (by kernel_rfl) sPutE_enc fun ⟨g, t, x, s⟩ hc => by
  have h0 := hc _ (.head _)
  have h1 := hc _ (.tail _ (.head _))
  exact satG GEf_ok mixed Try.func30 (rputEE_e g t x s) (rputEE_v g t x s h0 h1)
theorem ceE_sound : Sound Try.prog 32 sCellsE.ctr := sCellsE.sound (by kernel_rfl) sCellsE_enc fun ⟨g, t⟩ hc => by
  have h0 := hc _ (.head _)
  have h1 := hc _ (.tail _ (.head _))
  exact satG GEf_ok mixed Try.func32 (ceE_e g t) (ceE_v g t h0 h1)
theorem rceE_sound : Sound Try.prog 33 sCellsE.ctr := sCellsE.sound (by kernel_rfl) sCellsE_enc fun ⟨g, t⟩ hc => by
  have h0 := hc _ (.head _)
  have h1 := hc _ (.tail _ (.head _))
  exact satG GEf_ok mixed Try.func33 (rceE_e g t) (rceE_v g t h0 h1)
theorem GEg_ok : AllOk Try.prog GEg := .cons firE_sound <| .cons rfirE_sound <| .cons putEE_sound <| .cons rputEE_sound <| .cons ceE_sound <| .cons rceE_sound GEf_ok
theorem int_nat0 (n : Nat) : ((n : Int) == 0) = Nat.beq n 0 := by
  cases n with
  | zero => rfl
  | succ n => exact beq_eq_false_iff_ne.2 (by omega)
theorem noE_v (s g : Int) (t : List (List Int)) (h : t.length ≤ 4294967296) : noE_t s g t := by
  exact ⟨h, int_nat0 _, rfl, rfl⟩
theorem bckE_v (l : List Int) : bckE_t l := rfl
theorem exE_v : exE_t := by
  unfold exE_t
  decide +kernel
theorem rows_flatP {t : List (List Int)} (h : rowsOk t = true) : ∀ i, (flatP t i).length ≤ i * 17592186044416
  | 0 => by simp [flatP]
  | i + 1 => by
    have ih := rows_flatP h i
    by_cases hi : i < t.length
    · rw [flatP_succ hi, List.length_append]
      have := List.all_eq_true.1 h _ (getD_row hi)
      simp only [decide_eq_true_eq] at this
      omega
    · have : flatP t (i + 1) = flatP t i := by
        unfold flatP
        rw [List.take_of_length_le (by omega), List.take_of_length_le (by omega)]
      have e2 : (flatP t (i + 1)).length = (flatP t i).length := congrArg List.length this
      omega
theorem litL_end {g : Int} {t : List (List Int)} {n : Nat} (e : (flatP t 301).length = n) :
    (decide (g ≤ (10 : Int)) = true →
 (decide ((t.length : Int) ≤ (300 : Int)) = true → decide ((n : Int) ≤ (1100 : Int)) = litL g t) ∧
 (decide ((t.length : Int) ≤ (300 : Int)) = false → false = litL g t)) ∧
 (decide (g ≤ (10 : Int)) = false →
 (decide (g > (12 : Int)) = true →
 (decide ((t.length : Int) ≤ (300 : Int)) = true → decide ((n : Int) ≤ (1100 : Int)) = litL g t) ∧
 (decide ((t.length : Int) ≤ (300 : Int)) = false → false = litL g t)) ∧
 (decide (g > (12 : Int)) = false → false = litL g t)) := by
  unfold litL
  rw [e]
  have e1 : decide ((t.length : Int) ≤ (300 : Int)) = decide (t.length ≤ 300) := decide_eq_decide.2 (by omega)
  have e2 : decide ((n : Int) ≤ (1100 : Int)) = decide (n ≤ 1100) := decide_eq_decide.2 (by omega)
  have e3 : decide (g > (12 : Int)) = decide (12 < g) := rfl
  rw [e1, e2, e3]
  cases decide (g ≤ 10) <;> cases decide (12 < g) <;> cases decide (t.length ≤ 300) <;> simp
theorem litE_v (g : Int) (t : List (List Int)) (h0 : t.length ≤ 17592186044416) (h1 : rowsOk t = true) : litE_t g t := by
  unfold litE_t
  refine ⟨⟨0, ⟨by omega, by omega⟩, by simp [flatP], rfl, rfl, rfl⟩, fun i ⟨hi, hi2⟩ => ⟨fun hlt => ⟨fun hlt2 => ?_, fun hge => ?_⟩, fun hge => ?_⟩⟩
  · have hlt : i < t.length := by simpa using hlt
    have hlt2 : i < 301 := by simp only [decide_eq_true_eq] at hlt2; omega
    have b := rows_flatP h1 (i + 1)
    have e := flatP_succ hlt
    have e2 : (flatP t (i + 1)).length = (flatP t i).length + (t.getD i []).length := by rw [e, List.length_append]
    refine ⟨by omega, by omega, i + 1, ⟨by omega, by omega⟩, by rw [Nat.sub_eq, Nat.sub_eq]; omega, ?_, by rw [wr (by omega) (by omega)]; rfl, rfl, rfl⟩
    rw [toNat_cast, e2, wr (by omega) (by omega)]
    rfl
  · have : i = 301 := by simp only [decide_eq_false_iff_not] at hge; omega
    subst this
    exact litL_end rfl
  · have : i = t.length := by simp only [decide_eq_false_iff_not] at hge; omega
    subst this
    refine litL_end ?_
    unfold flatP
    rw [List.take_of_length_le (by omega), List.take_of_length_le (by omega)]
theorem findIdx_at (p : Int → Bool) : ∀ (l : List Int) (i : Nat), i < l.length → (l.take i).any p = false → p (l.getD i 0) = true → l.any p = true ∧ l.findIdx p = i
  | [], i, h, _, _ => by simp at h
  | x :: r, 0, _, _, hp => by
    have hp : p x = true := hp
    exact ⟨by simp [hp], by rw [List.findIdx_cons, hp]; rfl⟩
  | x :: r, i + 1, h, ht, hp => by
    simp only [List.take_succ_cons, List.any_cons, Bool.or_eq_false_iff] at ht
    obtain ⟨h1, h2⟩ := findIdx_at p r i (by simpa using h) ht.2 (by simpa using hp)
    exact ⟨by simp [h1], by rw [List.findIdx_cons, ht.1, h2]; rfl⟩
theorem idxE_v (l : List Int) (g : Int) (t : List (List Int)) (h0 : l.length ≤ 4294967296) (h1 : t.length ≤ 4294967296) : idxE_t l g t := by
  unfold idxE_t
  refine ⟨⟨0, ⟨by omega, rfl⟩, rfl, rfl, rfl, rfl, rfl⟩, fun i ⟨hi, ha⟩ => ⟨fun hlt => ?_, fun hge => ?_⟩⟩
  · have hlt : i < l.length := by simpa using hlt
    simp only [toNat_cast]
    refine ⟨by omega, by omega, h1, fun hn => ?_, fun hn => ?_⟩
    · obtain ⟨k1, k2⟩ := findIdx_at (noC t) l i hlt ha hn
      rw [k1, k2]
      exact ⟨rfl, (by first | rfl | trivial), (by first | rfl | trivial)⟩
    · refine ⟨i + 1, ⟨by omega, ?_⟩, by rw [Nat.sub_eq, Nat.sub_eq]; omega, (by first | rfl | trivial), (by first | rfl | trivial), by rw [wr (by omega) (by omega)]; rfl, (by first | rfl | trivial), (by first | rfl | trivial)⟩
      rw [take_succ l 0 hlt, List.any_append, ha]
      simp only [List.any_cons, List.any_nil, hn]
      rfl
  · have : i = l.length := by simp only [decide_eq_false_iff_not] at hge; omega
    subst this
    rw [List.take_length] at ha
    rw [ha]
    exact ⟨rfl, rfl, rfl⟩
theorem hasE_v (l : List Int) (g : Int) (t : List (List Int)) (h0 : l.length ≤ 4294967296) (h1 : t.length ≤ 4294967296) : hasE_t l g t := by
  unfold hasE_t
  refine ⟨h0, h1, ?_, rfl, rfl⟩
  cases l.any (noC t)
  · rfl
  · rw [cond_true]; exact decide_eq_true (by omega)
theorem bitE_v (x s w : Int) : bitE_t x s w := by
  unfold bitE_t
  refine ⟨by decide +kernel, by decide +kernel, fun _ => ⟨fun h => ?_, fun h => ?_⟩, fun h => by cases h⟩
  · unfold bitB; rw [h]; rfl
  · unfold bitB; rw [h]; rfl
theorem awkE_v : awkE_t := by
  unfold awkE_t
  decide +kernel
theorem noE_sound : Sound Try.prog 64 sNo.ctr := sNo.sound (by kernel_rfl) sNo_enc fun ⟨s, g, t⟩ hc => by
  have h0 := hc _ (.head _)
  exact satG GEg_ok mixed Try.func64 (noE_e s g t) (noE_v s g t h0)
theorem bckE_sound : Sound Try.prog 67 sBack.ctr := sBack.sound (by kernel_rfl) sBack_enc fun l hc => by
  exact satG GEg_ok mixed Try.func67 (bckE_e l) (bckE_v l)
theorem exE_sound : Sound Try.prog 21 sEx.ctr := sEx.sound (by kernel_rfl) sEx_enc fun _ hc => by
  exact satG GEg_ok mixed Try.func21 (exE_e ) (exE_v)
theorem litE_sound : Sound Try.prog 27 sLit.ctr := sLit.sound (by kernel_rfl) sLit_enc fun ⟨g, t⟩ hc => by
  have h0 := hc _ (.head _)
  have h1 := hc _ (.tail _ (.head _))
  exact satG GEg_ok mixed Try.func27 (litE_e g t) (litE_v g t h0 h1)
theorem GEh_ok : AllOk Try.prog GEh := .cons noE_sound <| .cons bckE_sound <| .cons exE_sound <| .cons litE_sound GEg_ok
theorem idxE_sound : Sound Try.prog 98 sIdxE.ctr := sIdxE.sound (by kernel_rfl) sIdxE_enc fun ⟨l, g, t⟩ hc => by
  have h0 := hc _ (.head _)
  have h1 := hc _ (.tail _ (.head _))
  exact satG GEh_ok mixed Try.func98 (idxE_e l g t) (idxE_v l g t h0 h1)
theorem bitE_sound : Sound Try.prog 22 sBitB.ctr := sBitB.sound (by kernel_rfl) sBitB_enc fun ⟨x, s, w⟩ hc => by
  exact satG GEh_ok mixed Try.func22 (bitE_e x s w) (bitE_v x s w)
theorem GEi_ok : AllOk Try.prog GEi := .cons idxE_sound <| .cons bitE_sound GEh_ok
theorem hasE_sound : Sound Try.prog 63 sHasE.ctr := sHasE.sound (by kernel_rfl) sHasE_enc fun ⟨l, g, t⟩ hc => by
  have h0 := hc _ (.head _)
  have h1 := hc _ (.tail _ (.head _))
  exact satG GEi_ok mixed Try.func63 (hasE_e l g t) (hasE_v l g t h0 h1)
theorem awkE_sound : Sound Try.prog 15 sAwake.ctr := sAwake.sound (by kernel_rfl) sAwake_enc fun _ hc => by
  exact satG GEi_ok mixed Try.func15 (awkE_e ) (awkE_v)
theorem GEj_ok : AllOk Try.prog GEj := .cons hasE_sound <| .cons awkE_sound GEi_ok
theorem back_isat (k : Nat) (l : List Int) (h0 : l.length ≤ 4294967296) : ISat Try.prog 100 [.p k 0 0] [(k, .cells 22 [.dat (.ints .i64 l)])] (l.reverse.map fun x => [.int .i64 x]) := by
  have h0 : ISat Try.prog 100 [.p 0 0 0] [(0, .cells 22 [.dat (.ints .i64 l)])] (l.reverse.map fun x => [.int .i64 x]) :=
    isat_of_vcI (Ωi := fun l0 => oBackF l0 l) AllOk.nil mixed Try.func100 (by kernel_rfl) fun l0 => by
      have := backE_v l h0 l0
      rw [backE_e] at this
      exact this
  exact h0.ren (fun i => k + i) (by intro a b _ _ e; omega) rfl rfl
/-! ### a run -/
theorem cel_any {g : Int} {t : List (List Int)} (h : TOk g t) (s : Int) (k : Nat) : 0 ≤ (celT t s).getD k 0 ∧ (celT t s).getD k 0 < (szN g : Int) := by
  by_cases hk : k < (celT t s).length
  · exact h.cel_rng hk
  · rw [List.getD_eq_getElem?_getD, List.getElem?_eq_none (by omega)]
    have := szN_pos g
    exact ⟨Int.le_refl _, by simp only [Option.getD_none]; omega⟩
theorem put_bd {g : Int} {t : List (List Int)} (h : TOk g t) {x s : Int} (hx0 : 0 ≤ x) (hx1 : x < (szN g : Int)) (hn : noC t s = false) : 0 ≤ putN g t x s ∧ putN g t x s ≤ 13 := by
  have hs := stpN h.g0 h.g12 hx0 hx1 hn (h.cel_le s)
  have h1 := hs.nb.n0
  have h2 := hs.nb.nle
  have h3 := hs.h0
  have h4 := hs.hX
  unfold putN
  omega
theorem run_one (g : Int) (t : List (List Int)) (s : Int) : runL g t [s] = ((celT t s).getD 0 0, 0) := rfl
theorem run_cons (g : Int) (t : List (List Int)) (s : Int) {r : List Int} (h : r ≠ []) : runL g t (s :: r) = (putS g t (runL g t r).1 s, (runL g t r).2 + putN g t (runL g t r).1 s) := by
  cases r with
  | nil => exact absurd rfl h
  | cons y r => rfl
structure RunB (g : Int) (t : List (List Int)) (l : List Int) : Prop where
  x0 : 0 ≤ (runL g t l).1
  x1 : (runL g t l).1 < (szN g : Int)
  n0 : 0 ≤ (runL g t l).2
  n1 : (runL g t l).2 ≤ 13 * (l.length : Int)
theorem run_bd {g : Int} {t : List (List Int)} (h : TOk g t) : ∀ l : List Int, l.any (noC t) = false → RunB g t l
  | [], _ => ⟨Int.le_refl _, by have := szN_pos g; show (0 : Int) < _; omega, Int.le_refl _, by show (0 : Int) ≤ _; omega⟩
  | s :: r, ha => by
    simp only [List.any_cons, Bool.or_eq_false_iff] at ha
    have ih := run_bd h r ha.2
    by_cases hr : r = []
    · subst hr
      rw [show RunB g t [s] ↔ _ from Iff.rfl]
      have := cel_any h s 0
      exact ⟨by rw [run_one]; exact this.1, by rw [run_one]; exact this.2, by rw [run_one]; exact Int.le_refl _, by rw [run_one]; simp⟩
    · have := cel_any h s (putX g (runL g t r).1 / 2 ^ (putN g t (runL g t r).1 s).toNat - (celT t s).length).toNat
      have hb := put_bd h ih.x0 ih.x1 ha.1
      have n0 := ih.n0
      have n1 := ih.n1
      exact ⟨by rw [run_cons g t s hr]; exact this.1, by rw [run_cons g t s hr]; exact this.2, by rw [run_cons g t s hr]; simp only; omega, by rw [run_cons g t s hr]; simp only [List.length_cons]; push_cast; omega⟩
theorem any_drop {p : Int → Bool} {l : List Int} (h : l.any p = false) (k : Nat) : (l.drop k).any p = false := by
  rw [← List.take_append_drop k l, List.any_append, Bool.or_eq_false_iff] at h
  exact h.2
theorem any_get {p : Int → Bool} {l : List Int} (h : l.any p = false) {k : Nat} (hk : k < l.length) : p (l.getD k 0) = false := by
  cases hb : p (l.getD k 0)
  · rfl
  · rw [List.any_eq_true.2 ⟨_, getD_mem' hk, hb⟩] at h; cases h
theorem drop_at {l : List Int} {k : Nat} (hk : k < l.length) : l.drop k = l.getD k 0 :: l.drop (k + 1) := by
  rw [List.drop_eq_getElem_cons hk, List.getD_eq_getElem?_getD, List.getElem?_eq_getElem hk]
  rfl
theorem run_step {g : Int} {t : List (List Int)} {l : List Int} {k : Nat} (hk : k + 1 < l.length) : runL g t (l.drop k) = (putS g t (runL g t (l.drop (k + 1))).1 (l.getD k 0), (runL g t (l.drop (k + 1))).2 + putN g t (runL g t (l.drop (k + 1))).1 (l.getD k 0)) := by
  rw [drop_at (show k < l.length by omega)]
  exact run_cons g t _ fun h => by
    have := congrArg List.length h
    simp at this
    omega
theorem run_last {g : Int} {t : List (List Int)} {l : List Int} (h : l.length ≠ 0) : runL g t (l.drop (l.length - 1)) = ((celT t (l.getD (l.length - 1) 0)).getD 0 0, 0) := by
  rw [drop_at (show l.length - 1 < l.length by omega), show l.length - 1 + 1 = l.length by omega, List.drop_length]
  rfl
theorem ru_bad {g : Int} {t : List (List Int)} {l : List Int} {e : Int} (h : ruE g t l = e) (he : e ≠ 0) : 0 = ruS g t l ∧ 0 = ruN g t l ∧ e = ruE g t l := by
  have hb : (ruE g t l == 0) = false := by simpa using fun h' => he (h ▸ h')
  refine ⟨?_, ?_, h.symm⟩
  · unfold ruS; rw [hb]; rfl
  · unfold ruN; rw [hb]; rfl
theorem ru_chk {g : Int} {t : List (List Int)} {l : List Int} (h : (echk g t != (0 : Int)) = true) : ruE g t l = echk g t := by unfold ruE; rw [ne0 h]; rfl
theorem ru_long {g : Int} {t : List (List Int)} {l : List Int} (h : echk g t = 0) (h2 : 100000 < l.length) : ruE g t l = 2 := by unfold ruE; rw [beq0 h, decide_eq_true h2]; rfl
theorem ru_empty {g : Int} {t : List (List Int)} {l : List Int} (h : echk g t = 0) (h2 : ¬ 100000 < l.length) (h3 : l.length = 0) : ruE g t l = 7 := by unfold ruE; rw [beq0 h, decide_eq_false h2, h3]; rfl
theorem ru_none {g : Int} {t : List (List Int)} {l : List Int} (h : echk g t = 0) (h2 : ¬ 100000 < l.length) (h3 : l.any (noC t) = true) : ruE g t l = 7 := by unfold ruE; rw [beq0 h, decide_eq_false h2, h3, Bool.or_true]; rfl
theorem nbeq0 {n : Nat} (h : n ≠ 0) : Nat.beq n 0 = false := by
  cases n with
  | zero => exact absurd rfl h
  | succ n => rfl
theorem ru_good {g : Int} {t : List (List Int)} {l : List Int} (h : echk g t = 0) (h2 : ¬ 100000 < l.length) (h3 : l.length ≠ 0) (h4 : l.any (noC t) = false) : ruE g t l = 0 := by unfold ruE; rw [beq0 h, decide_eq_false h2, nbeq0 h3, h4]; rfl
theorem ru_vals {g : Int} {t : List (List Int)} {l : List Int} (h : ruE g t l = 0) : (runL g t l).1 = ruS g t l ∧ (runL g t l).2 = ruN g t l ∧ 0 = ruE g t l := by
  refine ⟨?_, ?_, h.symm⟩
  · unfold ruS; rw [beq0 h]; rfl
  · unfold ruN; rw [beq0 h]; rfl
theorem nz {a : Int} (h : (a != (0 : Int)) = true) : a ≠ 0 := by simpa using h
theorem runE_v (g : Int) (t : List (List Int)) (l : List Int) (h0 : t.length ≤ 4294967296) (h1 : litT g t = true) (h2 : l.length ≤ 4294967296) : runE_t g t l := by
  unfold runE_t
  refine ⟨h0, h1, fun h => ru_bad (ru_chk h) (nz h), fun h => ?_⟩
  have hc := eq0 h
  have hT := echk0 hc
  refine ⟨fun hl => ru_bad (ru_long hc (by simp only [gt_iff_lt, decide_eq_true_eq] at hl; omega)) (by decide), fun hl => ?_⟩
  have hl : ¬ 100000 < l.length := by simp only [gt_iff_lt, decide_eq_false_iff_not] at hl; omega
  refine ⟨fun he => ru_bad (ru_empty hc hl (len0 he)) (by decide), fun he => ?_⟩
  have he := len1 he
  refine ⟨h2, h0, fun ha => ru_bad (ru_none hc hl ha) (by decide), fun ha => ?_⟩
  have hr := ru_good hc hl he ha
  have ew : IntKind.wrap IntKind.i64 ((l.length : Int) - 1) = ((l.length - 1 : Nat) : Int) := by rw [wr (by omega) (by omega)]; omega
  have hN : ∀ k, k < l.length → noC t (l.getD k 0) = false := fun k hk => any_get ha hk
  have hb : ∀ k, RunB g t (l.drop k) := fun k => run_bd hT _ (any_drop ha k)
  rw [ew, toNat_cast]
  have hcl : (celT t (l.getD (l.length - 1) 0)).length ≠ 0 := by
    intro h'
    have := hN (l.length - 1) (by omega)
    rw [noC_iff.2 h'] at this
    cases this
  have hlen : ((l.dropLast.reverse).map fun x => [Value.int IntKind.i64 x]).length = l.length - 1 := by simp
  refine ⟨by omega, by omega, h0, Int.le_refl _, by omega, Int.le_refl _, by omega, by omega, 0, back_isat _ _ (by simp; omega), ?_, hr, ⟨rfl, ?_, ?_, rfl, rfl, rfl, rfl⟩, fun i hi hr => ?_, fun hr => ?_⟩
  · rw [List.dropLast_eq_take]; rfl
  · rw [Nat.sub_zero, run_last he]; rfl
  · rw [Nat.sub_zero, run_last he]
  · rw [hlen] at hi
    have hk : l.length - 1 - (i + 1) = l.length - 2 - i := by omega
    have hk1 : l.length - 1 - i = l.length - 2 - i + 1 := by omega
    have st := run_step (g := g) (t := t) (l := l) (k := l.length - 2 - i) (by omega)
    have b := hb (l.length - 2 - i + 1)
    have hn := hN (l.length - 2 - i) (by omega)
    have pb := put_bd hT b.x0 b.x1 hn
    have b0 := b.n0
    have b1 := b.n1
    rw [List.length_drop] at b1
    rw [hk, hk1, st]
    refine ⟨?_, rfl, hT.g0, hT.g12, h0, b.x0, b.x1, hn, hT.cel_le _, hr, rfl, ?_, rfl, rfl, rfl, rfl⟩
    · rw [List.getElem?_map, List.getElem?_reverse (by simp; omega), List.length_dropLast]
      rw [List.getElem?_dropLast, if_pos (by omega), List.getD_eq_getElem?_getD, show l.length - 1 - 1 - i = l.length - 2 - i by omega, List.getElem?_eq_getElem (by omega)]
      rfl
    · rw [wr (by omega) (by omega)]
  · rw [hlen, Nat.sub_self, List.drop_zero]
    exact ru_vals hr
theorem rrunE_v (g : Int) (t : List (List Int)) (l : List Int) (h0 : t.length ≤ 4294967296) (h1 : litT g t = true) (h2 : l.length ≤ 4294967296) : rrunE_t g t l := by
  unfold rrunE_t
  refine ⟨h0, h1, fun h => ru_bad (ru_chk h) (nz h), fun h => ?_⟩
  have hc := eq0 h
  have hT := echk0 hc
  refine ⟨fun hl => ru_bad (ru_long hc (by simp only [gt_iff_lt, decide_eq_true_eq] at hl; omega)) (by decide), fun hl => ?_⟩
  have hl : ¬ 100000 < l.length := by simp only [gt_iff_lt, decide_eq_false_iff_not] at hl; omega
  refine ⟨fun he => ru_bad (ru_empty hc hl (len0 he)) (by decide), fun he => ?_⟩
  have he := len1 he
  have ew : IntKind.wrap IntKind.i64 ((l.length : Int) - 1) = ((l.length - 1 : Nat) : Int) := by rw [wr (by omega) (by omega)]; omega
  rw [ew, toNat_cast]
  have hlast : l.getD (l.length - 1) 0 ∈ l := getD_mem' (by omega)
  refine ⟨by omega, by omega, h0, h1, fun hf => ?_, fun hf => ⟨?_, fun k ⟨hk1, hk2, _, _, hk3⟩ => ⟨fun hlt => ?_, fun hge => ?_⟩⟩⟩
  · by_cases hn : (celT t (l.getD (l.length - 1) 0)).length = 0
    · rw [(fr_none hc hn).1]
      exact ru_bad (ru_none hc hl (List.any_eq_true.2 ⟨_, hlast, noC_iff.2 hn⟩)) (by decide)
    · rw [(fr_good hc hn).1] at hf
      cases hf
  · have hn : (celT t (l.getD (l.length - 1) 0)).length ≠ 0 := fun hn => by
      rw [(fr_none hc hn).1] at hf
      cases hf
    refine ⟨1, ⟨Nat.le_refl _, by omega, hc, by omega, ?_⟩, rfl, ?_, ?_, ?_, rfl, rfl⟩
    · rw [drop_at (show l.length - 1 < l.length by omega), show l.length - 1 + 1 = l.length by omega, List.drop_length]
      simp only [List.any_cons, List.any_nil, Bool.or_false]
      cases hb : noC t (l.getD (l.length - 1) 0)
      · rfl
      · exact absurd (noC_iff.1 hb) hn
    · rw [run_last he, (fr_good hc hn).2]
    · rw [run_last he]
    · rw [wr (by omega) (by omega)]; omega
  · have hlt : k < l.length := by simp only [ge_iff_le, decide_eq_true_eq] at hlt; omega
    have e1 : ((l.length : Int) - 1 - (k : Int)).toNat = l.length - (k + 1) := by omega
    have e2 : l.length - k = l.length - (k + 1) + 1 := by omega
    rw [e1]
    have hb := run_bd hT _ hk3
    have st := run_step (g := g) (t := t) (l := l) (k := l.length - (k + 1)) (by omega)
    rw [← e2] at st
    have es := stE_in (t := t) (s := l.getD (l.length - (k + 1)) 0) hb.x0 hb.x1
    have hm : l.getD (l.length - (k + 1)) 0 ∈ l := getD_mem' (by omega)
    refine ⟨by omega, by omega, hT.g0, hT.g12, h0, hT.cel_le _, fun hs => ?_, fun hs => ?_⟩
    · rw [es] at hs ⊢
      have hn := celM_ne hs
      rw [celM_out hn]
      exact ru_bad (ru_none hc hl (List.any_eq_true.2 ⟨_, hm, noC_iff.2 hn⟩)) (by decide)
    · have hs0 := eq0 hs
      rw [es] at hs
      have hn := celM_eq hs
      have hn : noC t (l.getD (l.length - (k + 1)) 0) = false := by
        cases hb : noC t (l.getD (l.length - (k + 1)) 0)
        · rfl
        · exact absurd (noC_iff.1 hb) hn
      have pb := put_bd hT hb.x0 hb.x1 hn
      have b0 := hb.n0
      have b1 := hb.n1
      rw [List.length_drop] at b1
      obtain ⟨g1, g2, g3⟩ := st_good hs0
      rw [g1, g2]
      refine ⟨k + 1, ⟨by omega, by omega, hc, by omega, ?_⟩, by rw [Nat.sub_eq, Nat.sub_eq]; omega, rfl, by rw [st], ?_, ?_, rfl, rfl⟩
      · rw [drop_at (show l.length - (k + 1) < l.length by omega), ← e2, List.any_cons, hn, hk3]; rfl
      · rw [st, wr (by omega) (by omega)]
      · rw [wr (by omega) (by omega)]; push_cast; omega
  · have hk : k = l.length := by simp only [ge_iff_le, decide_eq_false_iff_not] at hge; omega
    subst hk
    rw [Nat.sub_self, List.drop_zero] at hk3 ⊢
    exact ru_vals (ru_good hc hl he hk3)
theorem runE_sound : Sound Try.prog 23 sRun.ctr := sRun.sound (by kernel_rfl) sRun_enc fun ⟨g, t, l⟩ hc => by
  have h0 := hc _ (.head _)
  have h1 := hc _ (.tail _ (.head _))
  have h2 := hc _ (.tail _ (.tail _ (.head _)))
  exact satG GEj_ok mixed Try.func23 (runE_e g t l) (runE_v g t l h0 h1 h2)
theorem rrunE_sound : Sound Try.prog 31 sRun.ctr := sRun.sound (by kernel_rfl) sRun_enc fun ⟨g, t, l⟩ hc => by
  have h0 := hc _ (.head _)
  have h1 := hc _ (.tail _ (.head _))
  have h2 := hc _ (.tail _ (.tail _ (.head _)))
  exact satG GEj_ok mixed Try.func31 (rrunE_e g t l) (rrunE_v g t l h0 h1 h2)
theorem GEk_ok : AllOk Try.prog GEk := .cons runE_sound <| .cons rrunE_sound GEj_ok
end Go.Proofs.Ytbdgknebimdjoaa
/-
  Chapter 11: the laws that need no reader hold. Conditions: each theorem's own.
-/
namespace Go.Proofs.Ytbdgknebimdjoaa
open Go Go.RowKit
set_option linter.unusedVariables false
set_option linter.unusedSimpArgs false
set_option maxRecDepth 100000
theorem sameL_refl (a : List (List Int)) : sameL a a = true := by unfold sameL; simp
theorem eqI_refl (l : List Int) : eqI l l = true := by unfold eqI; simp
theorem flat_le {t : List (List Int)} {B : Nat} : (∀ r ∈ t, r.length ≤ B) → t.flatten.length ≤ t.length * B := by
  induction t with
  | nil => intro _; simp
  | cons r t ih =>
    intro h
    have h1 := h r (by simp)
    have h2 := ih fun r hr => h r (by simp [hr])
    simp only [List.flatten_cons, List.length_append, List.length_cons]
    rw [Nat.add_mul]
    omega
theorem one_bdd (s : Int) : (oneL s).length ≤ 256 ∧ (oneL s).flatten.length ≤ 256 := by
  by_cases h : s < 0 ∨ 255 < s
  · rw [(one_bad h).1]; simp
  · have e := (one_good (s := s) (by omega) (by omega)).1
    have hl : (oneL s).length ≤ 256 := by rw [e]; simp; omega
    refine ⟨hl, ?_⟩
    have := flat_le (t := oneL s) (B := 1) fun r hr => by
      rw [e] at hr
      rcases List.mem_or_eq_of_mem_set hr with h | h
      · rw [List.mem_replicate] at h; rw [h.2]; simp
      · rw [h]; simp
    omega
theorem enc_bdd (g : Int) (l : List Int) (h : l.length ≤ 300) : (encL g l).length ≤ 4294967296 ∧ (encL g l).flatten.length ≤ 4294967296 := by
  by_cases hd : dchk g l = 0
  · have hD := dchk0 hd
    have hs := szN_bd hD.g5 hD.g12
    have hl : (encL g l).length = l.length := by rw [(enc_good hd).2, ← states_all, states_len]
    refine ⟨by omega, ?_⟩
    have := flat_le (t := encL g l) (B := 4096) fun r hr => by
      rw [(enc_good hd).2] at hr
      unfold statesL at hr
      obtain ⟨k, _, rfl⟩ := List.mem_map.1 hr
      have := cellsP_le (spr g l) (k : Int) (spr g l).length
      rw [cellsP_all, spr_len] at this
      omega
    omega
  · have := (enc_bad (g := g) (l := l) (by simpa using hd)).2
    rw [this]
    simp
theorem lwMk_v (g : Int) (l : List Int) (s : Int) : lwMk_t g l s := by
  unfold lwMk_t
  refine ⟨fun _ => rfl, fun h => ?_⟩
  have h : l.length ≤ 300 := by simp only [gt_iff_lt, decide_eq_false_iff_not] at h; omega
  have hb := enc_bdd g l h
  have ho := one_bdd s
  have o1 : (oneL s).length ≤ 4294967296 := by omega
  have o2 : (oneL s).flatten.length ≤ 4294967296 := by omega
  have hl : l.length ≤ 4294967296 := by omega
  simp only [hb.1, hb.2, o1, o2, hl, sameL_refl, bne_self_eq_false, beq_self_eq_true, Bool.and_self, Bool.not_true, true_and, and_true, implies_true, Bool.false_eq_true, Bool.true_eq_false, false_implies, true_implies]
set_option synthInstance.maxSize 10000 in
set_option synthInstance.maxHeartbeats 400000 in
theorem lwKn_v : lwKn_t := by
  unfold lwKn_t
  decide +kernel
theorem litT_L {g : Int} {t : List (List Int)} (h : litL g t = true) : litT g t = true := by
  unfold litL at h
  simp only [Bool.and_eq_true, decide_eq_true_eq] at h
  have : (flatP t 301).length = t.flatten.length := by
    unfold flatP
    rw [List.take_of_length_le (by omega)]
  unfold litT
  rw [decide_eq_true (by omega), Bool.or_true]
theorem ce_len (g : Int) (t : List (List Int)) : (ceO g t).length ≤ 4294967296 := by
  by_cases h : echk g t = 0
  · have hT := echk0 h
    rw [ce_good h, markP_len]
    have := sz0 hT.g0 hT.g12
    omega
  · rw [ce_bad (by simpa using h)]
    simp
theorem lwSt_v (g : Int) (t : List (List Int)) (x s : Int) (l : List Int) (h0' : t.length ≤ 17592186044416) (h1 : rowsOk t = true) : lwSt_t g t x s l := by
  unfold lwSt_t
  refine ⟨h0', h1, fun _ => rfl, fun h => ?_⟩
  have hL : litL g t = true := by simpa using h
  have h2 : litT g t = true := litT_L hL
  have h0 : t.length ≤ 4294967296 := by
    unfold litL at hL
    simp only [Bool.and_eq_true, decide_eq_true_eq] at hL
    omega
  have hc := ce_len g t
  refine ⟨fun _ => ⟨fun _ => rfl, fun _ => ⟨fun _ => rfl, fun hl => ?_⟩⟩, fun _ => ⟨fun _ => rfl, fun hl => ?_⟩⟩
  all_goals
    have hl : l.length ≤ 4294967296 := by simp only [gt_iff_lt, decide_eq_false_iff_not] at hl; omega
    simp only [h0, h2, hc, hl, eqI_refl, bne_self_eq_false, beq_self_eq_true, Bool.and_self, Bool.not_true, true_and, and_true, implies_true, Bool.false_eq_true, Bool.true_eq_false, false_implies, true_implies]
theorem eknown_any (W : World) : Calls Try.prog 4 #[] W fun e w' => e = .returned (.bool true) ∧ Below W.heap.size W w' :=
  law_true (us := []) (satG GEk_ok mixed Try.func4 lwKn_e lwKn_v) (.inr rfl) (by simp only [Reps])
theorem emakes_any (g : Int) (A : Option Addr) (n cap : Nat) (zs : List Int) (s : Int) (W : World) (hg : InR g) (hI : IntsIn W A n cap zs) (hs : InR s) :
    Calls Try.prog 3 #[.agg #[.int .i64 g, .slice A n cap], .int .i64 s] W fun e w' => e = .returned (.bool true) ∧ Below W.heap.size W w' := by
  refine law_true (us := [.agg #[.int .i64 g, .slice A n cap], .int .i64 s]) (satG GEk_ok mixed Try.func3 (lwMk_e g (zs.take n) s) (lwMk_v g _ s)) (.inr rfl) ?_
  simp only [Reps]
  exact ⟨_, _, rfl, ⟨[_, _], rfl, _, _, rfl, rfl, _, _, rfl, dat_ints hI, rfl⟩, _, _, rfl, rfl, rfl⟩
theorem esteps_any (g : Int) (A : Option Addr) (n cap : Nat) (xss : List (List Int)) (x s : Int) (A2 : Option Addr) (n2 cap2 : Nat) (zs : List Int) (W : World) (hg : InR g) (hL : ListsIn W A n cap xss) (hx : InR x) (hs : InR s) (hI : IntsIn W A2 n2 cap2 zs) :
    Calls Try.prog 5 #[.agg #[.int .i64 g, .slice A n cap], .int .i64 x, .int .i64 s, .slice A2 n2 cap2] W fun e w' => e = .returned (.bool true) ∧ Below W.heap.size W w' := by
  have hr : rowsOk xss = true := List.all_eq_true.2 fun r hr => decide_eq_true (hL.rows r hr)
  have hn : xss.length ≤ 17592186044416 := by rw [hL.len]; exact hL.big
  refine law_true (us := [.agg #[.int .i64 g, .slice A n cap], .int .i64 x, .int .i64 s, .slice A2 n2 cap2]) (satG GEk_ok mixed Try.func5 (lwSt_e g xss x s (zs.take n2)) (lwSt_v g _ x s _ hn hr)) (.inr rfl) ?_
  simp only [Reps]
  exact ⟨_, _, rfl, ⟨[_, _], rfl, _, _, rfl, rfl, _, _, rfl, dat_lists hL, rfl⟩, _, _, rfl, rfl, _, _, rfl, rfl, _, _, rfl, dat_ints hI, rfl⟩
end Go.Proofs.Ytbdgknebimdjoaa
