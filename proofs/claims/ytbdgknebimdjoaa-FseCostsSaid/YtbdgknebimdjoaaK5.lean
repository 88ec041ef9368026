/-
  Texts joined: Lib, EK, ED, EL, EMf, EM, EMt, EN, FF, FA, FAt, FB, FC, FD, FG, FGt. Conditions: each theorem's own.
-/
import Derived.Shelf.Small.Bits
import Derived.Shelf.Sort.Plain
import Derived.Test.YtbdgknebimdjoaaProg
import Derived.Test.YtbdgknebimdjoaaK4
import Derived.Shelf.Slices.In.SortNone
import Derived.Sort.OwnSortedInts
import Derived.Test.YtbdgknebimdjoaaK1
/-
  The library's contracts of slices.Sort at int, math/bits.Len and Len8, laid at this program's functions (written by the kit's lay-plain, its numbers are this seat's). Conditions: each theorem's own.
-/
namespace Go.Proofs
open Go.Shelf
def Try.lays126_ren : Go.Shelf.Ren := ⟨fun | 126 => 161 | n => n, fun | 5 => 5 | 3 => 3 | 9 => 9 | n => n, fun | n => n⟩
theorem Try.lays126 : Go.Proofs.Lays.n126 Try.prog Try.lays126_ren := {
  mixed := by kernel_rfl
  f126 := Try.func161.trans (congrArg some (by kernel_rfl))
  t3 := Try.underlying3
  a3 := Try.isAgg3
  z3 := Try.sizeOf3
  v3 := Try.zeroValue3
  t5 := Try.underlying5
  a5 := Try.isAgg5
  z5 := Try.sizeOf5
  v5 := Try.zeroValue5
  t9 := Try.underlying9
  a9 := Try.isAgg9
  z9 := Try.sizeOf9
  v9 := Try.zeroValue9 }
/-- bits.Len8: "Len8 returns the minimum number of bits required to represent x; the result is 0 for x == 0.": IT RETURNS 'Lib.bitLen x'; the world is as it was. ('h0', 'h1': x is a uint8.) (LAID: no walk: one application.) -/
theorem Try.bits_Len8 (x : Int) (w : World) (h0 : 0 ≤ x) (h1 : x ≤ 255) :
    Calls Try.prog 161 #[.int .u8 x] w fun e w' => e = .returned (.int .i64 (Lib.bitLen x.toNat)) ∧ w' = w := Any.bits_Len8 Try.lays126 x w h0 h1
def Try.lays125_ren : Go.Shelf.Ren := ⟨fun | 125 => 99 | 128 => 128 | 129 => 129 | n => n, fun | 46 => 65 | 3 => 3 | 51 => 163 | 53 => 106 | 4 => 4 | 5 => 5 | 9 => 9 | n => n, fun | n => n⟩
theorem Try.lays125 : Go.Proofs.Lays.n125 Try.prog Try.lays125_ren := {
  mixed := by kernel_rfl
  f125 := Try.func99.trans (congrArg some (by kernel_rfl))
  f128 := Try.func128.trans (congrArg some (by kernel_rfl))
  f129 := Try.func129.trans (congrArg some (by kernel_rfl))
  t3 := Try.underlying3
  a3 := Try.isAgg3
  z3 := Try.sizeOf3
  v3 := Try.zeroValue3
  t4 := Try.underlying4
  a4 := Try.isAgg4
  z4 := Try.sizeOf4
  v4 := Try.zeroValue4
  t5 := Try.underlying5
  a5 := Try.isAgg5
  z5 := Try.sizeOf5
  v5 := Try.zeroValue5
  t9 := Try.underlying9
  a9 := Try.isAgg9
  z9 := Try.sizeOf9
  v9 := Try.zeroValue9
  t46 := Try.underlying65
  a46 := Try.isAgg65
  z46 := Try.sizeOf65
  v46 := Try.zeroValue65
  t51 := Try.underlying163
  a51 := Try.isAgg163
  z51 := Try.sizeOf163
  v51 := Try.zeroValue163
  t53 := Try.underlying106
  a53 := Try.isAgg106
  z53 := Try.sizeOf106
  v53 := Try.zeroValue106 }
/-- bits.Len: "Len returns the minimum number of bits required to represent x; the result is 0 for x == 0.": IT RETURNS 'Lib.bitLen x'; the world is as it was. (A uint has 64 bits in the model.) ITS CALLEE bits.Len64 IS MET BY ITS OWN CONTRACT OFF THE SHELF (lay that first). (LAID: no walk: one application.) -/
theorem Try.bits_Len (x : Int) (w : World) (h0 : 0 ≤ x) (h1 : x ≤ 18446744073709551615) :
    Calls Try.prog 99 #[.int .u64 x] w fun e w' => e = .returned (.int .i64 (Lib.bitLen x.toNat)) ∧ w' = w := Any.bits_Len Try.lays125 x w h0 h1
def Try.lays189_ren : Go.Shelf.Ren := ⟨fun | 189 => 71 | 125 => 99 | 257 => 102 | 128 => 128 | 129 => 129 | 294 => 131 | 295 => 132 | 296 => 133 | 297 => 134 | 298 => 135 | 299 => 136 | 216 => 101 | 300 => 137 | 301 => 138 | 328 => 148 | 329 => 149 | 330 => 150 | 331 => 151 | 332 => 152 | 215 => 130 | 343 => 160 | n => n, fun | 28 => 22 | 3 => 3 | 46 => 65 | 0 => 0 | 51 => 163 | 53 => 106 | 4 => 4 | 183 => 167 | 182 => 166 | 131 => 125 | 5 => 5 | 9 => 9 | 218 => 176 | 222 => 180 | 228 => 189 | 229 => 190 | n => n, fun | n => n⟩
theorem Try.lays189 : Go.Proofs.Lays.n189 Try.prog Try.lays189_ren := {
  mixed := by kernel_rfl
  f125 := Try.func99.trans (congrArg some (by kernel_rfl))
  f128 := Try.func128.trans (congrArg some (by kernel_rfl))
  f129 := Try.func129.trans (congrArg some (by kernel_rfl))
  f189 := Try.func71.trans (congrArg some (by kernel_rfl))
  f215 := Try.func130.trans (congrArg some (by kernel_rfl))
  f216 := Try.func101.trans (congrArg some (by kernel_rfl))
  f257 := Try.func102.trans (congrArg some (by kernel_rfl))
  f294 := Try.func131.trans (congrArg some (by kernel_rfl))
  f295 := Try.func132.trans (congrArg some (by kernel_rfl))
  f296 := Try.func133.trans (congrArg some (by kernel_rfl))
  f297 := Try.func134.trans (congrArg some (by kernel_rfl))
  f298 := Try.func135.trans (congrArg some (by kernel_rfl))
  f299 := Try.func136.trans (congrArg some (by kernel_rfl))
  f300 := Try.func137.trans (congrArg some (by kernel_rfl))
  f301 := Try.func138.trans (congrArg some (by kernel_rfl))
  f328 := Try.func148.trans (congrArg some (by kernel_rfl))
  f329 := Try.func149.trans (congrArg some (by kernel_rfl))
  f330 := Try.func150.trans (congrArg some (by kernel_rfl))
  f331 := Try.func151.trans (congrArg some (by kernel_rfl))
  f332 := Try.func152.trans (congrArg some (by kernel_rfl))
  f343 := Try.func160.trans (congrArg some (by kernel_rfl))
  t0 := Try.underlying0
  a0 := Try.isAgg0
  z0 := Try.sizeOf0
  v0 := Try.zeroValue0
  t3 := Try.underlying3
  a3 := Try.isAgg3
  z3 := Try.sizeOf3
  v3 := Try.zeroValue3
  t4 := Try.underlying4
  a4 := Try.isAgg4
  z4 := Try.sizeOf4
  v4 := Try.zeroValue4
  t5 := Try.underlying5
  a5 := Try.isAgg5
  z5 := Try.sizeOf5
  v5 := Try.zeroValue5
  t9 := Try.underlying9
  a9 := Try.isAgg9
  z9 := Try.sizeOf9
  v9 := Try.zeroValue9
  t28 := Try.underlying22
  a28 := Try.isAgg22
  z28 := Try.sizeOf22
  v28 := Try.zeroValue22
  t46 := Try.underlying65
  a46 := Try.isAgg65
  z46 := Try.sizeOf65
  v46 := Try.zeroValue65
  t51 := Try.underlying163
  a51 := Try.isAgg163
  z51 := Try.sizeOf163
  v51 := Try.zeroValue163
  t53 := Try.underlying106
  a53 := Try.isAgg106
  z53 := Try.sizeOf106
  v53 := Try.zeroValue106
  t131 := Try.underlying125
  a131 := Try.isAgg125
  z131 := Try.sizeOf125
  v131 := Try.zeroValue125
  t182 := Try.underlying166
  a182 := Try.isAgg166
  z182 := Try.sizeOf166
  v182 := Try.zeroValue166
  t183 := Try.underlying167
  a183 := Try.isAgg167
  z183 := Try.sizeOf167
  v183 := Try.zeroValue167
  t218 := Try.underlying176
  a218 := Try.isAgg176
  z218 := Try.sizeOf176
  v218 := Try.zeroValue176
  t222 := Try.underlying180
  a222 := Try.isAgg180
  z222 := Try.sizeOf180
  v222 := Try.zeroValue180
  t228 := Try.underlying189
  a228 := Try.isAgg189
  z228 := Try.sizeOf189
  v228 := Try.zeroValue189
  t229 := Try.underlying190
  a229 := Try.isAgg190
  z229 := Try.sizeOf190
  v229 := Try.zeroValue190 }
open Go.Sort Go.RowKit in
theorem Try.slices_Sort_int (blk off cap : Nat) (zs : List Int) (w : World) (hH : Holds (Value.int .i64) w blk off zs.toArray) (hblk : blk < w.heap.size) (hsz : zs.length < 4611686018427387904) :
    Calls Try.prog 71 #[.slice (some ⟨blk, off, none⟩) zs.length cap] w fun e w' =>
      e = .returned (.tuple #[]) ∧ ∃ n os, w' = grow (putRow (Value.int .i64) (Sort.ahead w n) blk off (zs.mergeSort fun x y => decide (x ≤ y)).toArray) os := Any.slices_Sort_int Try.lays189 blk off cap zs w hH hblk hsz
end Go.Proofs
/-
  slices.Sort of ints, math/bits.Len: their contracts. Conditions: each theorem's own.
-/
namespace Go.Proofs.Ytbdgknebimdjoaa
open Go Go.Shelf Go.RowKit Go.Lib Go.Sort
set_option linter.unusedVariables false
set_option linter.unusedSimpArgs false
set_option maxRecDepth 100000
theorem bitLen_eq : ∀ (f x : Nat), x < 2 ^ f → bitLenAux f x = if x = 0 then 0 else Nat.log2 x + 1
  | 0, x, h => by
    have : x = 0 := by omega
    subst this; rfl
  | f + 1, x, h => by
    unfold bitLenAux
    by_cases h0 : x = 0
    · rw [if_pos h0, if_pos h0]
    · rw [if_neg h0, if_neg h0, bitLen_eq f (x / 2) (by rw [Nat.pow_succ] at h; omega), Nat.log2_def x]
      by_cases h1 : x / 2 = 0
      · rw [if_pos h1, if_neg (by omega)]
      · rw [if_neg h1, if_pos (by omega)]; omega
theorem bitLen_hi {x : Int} (h0 : 0 ≤ x) (h1 : x ≤ 9223372036854775807) : ((Lib.bitLen x.toNat : Nat) : Int) = hiI x + 1 := by
  show ((bitLenAux 64 x.toNat : Nat) : Int) = _
  rw [bitLen_eq 64 _ (by omega)]
  unfold hiI
  by_cases h : x = 0
  · subst h; rfl
  · rw [if_neg (by omega), decide_eq_false (by omega)]
    push_cast
    rfl
theorem len_sat (x : Int) (h0 : 0 ≤ x) (h1 : x ≤ 9223372036854775807) : Sat Try.prog 99 [.v (.int .u64 x)] [] (.v (.int .i64 (hiI x + 1))) [] := by
  refine sat_of_calls (fun w => ?_) rfl rfl
  refine (Go.Proofs.Try.bits_Len x w h0 (by omega)).mono ?_
  rintro e w' ⟨rfl, rfl⟩
  refine ⟨?_, Below.refl _ _⟩
  show Ending.returned (Value.int .i64 _) = .returned (Value.int .i64 (hiI x + 1))
  rw [bitLen_hi h0 h1]
theorem len_sound : Sound Try.prog 99 sLen.ctr := sLen.sound (by kernel_rfl) sLen_enc fun x hc => len_sat x (hc _ (.head _)) (hc _ (.tail _ (.head _)))
/-! ### sort -/
theorem merge_srt (xs : List Int) : (xs.mergeSort fun x y => decide (x ≤ y)) = srtI xs := by
  refine srtI_unique (List.mergeSort_perm _ _) ?_
  have := List.pairwise_mergeSort (le := fun x y : Int => decide (x ≤ y)) (fun a b c h k => by simp at h k ⊢; omega) (fun a b => by simp; omega) xs
  exact this.imp fun h => by simpa using h
theorem sortI_sat (xs : List Int) (h1 : xs.length ≤ 4294967296) :
    Sat Try.prog 71 [.o 0] [(0, .row 3 (.ints .i64 xs))] (.tu []) [(0, .row 3 (.ints .i64 (srtI xs)))] := by
  intro D β w us hargs hhp hD hβ
  simp only [Reps, Rep] at hargs
  obtain ⟨u0, r0, rfl, ⟨L, hL, rfl⟩, rfl⟩ := hargs
  obtain ⟨L', hL', hB, hdis⟩ := hhp.1 0 (SBlk.row 3 (.ints .i64 xs)) (by simp)
  rw [hL] at hL'
  cases hL'
  obtain ⟨hw, hlen, hB⟩ := hB
  simp only [Dat.wd, Dat.len] at hw hlen hB
  have hgiven : ∀ g, Given β [(0, SBlk.row 3 (.ints .i64 xs))] g ↔ L.nil = false ∧ g = L.g := by
    intro g
    constructor
    · rintro ⟨l, b, L2, h1, h2, h3, h4⟩
      simp only [List.mem_singleton, Prod.mk.injEq] at h1
      obtain ⟨rfl, rfl⟩ := h1
      rw [hL] at h2
      cases h2
      exact ⟨h3, h4.symm⟩
    · rintro ⟨hn, rfl⟩
      exact ⟨0, SBlk.row 3 (.ints .i64 xs), L, by simp, hL, hn, rfl⟩
  have hsrtlen : (srtI xs).length = xs.length := srtI_len xs
  -- what is left to show, the world behind once told
  have fin : ∀ w' : World, w'.os = w.os → w'.tape = w.tape → w'.output = w.output → w.heap.size ≤ w'.heap.size → (∀ k, k < w.heap.size → ¬ (L.nil = false ∧ k = L.g) → w'.heap[k]? = w.heap[k]?) →
      (Grows D w β D w' β → BlkRep D w' β L (.row 3 (.ints .i64 (srtI xs)))) → ∃ v D' β', Ending.returned (Value.tuple #[]) = .returned v ∧ After D β w [(0, .row 3 (.ints .i64 xs))] (.tu []) [(0, .row 3 (.ints .i64 (srtI xs)))] v D' β' w' := by
    intro w' e1 e2 e3 e4 e5 e6
    have G : Grows D w β D w' β := ⟨fun _ h => h, fun g hgD => e5 g (hD g hgD) (fun ⟨hn, e⟩ => (hdis hn).1 (e ▸ hgD)), fun _ _ h => h⟩
    refine ⟨_, D, β, rfl, ?_⟩
    exact {
      grows := G
      ret := by simp only [Rep, Reps]; exact ⟨[], rfl, rfl⟩
      hps := by
        refine ⟨fun l b hl => ?_, fun l l' b b' L1 L2 hl hl' _ _ _ _ _ => ?_⟩
        · simp only [List.mem_singleton, Prod.mk.injEq] at hl
          obtain ⟨rfl, rfl⟩ := hl
          exact ⟨L, hL, e6 G, fun hn => ⟨(hdis hn).1, Nat.lt_of_lt_of_le (hdis hn).2 e4⟩⟩
        · simp only [List.mem_singleton, Prod.mk.injEq] at hl hl'
          rw [hl.1, hl'.1]
      d := fun g hgD => ⟨.inl hgD, Nat.lt_of_lt_of_le (hD g hgD) e4⟩
      dom := fun l L hL => .inl hL
      own := fun l b L2 hl hL2 hn2 => by
        simp only [List.mem_singleton, Prod.mk.injEq] at hl
        obtain ⟨rfl, rfl⟩ := hl
        rw [hL] at hL2
        cases hL2
        exact .inr ((hgiven _).2 ⟨hn2, rfl⟩)
      os := e1, tape := e2, output := e3, size := e4
      block := fun g hg1 hg2 => e5 g hg1 fun e => hg2 ((hgiven g).2 e) }
  rcases hB with ⟨hni, hz⟩ | ⟨hni, hcap, hmax, cs, ty', fr, hcs, hfr, hcl, hval⟩
  · have hx : xs = [] := List.eq_nil_of_length_eq_zero hz
    subst hx
    have hv : L.val = .slice none 0 0 := by simp [Loc.val, hni]
    have e : [L.val].toArray = #[.slice none 0 0] := by rw [hv]
    rw [e]
    refine Calls.mono (show Calls Try.prog 71 _ _ _ from Go.Proofs.Any.slices_Sort_int_none Go.Proofs.Try.lays189 none 0 w) ?_
    rintro e w' ⟨rfl, rfl⟩
    exact fin w' rfl rfl rfl (Nat.le_refl _) (fun _ _ _ => rfl) (fun _ => ⟨hw, hlen, .inl ⟨hni, rfl⟩⟩)
  obtain ⟨hnD, hlt⟩ := hdis hni
  have hH : Holds (Value.int .i64) w L.g 0 xs.toArray := by
    intro j hj
    have hj' : j < xs.length := by simpa using hj
    obtain ⟨x, hx1, hx2⟩ := hval j 0 hj' (by simp [Dat.wd])
    simp only [Dat.wd, Nat.mul_one, Nat.add_zero, Dat.ok] at hx1 hx2
    subst hx2
    have e : xs.toArray[j]! = xs.getD j 0 := by
      rw [getElem!_pos xs.toArray j hj]
      simp [List.getD_eq_getElem?_getD, List.getElem?_eq_getElem hj']
    rw [e, Nat.zero_add]
    refine ⟨?_, ?_⟩
    · simp [World.cell?, hcs, hx1]
    · simp only [World.frozen?, hcs]
      exact hfr _ (by have := (List.getElem?_eq_some_iff.1 hx1).1; omega)
  have hval2 : L.val = .slice (some ⟨L.g, 0, none⟩) xs.length L.cap := by
    unfold Loc.val
    rw [hni, hlen]
    rfl
  have key := Go.Proofs.Try.slices_Sort_int L.g 0 L.cap xs w hH hlt (by omega)
  have e : [L.val].toArray = #[.slice (some ⟨L.g, 0, none⟩) xs.length L.cap] := by rw [hval2]
  rw [e]
  refine Calls.mono (show Calls Try.prog 71 _ _ _ from key) ?_
  rintro e w' ⟨rfl, n, os, rfl⟩
  rw [merge_srt]
  have hgr := grownBy_sortedI (w := w) (g := L.g) (n := n) (os := os) (srtI xs).toArray
  refine fin _ rfl rfl rfl hgr.size (fun k hk hne => hgr.block k hk (fun e => by
    simp only [Option.some.injEq] at e
    exact hne ⟨hni, e⟩)) (fun G => ⟨hw, by simp only [Dat.len]; omega, .inr ⟨hni, by simp only [Dat.len]; omega, hmax, (putCells (Value.int .i64) 0 (srtI xs).toArray cs.toArray).toList, ty', fr, by simpa using heap_sortedI (srtI xs).toArray hcs, by simpa [putCells] using hfr, ?_, ?_⟩⟩)
  · simp only [putCells, Array.length_toList, Array.size_mapIdx, List.size_toArray, Dat.wd]
    exact hcl
  · intro i j hi hj
    simp only [Dat.len, Dat.wd] at hi hj hcl
    have j0 : j = 0 := by omega
    subst j0
    refine ⟨.int .i64 ((srtI xs).getD i 0), ?_, rfl⟩
    have hlt2 : i < cs.length := by omega
    simp only [Dat.wd, Nat.mul_one, Nat.add_zero, putCells, Array.getElem?_toList, Array.getElem?_mapIdx, List.getElem?_toArray, List.getElem?_eq_getElem hlt2, Option.map_some, Nat.zero_add, Nat.sub_zero, List.size_toArray]
    rw [if_pos ⟨Nat.zero_le _, by omega⟩, getElem!_pos (srtI xs).toArray i (by simpa using hi)]
    simp [List.getD_eq_getElem?_getD, List.getElem?_eq_getElem hi]
theorem sortI_sound : Sound Try.prog 71 sSortI.ctr := sSortI.sound (by kernel_rfl) sSortI_enc fun xs hc => sortI_sat xs (hc _ (.head _))
end Go.Proofs.Ytbdgknebimdjoaa
/-
  Chapter 11: the conditions hold. Conditions: each theorem's own.
-/
namespace Go.Proofs.Ytbdgknebimdjoaa
open Go Go.RowKit
set_option linter.unusedVariables false
set_option linter.unusedSimpArgs false
set_option maxRecDepth 100000
/-! ### small -/
theorem gt_nat {n : Nat} (h : (256 : Int) < (n : Int)) : 256 < n := by omega
theorem ne0 {a : Int} (h : (a != (0 : Int)) = true) : (a == 0) = false := by
  cases hb : a == 0
  · rfl
  · have : a = 0 := by simpa using hb
    subst this
    cases h
theorem eq0 {a : Int} (h : (a != (0 : Int)) = false) : a = 0 := by simpa using h
theorem beq0 {a : Int} (h : a = 0) : (a == 0) = true := by rw [h]; rfl
theorem takeAll {α : Type} (l : List α) : List.take (Int.toNat (l.length : Int) - Int.toNat (0 : Int)) (List.drop (Int.toNat (0 : Int)) l) = l := by simp
theorem enc_bad {g : Int} {l : List Int} (h : (dchk g l != (0 : Int)) = true) : encG g l = 0 ∧ encL g l = [] := by
  have : okE g l = false := ne0 h
  unfold encG encL
  rw [this]
  exact ⟨rfl, rfl⟩
theorem enc_good {g : Int} {l : List Int} (h : dchk g l = 0) : encG g l = g ∧ encL g l = statesL l.length (spr g l) := by
  have : okE g l = true := beq0 h
  unfold encG encL
  rw [this]
  exact ⟨rfl, rfl⟩
theorem cellsP_le (sp : List Int) (s : Int) (i : Nat) : (cellsP sp s i).length ≤ sp.length := by
  unfold cellsP
  rw [cellsF_len]
  refine Nat.le_trans List.count_le_length ?_
  rw [List.length_take]
  exact Nat.min_le_right _ _
/-! ### the reference's cells -/
theorem celE0 {g : Int} {l : List Int} {s : Int} (h : celE g l s = 0) : dchk g l = 0 ∧ 0 ≤ s ∧ s < l.length ∧ l.getD s.toNat 0 ≠ 0 := by
  unfold celE at h
  cases h1 : okE g l
  · rw [h1, cond_false] at h
    unfold okE at h1
    rw [h] at h1
    cases h1
  · rw [h1, cond_true] at h
    cases h2 : decide (s < 0) || decide ((l.length : Int) ≤ s)
    · rw [h2, cond_false] at h
      simp only [Bool.or_eq_false_iff, decide_eq_false_iff_not] at h2
      cases h3 : l.getD s.toNat 0 == 0
      · exact ⟨by unfold okE at h1; simpa using h1, by omega, by omega, by simpa using h3⟩
      · rw [h3] at h; cases h
    · rw [h2] at h; cases h
theorem celO0 {g : Int} {l : List Int} {s : Int} (h : (celE g l s != (0 : Int)) = true) : celO g l s = [] := by unfold celO; rw [ne0 h]; rfl
theorem celO1 {g : Int} {l : List Int} {s : Int} (h : celE g l s = 0) : celO g l s = cellsL (spr g l) s := by unfold celO; rw [beq0 h]; rfl
theorem cel_bad {g : Int} {l : List Int} {s : Int} (h : dchk g l ≠ 0) : celE g l s = dchk g l := by
  have : okE g l = false := by unfold okE; simpa using h
  unfold celE
  rw [this]; rfl
theorem cel_out {g : Int} {l : List Int} {s : Int} (h : dchk g l = 0) (h2 : s < 0 ∨ (l.length : Int) ≤ s) : celE g l s = 2 := by
  have : okE g l = true := beq0 h
  unfold celE
  rw [this, cond_true]
  have : (decide (s < 0) || decide ((l.length : Int) ≤ s)) = true := by simpa using h2
  rw [this]; rfl
theorem cel_in {g : Int} {l : List Int} {s : Int} (h : dchk g l = 0) (h1 : 0 ≤ s) (h2 : s < l.length) : celE g l s = cond (l.getD s.toNat 0 == 0) 7 0 := by
  have : okE g l = true := beq0 h
  unfold celE
  rw [this, cond_true, decide_eq_false (by omega), decide_eq_false (by omega)]
  rfl
theorem rcelE_v (g : Int) (l : List Int) (s : Int) (h0 : l.length ≤ 4294967296) : rcelE_t g l s := by
  unfold rcelE_t
  refine ⟨h0, fun hd => ⟨fun hs => ⟨⟨fun h => (by cases h), fun _ => ⟨(), trivial, rfl, rfl, (cel_out (by simpa using hd) (.inl (by simpa using hs))).symm⟩⟩, ?_⟩, fun hs => ⟨fun hs2 => ⟨⟨fun h => (by cases h), fun _ => ⟨(), trivial, rfl, rfl, (cel_out (by simpa using hd) (.inr (by simpa using hs2))).symm⟩⟩, ?_⟩, fun hs2 => ⟨⟨fun _ => ?_, fun h => (by rw [hd] at h; cases h)⟩, ?_⟩⟩⟩, fun hd => ⟨⟨fun h => (by rw [hd] at h; cases h), fun _ => ⟨(), trivial, rfl, rfl, (cel_bad (by simpa using hd)).symm⟩⟩, ?_⟩⟩
  case refine_3 =>
    have hs : ¬ s < 0 := by simpa using hs
    have hs2 : ¬ s ≥ (l.length : Int) := by simpa using hs2
    have e := cel_in (g := g) (l := l) (s := s) (by simpa using hd) (by omega) (by omega)
    exact ⟨by omega, by omega, fun h => ⟨(), trivial, rfl, rfl, by rw [e, h]; rfl⟩, fun h => ⟨(), trivial, rfl, rfl, by rw [e, h]; simpa using hd⟩⟩
  all_goals
    intro _ _
    refine ⟨fun hb => ⟨by rw [celO0 hb]; rfl, rfl⟩, fun hb => ?_⟩
    have hc := eq0 hb
    have hdk := (celE0 hc).1
    have hdd := dchk0 hdk
    have hsz := szN_bd hdd.g5 hdd.g12
    have hspr : (sprO g l).length = szN g := by rw [sprO1 hdk, spr_len]
    refine ⟨⟨0, ⟨Nat.zero_le _, hc⟩, rfl, rfl, rfl, rfl⟩, fun i hi => ⟨fun hlt => ⟨by omega, by simpa using hlt, fun he => ?_, fun he => ?_⟩, fun hge => ?_⟩⟩
    · have hlt : i < (sprO g l).length := by simpa using hlt
      have hle := cellsP_le (sprO g l) s i
      refine ⟨by omega, i + 1, ⟨by omega, hc⟩, by rw [Nat.sub_eq, Nat.sub_eq]; omega, rfl, rfl, cnt_wrap (by omega), ?_⟩
      rw [cellsP_succ hlt]
      rw [toNat_cast] at he
      rw [he]; rfl
    · have hlt : i < (sprO g l).length := by simpa using hlt
      refine ⟨i + 1, ⟨by omega, hc⟩, by rw [Nat.sub_eq, Nat.sub_eq]; omega, rfl, rfl, cnt_wrap (by omega), ?_⟩
      rw [cellsP_succ hlt]
      rw [toNat_cast] at he
      rw [he]; simp
    · have hge : i = (sprO g l).length := by simp at hge; omega
      subst hge
      exact ⟨by rw [cellsP_all, celO1 hc, sprO1 hdk], hc.symm⟩
/-! ### encode tables -/
theorem encE_v (g : Int) (l : List Int) (h0 : l.length ≤ 4294967296) : encE_t g l := by
  unfold encE_t
  refine ⟨h0, fun h => ⟨(enc_bad h).1.symm, by rw [(enc_bad h).2]; rfl, rfl⟩, fun h => ⟨h0, fun h => ⟨(enc_bad h).1.symm, by rw [(enc_bad h).2]; rfl, rfl⟩, fun _ => ?_⟩⟩
  have h := eq0 h
  have hd := dchk0 h
  have hsz := szN_bd hd.g5 hd.g12
  have hn2 := hd.n2
  have hspr : (sprO g l).length = szN g := by rw [sprO1 h, spr_len]
  refine ⟨by omega, Int.le_refl _, by omega, by omega, ⟨0, ⟨Nat.zero_le _, h⟩, rfl, rfl, by rw [hspr], rfl, rfl, rfl, rfl, by rw [toNat_cast, states_zero]; rfl⟩, fun i hi => ⟨fun hlt => ?_, fun hge => ?_⟩⟩
  · have hlt : i < szN g := by simpa using hlt
    obtain ⟨s, k1, k2, k3⟩ := spr_sym hd hlt
    rw [← sprO1 h] at k3
    simp only [toNat_cast, k3, states_len, states_get k1]
    have etk : ∀ X : List Int, List.take (X.length - Int.toNat (0 : Int)) (List.drop (Int.toNat (0 : Int)) X) = X := fun X => by simp
    simp only [etk]
    have hle := cellsP_le (sprO g l) s i
    refine ⟨by omega, by rw [hspr]; omega, by omega, by omega, by omega, by omega, by omega, Int.le_refl _, (by first | rfl | trivial), by omega, by omega, by omega, by omega, i + 1, ⟨by omega, h⟩, by rw [Nat.sub_eq, Nat.sub_eq]; omega, (by first | rfl | trivial), (by first | rfl | trivial), (by first | rfl | trivial), cnt_wrap (by omega), (by first | rfl | trivial), (by first | rfl | trivial), (by first | rfl | trivial), states_succ (by rw [hspr]; exact hlt) k1 k3⟩
  · have hge : i = szN g := by simp at hge; omega
    subst hge
    refine ⟨(enc_good h).1.symm, ?_, h.symm⟩
    rw [(enc_good h).2, ← hspr, states_all, sprO1 h]
theorem encR_succ (g : Int) (l : List Int) (i : Nat) : encR g l (i + 1) = encR g l i ++ [celO g l (i : Int)] := by
  unfold encR
  rw [List.range_succ, List.map_append]
  rfl
theorem encR_all {g : Int} {l : List Int} (h : dchk g l = 0) : encR g l l.length = encL g l := by
  rw [(enc_good h).2]
  unfold encR statesL
  refine List.map_congr_left fun s hs => ?_
  rw [List.mem_range] at hs
  have e := cel_in (g := g) (l := l) (s := (s : Int)) h (by omega) (by omega)
  rw [toNat_cast] at e
  by_cases h0 : l.getD s 0 = 0
  · rw [beq0 h0] at e
    rw [celO0 (by rw [e]; rfl), cells_zero (dchk0 h) hs h0]
  · have : (l.getD s 0 == 0) = false := by simpa using h0
    rw [this] at e
    exact celO1 e
theorem rencE_v (g : Int) (l : List Int) (h0 : l.length ≤ 4294967296) : rencE_t g l := by
  unfold rencE_t
  refine ⟨h0, fun h => ⟨(enc_bad h).1.symm, by rw [(enc_bad h).2]; rfl, rfl⟩, fun h => ?_⟩
  have h := eq0 h
  have hd := dchk0 h
  have hn2 := hd.n2
  refine ⟨⟨0, ⟨Nat.zero_le _, h⟩, rfl, rfl, rfl, rfl, rfl, rfl, rfl, rfl⟩, fun i hi => ⟨fun hlt => ?_, fun hge => ?_⟩⟩
  · have hlt : i < l.length := by simpa using hlt
    have hel : (encR g l i).length = i := by simp [encR]
    exact ⟨h0, by rw [hel]; omega, i + 1, ⟨by omega, h⟩, by rw [Nat.sub_eq, Nat.sub_eq]; omega, rfl, cnt_wrap (by omega), rfl, rfl, rfl, rfl, rfl, (encR_succ g l i).symm⟩
  · have hge : i = l.length := by simp at hge; omega
    subst hge
    exact ⟨(enc_good h).1.symm, encR_all h, h.symm⟩
theorem one_bad {s : Int} (h : s < 0 ∨ 255 < s) : oneL s = [] ∧ oneE s = 2 := by
  have : badS s = true := by unfold badS; simpa using h
  unfold oneL oneE
  rw [this]
  exact ⟨rfl, rfl⟩
theorem one_good {s : Int} (h1 : 0 ≤ s) (h2 : s ≤ 255) : oneL s = (List.replicate (s + 1).toNat []).set s.toNat [0] ∧ oneE s = 0 := by
  have : badS s = false := by unfold badS; simp; omega
  unfold oneL oneE
  rw [this]
  exact ⟨rfl, rfl⟩
theorem oneE1_v (s : Int) : oneE1_t s := by
  unfold oneE1_t
  refine ⟨fun h => ?_, fun h => ⟨fun h2 => ?_, fun h2 => ?_⟩⟩
  · obtain ⟨e1, e2⟩ := one_bad (s := s) (.inl (by simpa using h))
    exact ⟨rfl, by rw [e1]; rfl, e2.symm⟩
  · obtain ⟨e1, e2⟩ := one_bad (s := s) (.inr (by simpa using h2))
    exact ⟨rfl, by rw [e1]; rfl, e2.symm⟩
  · have h : ¬ s < 0 := by simpa using h
    have h2 : ¬ s > 255 := by simpa using h2
    obtain ⟨e1, e2⟩ := one_good (s := s) (by omega) (by omega)
    rw [wr (n := s + 1) (by omega) (by omega), List.length_replicate]
    exact ⟨by omega, Int.le_refl _, by omega, by omega, by omega, by omega, by omega, rfl, e1.symm, e2.symm⟩
theorem roneE1_v (s : Int) : roneE1_t s := by
  unfold roneE1_t
  refine ⟨fun h => ?_, fun h => ⟨fun h2 => ?_, fun h2 => ?_⟩⟩
  · obtain ⟨e1, e2⟩ := one_bad (s := s) (.inl (by simpa using h))
    exact ⟨rfl, by rw [e1]; rfl, e2.symm⟩
  · have h2 : s ≥ 256 := by simpa using h2
    obtain ⟨e1, e2⟩ := one_bad (s := s) (.inr (by omega))
    exact ⟨rfl, by rw [e1]; rfl, e2.symm⟩
  · have h : ¬ s < 0 := by simpa using h
    have h2 : ¬ s ≥ 256 := by simpa using h2
    obtain ⟨e1, e2⟩ := one_good (s := s) (by omega) (by omega)
    rw [wr (n := s + 1) (by omega) (by omega), List.length_replicate]
    exact ⟨by omega, Int.le_refl _, by omega, by omega, by omega, by omega, by omega, rfl, e1.symm, e2.symm⟩
theorem sameE_v (a : Int) (x : List (List Int)) (b : Int) (y : List (List Int)) (h0 : x.length ≤ 4294967296) (h1 : x.flatten.length ≤ 4294967296) : sameE_t a x b y := by
  unfold sameE_t
  refine ⟨fun h => ?_, fun h => ⟨fun h2 => ?_, fun h2 => ?_⟩⟩
  · have : (a == b) = false := by
      cases hb : a == b
      · rfl
      · have : a = b := by simpa using hb
        subst this
        simp at h
    rw [this]; rfl
  · have : sameL x y = false := by
      unfold sameL
      rw [beq_eq_false_iff_ne]
      rintro rfl
      simp at h2
    rw [this, Bool.and_false]
  · have hab : a = b := by simpa using h
    have hxy : x.length = y.length := by have : (x.length : Int) = y.length := by simpa using h2
                                         omega
    refine ⟨⟨0, ⟨Nat.zero_le _, hxy, hab, rfl⟩, rfl, rfl, rfl, rfl, rfl⟩, fun i hi => ⟨fun hlt => ?_, fun hge => ?_⟩⟩
    · have hlt : i < x.length := by simpa using hlt
      rw [toNat_cast]
      have hrow := row_le x i
      refine ⟨by omega, by omega, by omega, by omega, by omega, fun hb => ?_, fun hb => ⟨i + 1, ⟨by omega, hxy, hab, ?_⟩, by rw [Nat.sub_eq, Nat.sub_eq]; omega, cnt_wrap64 (by omega), rfl, rfl, rfl, rfl⟩⟩
      · have : sameL x y = false := by
          unfold sameL
          rw [beq_eq_false_iff_ne]
          rintro rfl
          simp [eqI] at hb
        rw [this, Bool.and_false]
      · have hb : x.getD i [] = y.getD i [] := by simpa [eqI] using hb
        rw [take_succ x [] hlt, take_succ y [] (by omega), hi.2.2.2, hb]
    · have hge : i = x.length := by simp at hge; omega
      subst hge
      have e := hi.2.2.2
      rw [List.take_length, hxy, List.take_length] at e
      subst e
      subst hab
      simp [sameL]
/-! ### in order, copies -/
theorem sortedE_v (l : List Int) (h0 : l.length ≤ 4294967296) : sortedE_t l := by
  unfold sortedE_t
  refine ⟨⟨0, ⟨Nat.zero_le _, fun m h1 h2 => by omega⟩, rfl, by rw [wr (by omega) (by omega)]; simp⟩, fun k hk => ⟨fun hlt => ?_, fun hge => ?_⟩⟩
  · have hlt : (l.length : Int) - 1 - k > 0 := by simpa using hlt
    have e1 : ((l.length : Int) - 1 - k).toNat = l.length - 1 - k := by omega
    have e2 : IntKind.wrap IntKind.i64 ((l.length : Int) - 1 - k - 1) = (l.length : Int) - 1 - k - 1 := wr (by omega) (by omega)
    have e3 : ((l.length : Int) - 1 - k - 1).toNat = l.length - 1 - k - 1 := by omega
    rw [e2, e1, e3]
    refine ⟨by omega, by omega, by omega, by omega, fun h => ?_, fun h => ⟨k + 1, ⟨by omega, fun m h1 h2 => ?_⟩, by rw [Nat.sub_eq, Nat.sub_eq]; omega, rfl, by push_cast; omega⟩⟩
    · have h : l.getD (l.length - 1 - k) 0 < l.getD (l.length - 1 - k - 1) 0 := by simpa using h
      symm
      rw [Bool.eq_false_iff]
      intro hs
      have := sorted_iff.1 hs (l.length - 1 - k - 1) (by omega)
      rw [show l.length - 1 - k - 1 + 1 = l.length - 1 - k by omega] at this
      omega
    · have h : ¬ l.getD (l.length - 1 - k) 0 < l.getD (l.length - 1 - k - 1) 0 := by simpa using h
      rcases Nat.lt_or_ge (m + k) l.length with h3 | h3
      · have : m = l.length - 1 - k := by omega
        subst this
        omega
      · exact hk.2 m h3 h2
  · have hge : ¬ (l.length : Int) - 1 - k > 0 := by simpa using hge
    symm
    rw [sorted_iff]
    intro i hi
    have := hk.2 (i + 1) (by omega) hi
    simpa using this
theorem cutE_v (t : List (List Int)) (h0 : t.length ≤ 65536) (h1 : t.flatten.length ≤ 65536) : cutE_t t := by
  unfold cutE_t
  refine ⟨by omega, Int.le_refl _, by omega, by omega, ⟨0, Nat.zero_le _, rfl, rfl, rfl, by rw [toNat_cast, cutP_zero]; rfl⟩, fun i hi => ⟨fun hlt => ?_, fun hge => ?_⟩⟩
  · have hlt : i < t.length := by simpa using hlt
    rw [nle] at hi
    have hrow := row_le t i
    have e : ∀ X : List Int, List.take (Int.toNat (0 : Int) - Int.toNat (0 : Int)) X = [] := fun X => by simp
    rw [toNat_cast, cutP_len hi, e, List.nil_append]
    exact ⟨by omega, by omega, by omega, by omega, by omega, rfl, by rw [List.length_nil, Nat.zero_add]; omega, by omega, by omega, by omega, i + 1, by rw [nle]; omega, by rw [Nat.sub_eq, Nat.sub_eq]; omega, rfl, rfl, cnt_wrap (by omega), cutP_succ hlt⟩
  · have hge : i = t.length := by rw [nle] at hi; simp at hge; omega
    subst hge
    exact cutP_all t
theorem gatherE_v (t : List (List Int)) (h0 : t.length ≤ 65536) (h1 : t.flatten.length ≤ 65536) : gatherE_t t := by
  unfold gatherE_t
  refine ⟨⟨0, Nat.zero_le _, rfl, rfl, rfl, rfl⟩, fun i hi => ⟨fun hlt => ?_, fun hge => ?_⟩⟩
  · have hlt : i < t.length := by simpa using hlt
    have hrow := row_le t i
    have hf := flatP_le t i
    rw [toNat_cast]
    exact ⟨by omega, by omega, by omega, i + 1, by rw [nle]; omega, by rw [Nat.sub_eq, Nat.sub_eq]; omega, rfl, rfl, cnt_wrap (by omega), (flatP_succ hlt).symm⟩
  · have hge : i = t.length := by rw [nle] at hi; simp at hge; omega
    subst hge
    exact flatP_all t
/-! ### which tables are right -/
theorem wu0 {g : Int} (h1 : 0 ≤ g) (h2 : g ≤ 12) : IntKind.wrap IntKind.u64 g = g := wru (by omega) (by omega)
theorem sz_wrap0 {g : Int} (h1 : 0 ≤ g) (h2 : g ≤ 12) : IntKind.wrap IntKind.i64 ((1 : Int) * (2 : Int) ^ min (Int.toNat g) (IntKind.bits IntKind.i64)) = (szN g : Int) := by
  rw [shl1 (by omega) (by omega), szI]
theorem ebad_of {g : Int} {t : List (List Int)} (h : g < 0 ∨ 12 < g ∨ 256 < t.length) : ebad g t = true := by
  cases hb : ebad g t
  · have := ebad_iff.1 hb; omega
  · rfl
theorem litT_of {g : Int} {t : List (List Int)} (h : litT g t = true) (hb : ebad g t = false) : t.flatten.length ≤ 65536 := by
  unfold litT at h
  rw [hb] at h
  simpa using h
theorem chkE_v (g : Int) (t : List (List Int)) (h0 : t.length ≤ 4294967296) (h1 : litT g t = true) : chkE_t g t := by
  unfold chkE_t
  refine ⟨fun h => (echk_bad (ebad_of (.inl (by simpa using h)))).symm, fun h => ⟨fun h2 => (echk_bad (ebad_of (.inr (.inl (by simpa using h2))))).symm, fun h2 => ⟨fun h3 => (echk_bad (ebad_of (.inr (.inr (gt_nat (by simpa using h3)))))).symm, fun h3 => ?_⟩⟩⟩
  have hg0 : ¬ g < 0 := by simpa using h
  have hg12 : ¬ g > 12 := by simpa using h2
  have hn : ¬ (t.length : Int) > 256 := by simpa using h3
  have hb : ebad g t = false := ebad_iff.2 ⟨by omega, by omega, by omega⟩
  have hf := litT_of h1 hb
  have hsz := sz0 (g := g) (by omega) (by omega)
  have e1 := wu0 (g := g) (by omega) (by omega)
  refine ⟨⟨0, ⟨Nat.zero_le _, hb, rfl⟩, rfl, rfl, rfl, rfl, rfl⟩, fun i hi => ⟨fun hlt => ?_, fun hge => ?_⟩⟩
  · have hlt : i < t.length := by simpa using hlt
    have hrow := row_le t i
    rw [toNat_cast]
    refine ⟨by omega, by omega, by omega, fun hs => ?_, fun hs => ⟨i + 1, ⟨by omega, hb, ?_⟩, by rw [Nat.sub_eq, Nat.sub_eq]; omega, rfl, rfl, cnt_wrap (by omega), rfl, rfl⟩⟩
    · refine (echk_form hb fun hx => ?_).symm
      have := List.all_eq_true.1 hx.1 _ (getD_row hlt)
      rw [this] at hs
      cases hs
    · rw [take_succ t [] hlt, List.all_append, hi.2.2]
      simpa using hs
  · have hge : i = t.length := by simp at hge; omega
    subst hge
    have hall : t.all sorted = true := by have := hi.2.2; rwa [List.take_length] at this
    rw [e1, srtI_len, sz_wrap0 (by omega) (by omega)]
    refine ⟨by omega, by omega, by omega, by omega, by omega, by omega, fun hl => ?_, fun hl => ?_⟩
    · refine (echk_form hb fun hx => ?_).symm
      rw [hx.2.len] at hl
      simp at hl
    · have hlen : t.flatten.length = szN g := by have : (t.flatten.length : Int) = szN g := by simpa using hl
                                                 omega
      refine ⟨⟨0, ⟨Nat.zero_le _, hb, hall, hlen, fun k hk => by omega⟩, by rw [hlen], rfl, rfl⟩, fun j hj => ⟨fun hlt => ?_, fun hge => ?_⟩⟩
      · have hlt : j < szN g := by simpa using hlt
        rw [toNat_cast, hlen]
        refine ⟨by omega, by omega, by omega, fun hne => ?_, fun he => ⟨j + 1, ⟨by omega, hb, hall, by first | rfl | exact hlen, fun k hk => ?_⟩, by rw [Nat.sub_eq, Nat.sub_eq]; omega, rfl, cnt_wrap (by omega), rfl⟩⟩
        · refine (echk_form hb fun hx => ?_).symm
          rw [whole_srt hx.2] at hne
          simp [upL, List.getD_eq_getElem?_getD, List.getElem?_range hlt] at hne
        · rcases Nat.lt_or_ge k j with h5 | h5
          · exact hj.2.2.2.2 k h5
          · have : k = j := by omega
            subst this
            have he : (k : Int) = (srtI t.flatten).getD k 0 := by simpa using he
            exact he.symm
      · have hge : j = szN g := by simp at hge; omega
        subst hge
        refine (echk_good hb hall (srt_whole ?_)).symm
        apply List.ext_getElem?
        intro k
        by_cases hk : k < szN g
        · have := hj.2.2.2.2 k hk
          rw [List.getD_eq_getElem?_getD, List.getElem?_eq_getElem (by rw [srtI_len, hlen]; exact hk)] at this
          rw [List.getElem?_eq_getElem (by rw [srtI_len, hlen]; exact hk)]
          simp only [Option.getD_some] at this
          rw [this]
          simp [upL, List.getElem?_range hk]
        · rw [List.getElem?_eq_none (by rw [srtI_len]; omega), List.getElem?_eq_none (by simp [upL]; omega)]
theorem ChkOk.zero (g : Int) (t : List (List Int)) : ChkOk g t 0 0 := ⟨fun c hc => by simp [preF, flatP] at hc, by simp [preF, flatP], fun k hk => by omega, by simp [sorted]⟩
theorem sorted_snoc {l : List Int} {c : Int} (h : sorted l = true) (hc : ∀ k, l.length = k + 1 → l.getD k 0 ≤ c) : sorted (l ++ [c]) = true := by
  rw [sorted_iff] at h ⊢
  intro i hi
  simp only [List.length_append, List.length_singleton] at hi
  by_cases h1 : i + 1 < l.length
  · have := h i h1
    simp only [List.getD_eq_getElem?_getD] at this ⊢
    rw [List.getElem?_append_left (by omega), List.getElem?_append_left h1]
    exact this
  · have e : l.length = i + 1 := by omega
    have := hc i e
    simp only [List.getD_eq_getElem?_getD] at this ⊢
    rw [List.getElem?_append_left (by omega), List.getElem?_append_right (by omega)]
    simpa [e] using this
theorem ChkOk.succ {g : Int} {t : List (List Int)} {s i : Nat} (h : ChkOk g t s i) (hi : i < (t.getD s []).length) (h0 : 0 ≤ (t.getD s []).getD i 0) (h1 : (t.getD s []).getD i 0 < (szN g : Int)) (hm : (t.getD s []).getD i 0 ∉ preF t s i)
    (hle : ∀ k, i = k + 1 → (t.getD s []).getD k 0 ≤ (t.getD s []).getD i 0) : ChkOk g t s (i + 1) := by
  refine ⟨fun c hc => ?_, ?_, h.srt, ?_⟩
  · rw [preF_succ hi, List.mem_append, List.mem_singleton] at hc
    rcases hc with hc | rfl
    · exact h.rng c hc
    · exact ⟨h0, h1⟩
  · rw [preF_succ hi, List.nodup_append]
    refine ⟨h.nodup, by simp, fun a ha b hb => ?_⟩
    simp only [List.mem_singleton] at hb
    rintro rfl
    exact hm (hb ▸ ha)
  · rw [take_succ (t.getD s []) 0 hi]
    refine sorted_snoc h.cur fun k hk => ?_
    rw [List.length_take] at hk
    have := hle k (by omega)
    simp only [List.getD_eq_getElem?_getD] at this ⊢
    rw [List.getElem?_take, if_pos (by omega)]
    exact this
theorem ChkOk.next {g : Int} {t : List (List Int)} {s : Nat} (hs : s < t.length) (h : ChkOk g t s (t.getD s []).length) : ChkOk g t (s + 1) 0 := by
  have e := preF_all hs
  refine ⟨by rw [← e]; exact h.rng, by rw [← e]; exact h.nodup, fun k hk => ?_, by simp [sorted]⟩
  rcases Nat.lt_or_ge k s with h1 | h1
  · exact h.srt k h1
  · have : k = s := by omega
    subst this
    have := h.cur
    rwa [List.take_length] at this
/-- what is wrong stays wrong -/
theorem wrong {g : Int} {t : List (List Int)} {s i : Nat} (hb : ebad g t = false) (hs : s < t.length) (hi : i < (t.getD s []).length)
    (h : (t.getD s []).getD i 0 < 0 ∨ (szN g : Int) ≤ (t.getD s []).getD i 0 ∨ (t.getD s []).getD i 0 ∈ preF t s i ∨ ∃ k, i = k + 1 ∧ (t.getD s []).getD i 0 ≤ (t.getD s []).getD k 0) : echk g t = 3 := by
  refine echk_form hb fun ⟨ha, hw⟩ => ?_
  obtain ⟨r, hr⟩ := flat_pre (s := s) (i := i + 1) hs
  rw [preF_succ hi] at hr
  have hin : (t.getD s []).getD i 0 ∈ t.flatten := by rw [hr]; simp
  have hrng := hw.rng _ hin
  have hnd := hw.nodup
  rw [hr] at hnd
  have hnd2 := (List.nodup_append.1 hnd).1
  have hnm : (t.getD s []).getD i 0 ∉ preF t s i := fun hm => (List.nodup_append.1 hnd2).2.2 _ hm _ (by simp) rfl
  rcases h with h | h | h | ⟨k, rfl, h⟩
  · omega
  · omega
  · exact hnm h
  · have hsr := sorted_iff.1 (List.all_eq_true.1 ha _ (getD_row hs)) k hi
    have e : (t.getD s []).getD (k + 1) 0 = (t.getD s []).getD k 0 := by omega
    refine hnm ?_
    rw [e]
    unfold preF
    rw [List.mem_append]
    right
    rw [take_succ (t.getD s []) 0 (show k < _ by omega)]
    simp
theorem rchkE_v (g : Int) (t : List (List Int)) (h0 : t.length ≤ 4294967296) (h1 : litT g t = true) : rchkE_t g t := by
  unfold rchkE_t
  refine ⟨fun h => (echk_bad (ebad_of (.inl (by simpa using h)))).symm, fun h => ⟨fun h2 => (echk_bad (ebad_of (.inr (.inl (by simpa using h2))))).symm, fun h2 => ⟨fun h3 => (echk_bad (ebad_of (.inr (.inr (gt_nat (by simpa using h3)))))).symm, fun h3 => ?_⟩⟩⟩
  have hg0 : ¬ g < 0 := by simpa using h
  have hg12 : ¬ g > 12 := by simpa using h2
  have hn : ¬ (t.length : Int) > 256 := by simpa using h3
  have hb : ebad g t = false := ebad_iff.2 ⟨by omega, by omega, by omega⟩
  have hf := litT_of h1 hb
  have hsz := sz0 (g := g) (by omega) (by omega)
  have e1 := wu0 (g := g) (by omega) (by omega)
  simp only [e1, sz_wrap0 (show 0 ≤ g by omega) (show g ≤ 12 by omega)]
  refine ⟨by omega, by omega, Int.le_refl _, by omega, by omega, ⟨0, ⟨Nat.zero_le _, hb, ChkOk.zero g t⟩, (by first | rfl | trivial), by simp [preF, flatP], (by first | rfl | trivial), (by first | rfl | trivial), (by first | rfl | trivial), by rw [toNat_cast]; rfl⟩, fun s hs => ⟨fun hlt => ?_, fun hge => ?_⟩⟩
  · have hlt : s < t.length := by simpa using hlt
    refine ⟨s, ⟨0, ⟨hlt, Nat.zero_le _, hb, hs.2.2⟩, (by first | rfl | trivial), (by first | rfl | trivial), (by first | rfl | trivial), (by first | rfl | trivial), (by first | rfl | trivial), (by first | rfl | trivial), (by first | rfl | trivial)⟩, fun i hi => ?_⟩
    obtain ⟨_, hi1, _, hok⟩ := hi
    have hrow := row_le t s
    have hpl := preF_le (i := i) hlt
    simp only [toNat_cast]
    refine ⟨by omega, by omega, fun hil => ?_, fun hil => ?_⟩
    · have hil : i < (t.getD s []).length := by simpa using hil
      generalize hc : (t.getD s []).getD i 0 = c
      refine ⟨by omega, by omega, by omega, by omega, fun hx => (wrong hb hlt hil (.inl (by rw [hc]; simpa using hx))).symm, fun hx => ⟨fun hy => (wrong hb hlt hil (.inr (.inl (by rw [hc]; simpa using hy)))).symm, fun hy => ?_⟩⟩
      have hx : ¬ c < 0 := by simpa using hx
      have hy : ¬ c ≥ (szN g : Int) := by simpa using hy
      have hseen := seen_get (g := g) (preF t s i) hok.rng c (by omega) (by omega)
      rw [seen_len]
      refine ⟨by omega, by omega, by omega, fun hz => (wrong hb hlt hil (.inr (.inr (.inl (by rw [hc]; exact hseen.1 hz))))).symm, fun hz => ?_⟩
      have hnm : c ∉ preF t s i := fun hm => by rw [hseen.2 hm] at hz; cases hz
      have step : (∀ k, i = k + 1 → (t.getD s []).getD k 0 ≤ (t.getD s []).getD i 0) → ∃ y : Nat, (s < t.length ∧ y ≤ (t.getD s []).length ∧ ebad g t = false ∧ ChkOk g t s y) ∧ Nat.sub (t.getD s []).length y < Nat.sub (t.getD s []).length i ∧
          IntKind.wrap IntKind.i64 ((↑(List.length (preF t s i)) : Int) + (1 : Int)) = (↑(List.length (preF t s y)) : Int) ∧ IntKind.wrap IntKind.i64 ((↑i : Int) + (1 : Int)) = (↑y : Int) ∧ List.set (seenL g (preF t s i)) (Int.toNat c) true = seenL g (preF t s y) := by
        intro hle
        refine ⟨i + 1, ⟨hlt, by omega, hb, hok.succ hil (by omega) (by omega) (by rw [hc]; exact hnm) hle⟩, by rw [Nat.sub_eq, Nat.sub_eq]; omega, ?_, cnt_wrap (by omega), ?_⟩
        · rw [preF_succ hil, List.length_append, List.length_singleton]
          exact cnt_wrap (by omega)
        · rw [preF_succ hil, hc, seen_snoc]
      refine ⟨fun hp => ?_, fun hp => ?_⟩
      · have hp : (i : Int) > 0 := by simpa using hp
        have ew : IntKind.wrap IntKind.i64 ((i : Int) - 1) = (i : Int) - 1 := wr (by omega) (by omega)
        have ei : ((i : Int) - 1).toNat = i - 1 := by omega
        rw [ew, ei]
        refine ⟨by omega, by omega, by omega, by omega, fun hq => (wrong hb hlt hil (.inr (.inr (.inr ⟨i - 1, by omega, by rw [hc]; simpa using hq⟩)))).symm, fun hq => ?_⟩
        have hq : ¬ c ≤ (t.getD s []).getD (i - 1) 0 := by simpa using hq
        obtain ⟨y, k1, k2, k3, k4, k5⟩ := step (fun k hk => by
          have : k = i - 1 := by omega
          subst this
          omega)
        exact ⟨by omega, by omega, by omega, y, k1, k2, (by first | rfl | trivial), k3, (by first | rfl | trivial), k4, (by first | rfl | trivial), (by first | rfl | trivial), k5⟩
      · have hp : ¬ (i : Int) > 0 := by simpa using hp
        obtain ⟨y, k1, k2, k3, k4, k5⟩ := step (fun k hk => by omega)
        exact ⟨by omega, by omega, by omega, y, k1, k2, (by first | rfl | trivial), k3, (by first | rfl | trivial), k4, (by first | rfl | trivial), (by first | rfl | trivial), k5⟩
    · have hil : i = (t.getD s []).length := by rw [decide_eq_false_iff_not] at hil; omega
      subst hil
      exact ⟨s + 1, ⟨by omega, hb, hok.next hlt⟩, by rw [Nat.sub_eq, Nat.sub_eq]; omega, (by first | rfl | trivial), by rw [preF_all hlt], cnt_wrap (by omega), (by first | rfl | trivial), (by first | rfl | trivial), by rw [preF_all hlt]⟩
  · have hge : s = t.length := by simp at hge; omega
    subst hge
    have e : preF t t.length 0 = t.flatten := by rw [preF_zero, flatP_all]
    have hok := hs.2.2
    have hall : t.all sorted = true := by
      rw [List.all_eq_true]
      intro x hx
      obtain ⟨k, hk, rfl⟩ := List.mem_iff_getElem.1 hx
      have := hok.srt k hk
      rwa [List.getD_eq_getElem?_getD, List.getElem?_eq_getElem hk] at this
    rw [e]
    refine ⟨fun hl => ?_, fun hl => ?_⟩
    · refine (echk_form hb fun hx => ?_).symm
      rw [hx.2.len] at hl
      simp at hl
    · have hlen : t.flatten.length = szN g := by have : (t.flatten.length : Int) = szN g := by simpa using hl
                                                 omega
      exact (echk_good hb hall ⟨by rw [← e]; exact hok.nodup, by rw [← e]; exact hok.rng, hlen⟩).symm
end Go.Proofs.Ytbdgknebimdjoaa
/-
  Chapter 11: the conditions of steps hold. Conditions: each theorem's own.
-/
namespace Go.Proofs.Ytbdgknebimdjoaa
open Go Go.RowKit
set_option linter.unusedVariables false
set_option linter.unusedSimpArgs false
set_option maxRecDepth 100000
theorem and_pow64 (a n : Nat) (ha : a ≤ 100000) (hn : n ≤ 20) : bits .and .i64 (a : Int) ((2 : Int) ^ n - 1) = ((a % 2 ^ n : Nat) : Int) := by
  have hx : ∀ a : Nat, a ≤ 4294967295 → (BitVec.ofInt 64 (a : Int)).toNat = a := fun a ha => by
    rw [BitVec.ofInt_natCast, BitVec.toNat_ofNat]; exact Nat.mod_eq_of_lt (by omega)
  have h1 := Nat.two_pow_pos n
  have h2 := Nat.pow_le_pow_right (show 0 < 2 by omega) hn
  have e : (2 : Int) ^ n - 1 = ((2 ^ n - 1 : Nat) : Int) := by rw [pow_cast]; omega
  rw [e]
  show IntKind.i64.wrap ((BitVec.ofInt 64 (a : Int) &&& BitVec.ofInt 64 ((2 ^ n - 1 : Nat) : Int)).toNat : Int) = _
  rw [BitVec.toNat_and, hx a (by omega), hx _ (by omega), Nat.and_two_pow_sub_one_eq_mod, IntKind.wrap_i64]
  have h3 : a % 2 ^ n ≤ a := Nat.mod_le _ _
  omega
theorem and_powu (a n : Nat) (ha : a ≤ 100000) (hn : n ≤ 20) : bits .and .u64 (a : Int) ((2 : Int) ^ n - 1) = ((a % 2 ^ n : Nat) : Int) := by
  have hx : ∀ a : Nat, a ≤ 4294967295 → (BitVec.ofInt 64 (a : Int)).toNat = a := fun a ha => by
    rw [BitVec.ofInt_natCast, BitVec.toNat_ofNat]; exact Nat.mod_eq_of_lt (by omega)
  have h1 := Nat.two_pow_pos n
  have h2 := Nat.pow_le_pow_right (show 0 < 2 by omega) hn
  have e : (2 : Int) ^ n - 1 = ((2 ^ n - 1 : Nat) : Int) := by rw [pow_cast]; omega
  rw [e]
  show IntKind.u64.wrap ((BitVec.ofInt 64 (a : Int) &&& BitVec.ofInt 64 ((2 ^ n - 1 : Nat) : Int)).toNat : Int) = _
  rw [BitVec.toNat_and, hx a (by omega), hx _ (by omega), Nat.and_two_pow_sub_one_eq_mod, IntKind.wrap_u64]
  have h3 : a % 2 ^ n ≤ a := Nat.mod_le _ _
  omega
/-- the numbers of a step -/
structure StpN (g : Int) (t : List (List Int)) (x s : Int) : Prop where
  p1 : 1 ≤ ((celT t s).length : Int)
  X1 : (szN g : Int) ≤ putX g x
  X2 : putX g x < 2 * (szN g : Int)
  sz : (szN g : Int) ≤ 4096
  nb : NbOk (putX g x) (celT t s).length
  h0 : 0 ≤ hiI (celT t s).length
  hX : hiI (putX g x) ≤ 13
theorem log2_le {n k : Nat} (h : n < 2 ^ (k + 1)) (h0 : n ≠ 0) : Nat.log2 n ≤ k := by
  have := (Nat.log2_lt h0 (k := k + 1)).2 h
  omega
theorem stpN {g : Int} {t : List (List Int)} {x s : Int} (h0 : 0 ≤ g) (h1 : g ≤ 12) (hx0 : 0 ≤ x) (hx1 : x < (szN g : Int)) (hn : noC t s = false) (hl : (celT t s).length ≤ szN g) : StpN g t x s := by
  have hsz := sz0 h0 h1
  have hp : 1 ≤ ((celT t s).length : Int) := by
    rcases Nat.eq_zero_or_pos (celT t s).length with h | h
    · rw [noC_iff.2 h] at hn; cases hn
    · omega
  have hX : putX g x = x + (szN g : Int) := rfl
  refine ⟨hp, by omega, by omega, by omega, nb_ok hp (by omega), ?_, ?_⟩
  · rw [hiI_pos (by omega)]; omega
  · rw [hiI_pos (by omega)]
    have := log2_le (n := (putX g x).toNat) (k := 13) (by omega) (by omega)
    omega
theorem celsE_v (g : Int) (t : List (List Int)) (s : Int) : celsE_t g t s := by
  unfold celsE_t
  refine ⟨fun h => ?_, fun h => ⟨fun h2 => ?_, fun h2 => ?_⟩⟩
  · rw [celT_out (.inl (by simpa using h))]; rfl
  · rw [celT_out (.inr (by simpa using h2))]; rfl
  · have h : ¬ s < 0 := by simpa using h
    have h2 : ¬ s ≥ (t.length : Int) := by simpa using h2
    exact ⟨by omega, by omega, (celT_in (by omega) (by omega)).symm⟩
theorem celM_out {t : List (List Int)} {s : Int} (h : (celT t s).length = 0) : celM t s = 7 := by unfold celM; rw [noC_iff.2 h]; rfl
theorem celM_in {t : List (List Int)} {s : Int} (h : (celT t s).length ≠ 0) : celM t s = 0 := by
  have : noC t s = false := by
    cases hb : noC t s
    · rfl
    · exact absurd (noC_iff.1 hb) h
  unfold celM; rw [this]; rfl
theorem rcelsE_v (g : Int) (t : List (List Int)) (s : Int) : rcelsE_t g t s := by
  unfold rcelsE_t
  refine ⟨fun h => ?_, fun h => ⟨fun h2 => ?_, fun h2 => ?_⟩⟩
  · have e := celT_out (t := t) (s := s) (.inl (by simpa using h))
    exact ⟨by rw [e]; rfl, (celM_out (by rw [e]; rfl)).symm⟩
  · have e := celT_out (t := t) (s := s) (.inr (by simpa using h2))
    exact ⟨by rw [e]; rfl, (celM_out (by rw [e]; rfl)).symm⟩
  · have h : ¬ s < 0 := by simpa using h
    have h2 : ¬ s ≥ (t.length : Int) := by simpa using h2
    have e := celT_in (t := t) (s := s) (by omega) (by omega)
    rw [← e]
    refine ⟨by omega, by omega, fun h3 => ?_, fun h3 => ⟨by omega, by omega, rfl, ?_⟩⟩
    · have h3 : (celT t s).length = 0 := by have : ((celT t s).length : Int) = 0 := by simpa using h3
                                            omega
      exact ⟨h3, (celM_out h3).symm⟩
    · have h3 : ¬ (celT t s).length = 0 := by
        intro h4
        rw [h4] at h3
        cases h3
      exact (celM_in h3).symm
theorem pow_n {n : Int} (h0 : 0 ≤ n) (h1 : n ≤ 13) : (2 : Int) ^ n.toNat ≤ 8192 := by
  have := pow_mono (show n.toNat ≤ 13 by omega)
  simpa using this
theorem putE_v (g : Int) (t : List (List Int)) (x s : Int) (h0 : 0 ≤ g) (h1 : g ≤ 12) (ht : t.length ≤ 4294967296) (hx0 : 0 ≤ x) (hx1 : x < (szN g : Int)) (hn : noC t s = false) (hl : (celT t s).length ≤ szN g) : putE_t g t x s := by
  have hs := stpN h0 h1 hx0 hx1 hn hl
  obtain ⟨k1, k2, k3, k4, k5, k6, k7⟩ := hs
  have hX : putX g x = x + (szN g : Int) := rfl
  have hn0 := k5.n0
  have hnle := k5.nle
  have hlo := k5.lo
  have hhi := k5.hi
  have hnu := k5.nu
  have e1 : IntKind.wrap IntKind.u64 x = x := wru (by omega) (by omega)
  have e2 : IntKind.wrap IntKind.u64 ((1 : Int) * (2 : Int) ^ min (Int.toNat (IntKind.wrap IntKind.u64 g)) (IntKind.bits IntKind.u64)) = (szN g : Int) := by
    rw [wu0 h0 h1, bu64, Nat.min_eq_left (by omega), Int.one_mul, ← szI]
    exact wru (by omega) (by omega)
  have e3 : IntKind.wrap IntKind.u64 ((celT t s).length : Int) = ((celT t s).length : Int) := wru (by omega) (by omega)
  have e4 : IntKind.wrap IntKind.u64 (x + (szN g : Int)) = putX g x := by rw [← hX]; exact wru (by omega) (by omega)
  have e5 : IntKind.wrap IntKind.i64 (hiI (putX g x) + 1 - (hiI ((celT t s).length : Int) + 1)) = hiI (putX g x) - hiI ((celT t s).length : Int) := by
    rw [wr (by omega) (by omega)]; omega
  have e6 : IntKind.wrap IntKind.u64 (hiI (putX g x) - hiI ((celT t s).length : Int)) = hiI (putX g x) - hiI ((celT t s).length : Int) := wru (by omega) (by omega)
  have en : IntKind.wrap IntKind.u64 (putN g t x s) = putN g t x s := wru (by unfold putN; omega) (by unfold putN; omega)
  have em : ∀ n : Int, 0 ≤ n → n ≤ 13 → min n.toNat (IntKind.bits IntKind.u64) = n.toNat := fun n _ _ => by rw [bu64]; omega
  have ed : ∀ n : Int, 0 ≤ n → n ≤ 13 → Int.fdiv (putX g x) ((2 : Int) ^ n.toNat) = putX g x / 2 ^ n.toNat := fun n _ _ => fdivp (by have := pow_pos' n.toNat; omega)
  have hpn : putN g t x s = nbI (putX g x) ((celT t s).length : Int) := rfl
  unfold putE_t
  simp only [e2]
  simp only [e1, e3, e4, e5, e6, en, wu0 h0 h1]
  rw [em _ (by omega) (by omega), ed _ (by omega) (by omega), em (putN g t x s) (by omega) (by omega), ed (putN g t x s) (by omega) (by omega)]
  have hpow := pow_n (n := putN g t x s) (by omega) (by omega)
  have hpp := pow_pos' (putN g t x s).toNat
  have e7 : IntKind.wrap IntKind.u64 ((1 : Int) * (2 : Int) ^ (putN g t x s).toNat) = 2 ^ (putN g t x s).toNat := by rw [Int.one_mul]; exact wru (by omega) (by omega)
  have e8 : IntKind.wrap IntKind.u64 ((2 : Int) ^ (putN g t x s).toNat - 1) = 2 ^ (putN g t x s).toNat - 1 := wru (by omega) (by omega)
  have e9 : IntKind.wrap IntKind.u64 (putX g x / 2 ^ (putN g t x s).toNat - ((celT t s).length : Int)) = putX g x / 2 ^ (putN g t x s).toNat - ((celT t s).length : Int) := wru (by rw [hpn]; omega) (by rw [hpn]; omega)
  have e10 : IntKind.wrap IntKind.i64 (putX g x / 2 ^ (putN g t x s).toNat - ((celT t s).length : Int)) = putX g x / 2 ^ (putN g t x s).toNat - ((celT t s).length : Int) := wr (by rw [hpn]; omega) (by rw [hpn]; omega)
  have e11 : IntKind.wrap IntKind.i64 (bits BinOp.and IntKind.u64 (putX g x) ((2 : Int) ^ (putN g t x s).toNat - 1)) = putV g t x s := by
    obtain ⟨a, ha⟩ := Int.eq_ofNat_of_zero_le (show 0 ≤ putX g x by omega)
    rw [ha, and_powu a _ (by omega) (by omega), wr (by omega) (by have := Nat.mod_le a (2 ^ (putN g t x s).toNat); omega)]
    unfold putV
    rw [ha]
    push_cast
    rfl
  simp only [e7, e8, e9, e10, e11]
  refine ⟨ht, h0, by omega, by omega, by omega, by omega, ?_⟩
  refine ⟨⟨by omega, fun hc => ⟨(), trivial, ?_, (by first | rfl | trivial), (by first | rfl | trivial), (by first | rfl | trivial)⟩, fun hc => ⟨(), trivial, ?_, (by first | rfl | trivial), (by first | rfl | trivial), (by first | rfl | trivial)⟩⟩, fun _ _ => ?_⟩
  · rw [wr (by omega) (by omega)]
    show _ = nbI _ _
    unfold nbI
    rw [hc]; rfl
  · show _ = nbI _ _
    unfold nbI
    rw [hc]; rfl
  · refine ⟨by omega, by rw [hpn]; omega, by rw [hpn]; omega, by omega, rfl, (by first | rfl | trivial), (by first | rfl | trivial)⟩
theorem stE0 {g : Int} {t : List (List Int)} {x s : Int} (h : stE g t x s = 0) : 0 ≤ x ∧ x < (szN g : Int) ∧ noC t s = false := by
  unfold stE at h
  cases h1 : decide (x < 0) || decide ((szN g : Int) ≤ x)
  · rw [h1, cond_false] at h
    simp only [Bool.or_eq_false_iff, decide_eq_false_iff_not] at h1
    refine ⟨by omega, by omega, ?_⟩
    unfold celM at h
    cases h2 : noC t s
    · rfl
    · rw [h2] at h; cases h
  · rw [h1] at h; cases h
theorem stE_out {g : Int} {t : List (List Int)} {x s : Int} (h : x < 0 ∨ (szN g : Int) ≤ x) : stE g t x s = 2 := by
  unfold stE
  have : (decide (x < 0) || decide ((szN g : Int) ≤ x)) = true := by simpa using h
  rw [this]; rfl
theorem stE_in {g : Int} {t : List (List Int)} {x s : Int} (h0 : 0 ≤ x) (h1 : x < (szN g : Int)) : stE g t x s = celM t s := by
  unfold stE
  rw [decide_eq_false (by omega), decide_eq_false (by omega)]
  rfl
theorem st_bad {g : Int} {t : List (List Int)} {x s : Int} (h : stE g t x s ≠ 0) : stS g t x s = 0 ∧ stB g t x s = 0 ∧ stV g t x s = 0 := by
  have : (stE g t x s == 0) = false := by simpa using h
  unfold stS stB stV
  rw [this]
  exact ⟨rfl, rfl, rfl⟩
theorem st_good {g : Int} {t : List (List Int)} {x s : Int} (h : stE g t x s = 0) : stS g t x s = putS g t x s ∧ stB g t x s = putN g t x s ∧ stV g t x s = putV g t x s := by
  unfold stS stB stV
  rw [beq0 h]
  exact ⟨rfl, rfl, rfl⟩
theorem stpE_v (g : Int) (t : List (List Int)) (x s : Int) (h0 : 0 ≤ g) (h1 : g ≤ 12) (ht : t.length ≤ 4294967296) (hl : (celT t s).length ≤ szN g) : stpE_t g t x s := by
  have hsz := sz0 h0 h1
  unfold stpE_t
  simp only [wu0 h0 h1, sz_wrap0 h0 h1]
  refine ⟨h0, fun h => ?_, fun h => ⟨fun h2 => ?_, fun h2 => ⟨ht, fun h3 => ?_, fun h3 => ?_⟩⟩⟩
  · have e := stE_out (g := g) (t := t) (s := s) (.inl (show x < 0 by simpa using h))
    obtain ⟨k1, k2, k3⟩ := st_bad (g := g) (t := t) (x := x) (s := s) (by rw [e]; decide)
    exact ⟨k1.symm, k2.symm, k3.symm, e.symm⟩
  · have e := stE_out (g := g) (t := t) (s := s) (.inr (show (szN g : Int) ≤ x by simpa using h2))
    obtain ⟨k1, k2, k3⟩ := st_bad (g := g) (t := t) (x := x) (s := s) (by rw [e]; decide)
    exact ⟨k1.symm, k2.symm, k3.symm, e.symm⟩
  · have h : ¬ x < 0 := by simpa using h
    have h2 : ¬ x ≥ (szN g : Int) := by simpa using h2
    have e := stE_in (t := t) (s := s) (show 0 ≤ x by omega) (show x < (szN g : Int) by omega)
    obtain ⟨k1, k2, k3⟩ := st_bad (g := g) (t := t) (x := x) (s := s) (by rw [e]; simpa using h3)
    exact ⟨k1.symm, k2.symm, k3.symm, e.symm⟩
  · have h : ¬ x < 0 := by simpa using h
    have h2 : ¬ x ≥ (szN g : Int) := by simpa using h2
    have e := stE_in (t := t) (s := s) (show 0 ≤ x by omega) (show x < (szN g : Int) by omega)
    have e0 : stE g t x s = 0 := by rw [e]; exact eq0 h3
    obtain ⟨j1, j2, j3⟩ := stE0 e0
    obtain ⟨k1, k2, k3, k4, k5, k6, k7⟩ := stpN h0 h1 j1 j2 j3 hl
    obtain ⟨g1, g2, g3⟩ := st_good e0
    have hX : putX g x = x + (szN g : Int) := rfl
    have hn0 := k5.n0
    have hnle := k5.nle
    have hlo := k5.lo
    have hhi := k5.hi
    have hpn : putN g t x s = nbI (putX g x) ((celT t s).length : Int) := rfl
    refine ⟨⟨0, ⟨e0, by rw [hpn]; exact hn0⟩, (by first | rfl | trivial), by rw [← hX]; exact wr (by omega) (by omega), (by first | rfl | trivial)⟩, fun b hb => ?_⟩
    obtain ⟨_, hb⟩ := hb
    have eb : IntKind.wrap IntKind.u64 (b : Int) = (b : Int) := wru (by omega) (by omega)
    have eb2 : min (Int.toNat (b : Int)) (IntKind.bits IntKind.i64) = b := by rw [b64, toNat_cast]; omega
    have ed : Int.fdiv (putX g x) ((2 : Int) ^ b) = putX g x / 2 ^ b := fdivp (by have := pow_pos' b; omega)
    have e2 : IntKind.wrap IntKind.i64 ((2 : Int) * ((celT t s).length : Int)) = 2 * ((celT t s).length : Int) := wr (by omega) (by omega)
    simp only [eb, eb2, ed, e2]
    refine ⟨by omega, fun hc => ?_, fun hc => ?_⟩
    · have hc : putX g x / 2 ^ b ≥ 2 * ((celT t s).length : Int) := by simpa using hc
      have hlt : (b : Int) < putN g t x s := by
        rcases Int.lt_or_le (b : Int) (putN g t x s) with h4 | h4
        · exact h4
        · have : b = (putN g t x s).toNat := by omega
          rw [this, hpn] at hc
          omega
      exact ⟨b + 1, ⟨e0, by push_cast; omega⟩, by rw [Nat.sub_eq, Nat.sub_eq]; omega, (by first | rfl | trivial), (by first | rfl | trivial), cnt_wrap (by omega)⟩
    · have hc : ¬ putX g x / 2 ^ b ≥ 2 * ((celT t s).length : Int) := by simpa using hc
      have heq : (b : Int) = putN g t x s := by
        rcases Int.lt_or_le (b : Int) (putN g t x s) with h4 | h4
        · have := nb_below (X := putX g x) k1 (by omega) (b := b) (by rw [← hpn]; exact h4)
          omega
        · omega
      have hbn : b = (putN g t x s).toNat := by omega
      have hpow := pow_n (n := putN g t x s) (by omega) (by omega)
      have hpp := pow_pos' b
      rw [← hbn] at hpow
      have e3 : IntKind.wrap IntKind.i64 ((1 : Int) * (2 : Int) ^ b) = 2 ^ b := by rw [Int.one_mul]; exact wr (by omega) (by omega)
      have e4 : IntKind.wrap IntKind.i64 ((2 : Int) ^ b - 1) = 2 ^ b - 1 := wr (by omega) (by omega)
      have hlo' : ((celT t s).length : Int) ≤ putX g x / 2 ^ b := by rw [hbn, hpn]; exact hlo
      have e5 : IntKind.wrap IntKind.i64 (putX g x / 2 ^ b - ((celT t s).length : Int)) = putX g x / 2 ^ b - ((celT t s).length : Int) := wr (by omega) (by omega)
      have e6 : bits BinOp.and IntKind.i64 (putX g x) ((2 : Int) ^ b - 1) = putV g t x s := by
        obtain ⟨a, ha⟩ := Int.eq_ofNat_of_zero_le (show 0 ≤ putX g x by omega)
        rw [ha, and_pow64 a _ (by omega) (by omega)]
        unfold putV
        rw [ha, ← hbn]
        push_cast
        rfl
      simp only [e3, e4, e5, e6]
      refine ⟨by omega, by omega, by omega, by omega, ?_, by rw [g2]; exact heq, g3.symm, e0.symm⟩
      rw [g1]
      unfold putS
      rw [← hbn]
/-! ### first states, steps -/
theorem fr_bad {g : Int} {t : List (List Int)} {s : Int} (h : (echk g t != (0 : Int)) = true) : frE g t s = echk g t ∧ frI g t s = 0 := by
  have e : frE g t s = echk g t := by unfold frE; rw [ne0 h]; rfl
  refine ⟨e, ?_⟩
  unfold frI
  rw [e, ne0 h]; rfl
theorem fr_none {g : Int} {t : List (List Int)} {s : Int} (h : echk g t = 0) (h2 : (celT t s).length = 0) : frE g t s = 7 ∧ frI g t s = 0 := by
  have e : frE g t s = 7 := by unfold frE; rw [beq0 h, cond_true, celM_out h2]
  refine ⟨e, ?_⟩
  unfold frI
  rw [e]; rfl
theorem fr_good {g : Int} {t : List (List Int)} {s : Int} (h : echk g t = 0) (h2 : (celT t s).length ≠ 0) : frE g t s = 0 ∧ frI g t s = (celT t s).getD 0 0 := by
  have e : frE g t s = 0 := by unfold frE; rw [beq0 h, cond_true, celM_in h2]
  refine ⟨e, ?_⟩
  unfold frI
  rw [beq0 e]; rfl
theorem len0 {n : Nat} (h : ((n : Int) == 0) = true) : n = 0 := by
  have : (n : Int) = 0 := by simpa using h
  omega
theorem len1 {n : Nat} (h : ((n : Int) == 0) = false) : n ≠ 0 := by
  intro e
  subst e
  cases h
theorem firE_v (g : Int) (t : List (List Int)) (s : Int) (ht : t.length ≤ 4294967296) (hl : litT g t = true) : firE_t g t s := by
  unfold firE_t
  refine ⟨ht, hl, fun h => ⟨(fr_bad h).2.symm, (fr_bad h).1.symm⟩, fun h => ⟨ht, fun h2 => ?_, fun h2 => ?_⟩⟩
  · exact ⟨(fr_none (eq0 h) (len0 h2)).2.symm, (fr_none (eq0 h) (len0 h2)).1.symm⟩
  · have hp := len1 h2
    exact ⟨by omega, by omega, (fr_good (eq0 h) hp).2.symm, (fr_good (eq0 h) hp).1.symm⟩
theorem celM_ne {t : List (List Int)} {s : Int} (h : (celM t s != (0 : Int)) = true) : (celT t s).length = 0 := by
  by_cases h2 : (celT t s).length = 0
  · exact h2
  · rw [celM_in h2] at h; cases h
theorem celM_eq {t : List (List Int)} {s : Int} (h : (celM t s != (0 : Int)) = false) : (celT t s).length ≠ 0 := by
  intro h2
  rw [celM_out h2] at h; cases h
theorem rfirE_v (g : Int) (t : List (List Int)) (s : Int) (ht : t.length ≤ 4294967296) (hl : litT g t = true) : rfirE_t g t s := by
  unfold rfirE_t
  refine ⟨ht, hl, fun h => ⟨(fr_bad h).2.symm, (fr_bad h).1.symm⟩, fun h => ⟨ht, fun h2 => ?_, fun h2 => ?_⟩⟩
  · have h3 := celM_ne h2
    exact ⟨(fr_none (eq0 h) h3).2.symm, by rw [celM_out h3]; exact (fr_none (eq0 h) h3).1.symm⟩
  · have hp := celM_eq h2
    exact ⟨by omega, by omega, (fr_good (eq0 h) hp).2.symm, (fr_good (eq0 h) hp).1.symm⟩
theorem pu_bad {g : Int} {t : List (List Int)} {x s : Int} (h : puE g t x s ≠ 0) : puS g t x s = 0 ∧ puB g t x s = 0 ∧ puV g t x s = 0 := by
  have : (puE g t x s == 0) = false := by simpa using h
  unfold puS puB puV
  rw [this]
  exact ⟨rfl, rfl, rfl⟩
theorem pu_good {g : Int} {t : List (List Int)} {x s : Int} (h : puE g t x s = 0) : puS g t x s = putS g t x s ∧ puB g t x s = putN g t x s ∧ puV g t x s = putV g t x s := by
  unfold puS puB puV
  rw [beq0 h]
  exact ⟨rfl, rfl, rfl⟩
theorem puE_chk {g : Int} {t : List (List Int)} {x s : Int} (h : (echk g t != (0 : Int)) = true) : puE g t x s = echk g t := by unfold puE; rw [ne0 h]; rfl
theorem puE_st {g : Int} {t : List (List Int)} {x s : Int} (h : echk g t = 0) : puE g t x s = stE g t x s := by unfold puE; rw [beq0 h]; rfl
theorem putEE_v (g : Int) (t : List (List Int)) (x s : Int) (ht : t.length ≤ 4294967296) (hl : litT g t = true) : putEE_t g t x s := by
  unfold putEE_t
  refine ⟨ht, hl, fun h => ?_, fun h => ?_⟩
  · have e := puE_chk (x := x) (s := s) h
    obtain ⟨k1, k2, k3⟩ := pu_bad (g := g) (t := t) (x := x) (s := s) (by rw [e]; simpa using h)
    exact ⟨k1.symm, k2.symm, k3.symm, e.symm⟩
  have h := eq0 h
  have ht0 := echk0 h
  have hg0 := ht0.g0
  have hg12 := ht0.g12
  have e := puE_st (x := x) (s := s) h
  simp only [wu0 hg0 hg12, sz_wrap0 hg0 hg12]
  refine ⟨fun h2 => ?_, fun h2 => ⟨hg0, fun h3 => ?_, fun h3 => ⟨ht, fun h4 => ?_, fun h4 => ?_⟩⟩⟩
  · rw [stE_out (.inl (show x < 0 by simpa using h2))] at e
    obtain ⟨k1, k2, k3⟩ := pu_bad (g := g) (t := t) (x := x) (s := s) (by rw [e]; decide)
    exact ⟨k1.symm, k2.symm, k3.symm, e.symm⟩
  · rw [stE_out (.inr (show (szN g : Int) ≤ x by simpa using h3))] at e
    obtain ⟨k1, k2, k3⟩ := pu_bad (g := g) (t := t) (x := x) (s := s) (by rw [e]; decide)
    exact ⟨k1.symm, k2.symm, k3.symm, e.symm⟩
  · have h2 : ¬ x < 0 := by simpa using h2
    have h3 : ¬ x ≥ (szN g : Int) := by simpa using h3
    rw [stE_in (by omega) (by omega), celM_out (len0 h4)] at e
    obtain ⟨k1, k2, k3⟩ := pu_bad (g := g) (t := t) (x := x) (s := s) (by rw [e]; decide)
    exact ⟨k1.symm, k2.symm, k3.symm, e.symm⟩
  · have h2 : ¬ x < 0 := by simpa using h2
    have h3 : ¬ x ≥ (szN g : Int) := by simpa using h3
    have hp := len1 h4
    rw [stE_in (by omega) (by omega), celM_in hp] at e
    obtain ⟨k1, k2, k3⟩ := pu_good (g := g) (t := t) (x := x) (s := s) e
    refine ⟨hg0, hg12, ht, by omega, by omega, ?_, ht0.cel_le s, k1.symm, k2.symm, k3.symm, e.symm⟩
    cases hb : noC t s
    · rfl
    · exact absurd (noC_iff.1 hb) hp
theorem rputEE_v (g : Int) (t : List (List Int)) (x s : Int) (ht : t.length ≤ 4294967296) (hl : litT g t = true) : rputEE_t g t x s := by
  unfold rputEE_t
  refine ⟨ht, hl, fun h => ?_, fun h => ?_⟩
  · have e := puE_chk (x := x) (s := s) h
    obtain ⟨k1, k2, k3⟩ := pu_bad (g := g) (t := t) (x := x) (s := s) (by rw [e]; simpa using h)
    exact ⟨k1.symm, k2.symm, k3.symm, e.symm⟩
  have h := eq0 h
  have ht0 := echk0 h
  have e := puE_st (x := x) (s := s) h
  refine ⟨ht0.g0, ht0.g12, ht, ht0.cel_le s, ?_, ?_, ?_, e.symm⟩
  · unfold stS puS; rw [e]
  · unfold stB puB; rw [e]
  · unfold stV puV; rw [e]
/-! ### the symbols of cells -/
theorem markF_len (s : Int) : ∀ (l o : List Int), (markF o s l).length = o.length
  | [], _ => rfl
  | c :: l, o => by
    unfold markF
    rw [List.foldl_cons]
    exact (markF_len s l _).trans (by simp)
theorem markP_succ (g : Int) (t : List (List Int)) (i : Nat) : markP g t (i + 1) = markF (markP g t i) (i : Int) (t.getD i []) := by
  unfold markP
  rw [List.range_succ, List.foldl_append]
  rfl
theorem markP_len (g : Int) (t : List (List Int)) : ∀ i, (markP g t i).length = szN g
  | 0 => by simp [markP, zL]
  | i + 1 => by rw [markP_succ, markF_len, markP_len g t i]
theorem markQ_len (g : Int) (t : List (List Int)) (s j : Nat) : (markQ g t s j).length = szN g := by unfold markQ; rw [markF_len, markP_len]
theorem markQ_succ {g : Int} {t : List (List Int)} {s j : Nat} (h : j < (t.getD s []).length) : markQ g t s (j + 1) = (markQ g t s j).set ((t.getD s []).getD j 0).toNat (s : Int) := by
  unfold markQ markF
  rw [take_succ (t.getD s []) 0 h, List.foldl_append]
  rfl
theorem markQ_zero (g : Int) (t : List (List Int)) (s : Nat) : markQ g t s 0 = markP g t s := by simp [markQ, markF]
theorem markQ_all (g : Int) (t : List (List Int)) (s : Nat) : markQ g t s (t.getD s []).length = markP g t (s + 1) := by rw [markP_succ]; unfold markQ; rw [List.take_length]
theorem ce_bad {g : Int} {t : List (List Int)} (h : (echk g t != (0 : Int)) = true) : ceO g t = [] := by unfold ceO; rw [ne0 h]; rfl
theorem ce_good {g : Int} {t : List (List Int)} (h : echk g t = 0) : ceO g t = markP g t t.length := by unfold ceO; rw [beq0 h]; rfl
theorem TOk.row_rng {g : Int} {t : List (List Int)} (h : TOk g t) {s j : Nat} (hs : s < t.length) (hj : j < (t.getD s []).length) : 0 ≤ (t.getD s []).getD j 0 ∧ (t.getD s []).getD j 0 < (szN g : Int) :=
  h.w.rng _ (List.mem_flatten.2 ⟨_, getD_row hs, getD_mem' hj⟩)
theorem ceE_v (g : Int) (t : List (List Int)) (ht : t.length ≤ 4294967296) (hl : litT g t = true) : ceE_t g t := by
  unfold ceE_t
  refine ⟨ht, hl, fun h => ⟨by rw [ce_bad h]; rfl, rfl⟩, fun h => ?_⟩
  have h := eq0 h
  have hk := echk0 h
  have hg0 := hk.g0
  have hg12 := hk.g12
  have hn := hk.n
  have hsz := sz0 hg0 hg12
  have hwl := hk.w.len
  simp only [wu0 hg0 hg12, sz_wrap0 hg0 hg12]
  refine ⟨hg0, by omega, Int.le_refl _, by omega, by omega, ⟨0, ⟨Nat.zero_le _, h⟩, (by first | rfl | trivial), (by first | rfl | trivial), (by first | rfl | trivial), by rw [toNat_cast]; rfl⟩, fun s hs => ⟨fun hlt => ?_, fun hge => ?_⟩⟩
  · have hlt : s < t.length := by simpa using hlt
    have hrow := row_le t s
    refine ⟨by omega, by omega, s, ⟨0, ⟨hlt, Nat.zero_le _, h⟩, (by first | rfl | trivial), (by first | rfl | trivial), (by first | rfl | trivial), (by first | rfl | trivial), (by first | rfl | trivial), (by first | rfl | trivial), (by first | rfl | trivial), (markQ_zero g t s).symm⟩, fun j hj => ⟨fun hjl => ?_, fun hjl => ?_⟩⟩
    · have hjl : j < (t.getD s []).length := by rw [decide_eq_true_eq] at hjl; omega
      have hr := hk.row_rng hlt hjl
      rw [markQ_len, toNat_cast]
      exact ⟨by omega, by omega, hr.1, hr.2, by omega, j + 1, ⟨hlt, by omega, h⟩, by rw [Nat.sub_eq, Nat.sub_eq]; omega, (by first | rfl | trivial), (by first | rfl | trivial), (by first | rfl | trivial), (by first | rfl | trivial), (by first | rfl | trivial), (by first | rfl | trivial), cnt_wrap (by omega), (markQ_succ hjl).symm⟩
    · have hjl : j = (t.getD s []).length := by rw [decide_eq_false_iff_not] at hjl; omega
      subst hjl
      exact ⟨s + 1, ⟨by omega, h⟩, by rw [Nat.sub_eq, Nat.sub_eq]; omega, (by first | rfl | trivial), (by first | rfl | trivial), cnt_wrap (by omega), markQ_all g t s⟩
  · have hge : s = t.length := by rw [decide_eq_false_iff_not] at hge; omega
    subst hge
    exact ⟨(ce_good h).symm, h.symm⟩
theorem rceE_v (g : Int) (t : List (List Int)) (ht : t.length ≤ 4294967296) (hl : litT g t = true) : rceE_t g t := by
  unfold rceE_t
  refine ⟨ht, hl, fun h => ⟨by rw [ce_bad h]; rfl, rfl⟩, fun h => ?_⟩
  have h := eq0 h
  have hk := echk0 h
  have hg0 := hk.g0
  have hg12 := hk.g12
  have hn := hk.n
  have hsz := sz0 hg0 hg12
  have hwl := hk.w.len
  simp only [wu0 hg0 hg12, sz_wrap0 hg0 hg12]
  refine ⟨hg0, by omega, Int.le_refl _, by omega, by omega, ⟨0, ⟨Nat.zero_le _, h⟩, (by first | rfl | trivial), (by first | rfl | trivial), (by first | rfl | trivial), by rw [toNat_cast]; rfl⟩, fun s hs => ⟨fun hlt => ?_, fun hge => ?_⟩⟩
  · have hlt : s < t.length := by simpa using hlt
    have hrow := row_le t s
    refine ⟨s, ⟨0, ⟨hlt, Nat.zero_le _, h⟩, (by first | rfl | trivial), (by first | rfl | trivial), (by first | rfl | trivial), (by first | rfl | trivial), (markQ_zero g t s).symm⟩, fun j hj => ?_⟩
    simp only [toNat_cast]
    refine ⟨by omega, by omega, fun hjl => ?_, fun hjl => ?_⟩
    · have hjl : j < (t.getD s []).length := by rw [decide_eq_true_eq] at hjl; omega
      have hr := hk.row_rng hlt hjl
      rw [markQ_len]
      exact ⟨by omega, by omega, by omega, by omega, hr.1, hr.2, by omega, j + 1, ⟨hlt, by omega, h⟩, by rw [Nat.sub_eq, Nat.sub_eq]; omega, (by first | rfl | trivial), cnt_wrap (by omega), (by first | rfl | trivial), (by first | rfl | trivial), (markQ_succ hjl).symm⟩
    · have hjl : j = (t.getD s []).length := by rw [decide_eq_false_iff_not] at hjl; omega
      subst hjl
      exact ⟨s + 1, ⟨by omega, h⟩, by rw [Nat.sub_eq, Nat.sub_eq]; omega, cnt_wrap (by omega), (by first | rfl | trivial), (by first | rfl | trivial), markQ_all g t s⟩
  · have hge : s = t.length := by rw [decide_eq_false_iff_not] at hge; omega
    subst hge
    exact ⟨(ce_good h).symm, h.symm⟩
/-! ### a list from its end -/
theorem backE_v (l : List Int) (h0 : l.length ≤ 4294967296) (l0 : Nat) : backE_t l l0 := by
  unfold backE_t
  refine ⟨(), 0, Nat.zero_le _, rfl, ⟨rfl, by rw [wr (by omega) (by omega)]; simp, rfl⟩, fun k hk => ⟨fun hlt => ?_, fun hge => ?_⟩⟩
  · have hlt : (l.length : Int) - 1 - k ≥ 0 := by simpa using hlt
    have e1 : ((l.length : Int) - 1 - k).toNat = l.length - 1 - k := by omega
    rw [nle] at hk
    refine ⟨by omega, by omega, rfl, ?_, ⟨k + 1, by rw [nle]; omega, rfl, by rw [Nat.sub_eq, Nat.sub_eq]; omega, rfl, ?_, rfl⟩, trivial⟩
    · rw [e1, List.getElem?_map, List.getElem?_reverse (by omega), List.getD_eq_getElem?_getD, List.getElem?_eq_getElem (by omega)]
      rfl
    · rw [wr (by omega) (by omega)]; push_cast; omega
  · have hge : ¬ (l.length : Int) - 1 - k ≥ 0 := by simpa using hge
    rw [nle] at hk
    simp
    omega
end Go.Proofs.Ytbdgknebimdjoaa
/-
  Chapter 11: what the laws' helpers compute. Conditions: none (definitions).
-/
namespace Go.Proofs.Ytbdgknebimdjoaa
open Go
set_option linter.unusedVariables false
set_option maxRecDepth 100000
def exD : List Int := [16, 8, 8]
def exT : List (List Int) := encL 5 exD
def bitB (x s w : Int) : Bool := cond (puE 5 exT x s == 0) (puB 5 exT x s == w) false
def litL (g : Int) (t : List (List Int)) : Bool := (decide (g ≤ 10) || decide (12 < g)) && decide (t.length ≤ 300) && decide ((flatP t 301).length ≤ 1100)
def rowsOk (t : List (List Int)) : Bool := t.all fun r => decide (r.length ≤ 17592186044416)
def bkV (l : List Int) : List (List Value) := l.reverse.map fun x => [.int .i64 x]
end Go.Proofs.Ytbdgknebimdjoaa
/-
  Chapter 11: writing symbols, the laws: contracts and loops. Conditions: none (definitions).
-/
namespace Go.Proofs.Ytbdgknebimdjoaa
open Go Go.RowKit
set_option linter.unusedVariables false
set_option linter.unusedSimpArgs false
set_option maxRecDepth 100000
/-! ### contracts -/
def sNo : Spec where
  ι := Int × Int × List (List Int)
  dec l H := match l with
    | [.v (.int .i64 s), .p l0 0 0] => match H l0 with
      | some (.cells 83 [.v (.int .i64 g), .dat (.lists t)]) => some ((s, g, t), [l0])
      | _ => none
    | _ => none
  args := fun (s, g, t) => [.v (.int .i64 s), .p 0 0 0]
  hp := fun (s, g, t) => [(0, .cells 83 [.v (.int .i64 g), .dat (.lists t)])]
  pre := fun (s, g, t) => [⟨t.length ≤ 4294967296, inferInstance⟩]
  out := fun (s, g, t) => .leaf (.v (.bool (noC t s))) [(0, .cells 83 [.v (.int .i64 g), .dat (.lists t)])]
theorem sNo_enc : ∀ l H n i ls, sNo.dec l H = some (i, ls) → l = renL (rho ls n) (sNo.args i) ∧ givenHp H ls = renH (rho ls n) (sNo.hp i) := by
  intro l H n i ls h
  simp only [sNo] at h
  repeat' split at h
  all_goals first
    | (cases h; done)
    | (cases h; exact ⟨rfl, rfl⟩)
    | (cases h; refine ⟨rfl, ?_⟩; simp only [givenHp, List.filterMap_cons, List.filterMap_nil, Option.map, *]; rfl)
def sIdxE : Spec where
  ι := List Int × Int × List (List Int)
  dec l H := match l with
    | [.dat (.ints .i64 l), .fn (.func 64) [] [.p l0 0 0]] => match H l0 with
      | some (.cells 83 [.v (.int .i64 g), .dat (.lists t)]) => some ((l, g, t), [l0])
      | _ => none
    | _ => none
  args := fun (l, g, t) => [.dat (.ints .i64 l), .fn (.func 64) [] [.p 0 0 0]]
  hp := fun (l, g, t) => [(0, .cells 83 [.v (.int .i64 g), .dat (.lists t)])]
  pre := fun (l, g, t) => [⟨l.length ≤ 4294967296, inferInstance⟩, ⟨t.length ≤ 4294967296, inferInstance⟩]
  out := fun (l, g, t) => .leaf (.v (.int .i64 (cond (l.any (noC t)) ((l.findIdx (noC t) : Nat) : Int) (-1)))) [(0, .cells 83 [.v (.int .i64 g), .dat (.lists t)])]
theorem sIdxE_enc : ∀ l H n i ls, sIdxE.dec l H = some (i, ls) → l = renL (rho ls n) (sIdxE.args i) ∧ givenHp H ls = renH (rho ls n) (sIdxE.hp i) := by
  intro l H n i ls h
  simp only [sIdxE] at h
  repeat' split at h
  all_goals first
    | (cases h; done)
    | (cases h; exact ⟨rfl, rfl⟩)
    | (cases h; refine ⟨rfl, ?_⟩; simp only [givenHp, List.filterMap_cons, List.filterMap_nil, Option.map, *]; rfl)
def sHasE : Spec where
  ι := List Int × Int × List (List Int)
  dec l H := match l with
    | [.dat (.ints .i64 l), .fn (.func 64) [] [.p l0 0 0]] => match H l0 with
      | some (.cells 83 [.v (.int .i64 g), .dat (.lists t)]) => some ((l, g, t), [l0])
      | _ => none
    | _ => none
  args := fun (l, g, t) => [.dat (.ints .i64 l), .fn (.func 64) [] [.p 0 0 0]]
  hp := fun (l, g, t) => [(0, .cells 83 [.v (.int .i64 g), .dat (.lists t)])]
  pre := fun (l, g, t) => [⟨l.length ≤ 4294967296, inferInstance⟩, ⟨t.length ≤ 4294967296, inferInstance⟩]
  out := fun (l, g, t) => .leaf (.v (.bool (l.any (noC t)))) [(0, .cells 83 [.v (.int .i64 g), .dat (.lists t)])]
theorem sHasE_enc : ∀ l H n i ls, sHasE.dec l H = some (i, ls) → l = renL (rho ls n) (sHasE.args i) ∧ givenHp H ls = renH (rho ls n) (sHasE.hp i) := by
  intro l H n i ls h
  simp only [sHasE] at h
  repeat' split at h
  all_goals first
    | (cases h; done)
    | (cases h; exact ⟨rfl, rfl⟩)
    | (cases h; refine ⟨rfl, ?_⟩; simp only [givenHp, List.filterMap_cons, List.filterMap_nil, Option.map, *]; rfl)
def sBack : Spec where
  ι := List Int
  dec l H := match l with
    | [.dat (.ints .i64 l)] => some (l, [])
    | _ => none
  args := fun l => [.dat (.ints .i64 l)]
  out := fun l => .leaf (.fn (.func 100) [] [.p 2000 0 0]) [(2000, .cells 22 [.dat (.ints .i64 l)])]
theorem sBack_enc : ∀ l H n i ls, sBack.dec l H = some (i, ls) → l = renL (rho ls n) (sBack.args i) ∧ givenHp H ls = renH (rho ls n) (sBack.hp i) := by
  intro l H n i ls h
  simp only [sBack] at h
  repeat' split at h
  all_goals first
    | (cases h; done)
    | (cases h; exact ⟨rfl, rfl⟩)
def sEx : Spec where
  ι := Unit
  dec l H := match l with
    | [] => some ((), [])
    | _ => none
  args := fun _ => []
  out := fun _ => .leaf (.tu [.ag [.v (.int .i64 5), .dat (.lists exT)], .v (.int .i64 0)]) []
theorem sEx_enc : ∀ l H n i ls, sEx.dec l H = some (i, ls) → l = renL (rho ls n) (sEx.args i) ∧ givenHp H ls = renH (rho ls n) (sEx.hp i) := by
  intro l H n i ls h
  simp only [sEx] at h
  repeat' split at h
  all_goals first
    | (cases h; done)
    | (cases h; exact ⟨rfl, rfl⟩)
def sBitB : Spec where
  ι := Int × Int × Int
  dec l H := match l with
    | [.v (.int .i64 x), .v (.int .i64 s), .v (.int .i64 w)] => some ((x, s, w), [])
    | _ => none
  args := fun (x, s, w) => [.v (.int .i64 x), .v (.int .i64 s), .v (.int .i64 w)]
  out := fun (x, s, w) => .leaf (.v (.bool (bitB x s w))) []
theorem sBitB_enc : ∀ l H n i ls, sBitB.dec l H = some (i, ls) → l = renL (rho ls n) (sBitB.args i) ∧ givenHp H ls = renH (rho ls n) (sBitB.hp i) := by
  intro l H n i ls h
  simp only [sBitB] at h
  repeat' split at h
  all_goals first
    | (cases h; done)
    | (cases h; exact ⟨rfl, rfl⟩)
def sAwake : Spec where
  ι := Unit
  dec l H := match l with
    | [] => some ((), [])
    | _ => none
  args := fun _ => []
  out := fun _ => .leaf (.v (.bool true)) []
theorem sAwake_enc : ∀ l H n i ls, sAwake.dec l H = some (i, ls) → l = renL (rho ls n) (sAwake.args i) ∧ givenHp H ls = renH (rho ls n) (sAwake.hp i) := by
  intro l H n i ls h
  simp only [sAwake] at h
  repeat' split at h
  all_goals first
    | (cases h; done)
    | (cases h; exact ⟨rfl, rfl⟩)
def sLit : Spec where
  ι := Int × List (List Int)
  dec l H := match l with
    | [.ag [.v (.int .i64 g), .dat (.lists t)]] => some ((g, t), [])
    | _ => none
  args := fun (g, t) => [.ag [.v (.int .i64 g), .dat (.lists t)]]
  pre := fun (g, t) => [⟨t.length ≤ 17592186044416, inferInstance⟩, ⟨rowsOk t = true, inferInstance⟩]
  out := fun (g, t) => .leaf (.v (.bool (litL g t))) []
theorem sLit_enc : ∀ l H n i ls, sLit.dec l H = some (i, ls) → l = renL (rho ls n) (sLit.args i) ∧ givenHp H ls = renH (rho ls n) (sLit.hp i) := by
  intro l H n i ls h
  simp only [sLit] at h
  repeat' split at h
  all_goals first
    | (cases h; done)
    | (cases h; exact ⟨rfl, rfl⟩)
/-! ### loops -/
def oLit (g : Int) (t : List (List Int)) : LoopInv := { ι := Nat, p := fun i => i ≤ t.length ∧ i ≤ 301, tm := fun i => [(1, .p 1000 0 0), (3, .v (.int .i64 (flatP t i).length)), (4, .v (.int .i64 (i : Nat)))], hp := fun i => [eB 1000 g t], μ := fun i => 301 - i }
def rRun2 (g : Int) (t : List (List Int)) (l : List Int) : RngInv := { rRun g t l with xs := bkV l.dropLast }
def oRunP (g : Int) (t : List (List Int)) (l : List Int) : Nat → Option LoopFam := fun k => cond (Nat.beq k 0) (some (.rng Nat fun _ => rRun2 g t l)) none
/-! ### tables -/
def GEh : List (Nat × Ctr) := (64, sNo.ctr) :: (67, sBack.ctr) :: (21, sEx.ctr) :: (27, sLit.ctr) :: GEg
def GEi : List (Nat × Ctr) := (98, sIdxE.ctr) :: (22, sBitB.ctr) :: GEh
def GEj : List (Nat × Ctr) := (63, sHasE.ctr) :: (15, sAwake.ctr) :: GEi
def GEk : List (Nat × Ctr) := (23, sRun.ctr) :: (31, sRun.ctr) :: GEj
/-! ### conditions
--%VC noE ;; (s g : Int) (t : List (List Int)) ;; GEg ;; fun _ => none ;; encode.Run$1 ;; [.v (.int .i64 s), .p 0 0 0] ;; [(0, .cells 83 [.v (.int .i64 g), .dat (.lists t)])] ;; (.v (.bool (noC t s))) ;; [(0, .cells 83 [.v (.int .i64 g), .dat (.lists t)])]
--%VC bckE ;; (l : List Int) ;; GEg ;; fun _ => none ;; encode.backward ;; [.dat (.ints .i64 l)] ;; [] ;; (.fn (.func 100) [] [.p 2000 0 0]) ;; [(2000, .cells 22 [.dat (.ints .i64 l)])]
--%VC exE ;;  ;; GEg ;; fun _ => none ;; law11.example ;; [] ;; [] ;; (.tu [.ag [.v (.int .i64 5), .dat (.lists exT)], .v (.int .i64 0)]) ;; []
--%VC litE ;; (g : Int) (t : List (List Int)) ;; GEg ;; one (oLit g t) ;; law11.light ;; [.ag [.v (.int .i64 g), .dat (.lists t)]] ;; [] ;; (.v (.bool (litL g t))) ;; []
--%VC idxE ;; (l : List Int) (g : Int) (t : List (List Int)) ;; GEh ;; one (oIdxE g t l) ;; slices.IndexFunc[[]int,int] ;; [.dat (.ints .i64 l), .fn (.func 64) [] [.p 0 0 0]] ;; [(0, .cells 83 [.v (.int .i64 g), .dat (.lists t)])] ;; (.v (.int .i64 (cond (l.any (noC t)) ((l.findIdx (noC t) : Nat) : Int) (-1)))) ;; [(0, .cells 83 [.v (.int .i64 g), .dat (.lists t)])]
--%VC bitE ;; (x s w : Int) ;; GEh ;; fun _ => none ;; law11.bits ;; [.v (.int .i64 x), .v (.int .i64 s), .v (.int .i64 w)] ;; [] ;; (.v (.bool (bitB x s w))) ;; []
--%VC hasE ;; (l : List Int) (g : Int) (t : List (List Int)) ;; GEi ;; fun _ => none ;; slices.ContainsFunc[[]int,int] ;; [.dat (.ints .i64 l), .fn (.func 64) [] [.p 0 0 0]] ;; [(0, .cells 83 [.v (.int .i64 g), .dat (.lists t)])] ;; (.v (.bool (l.any (noC t)))) ;; [(0, .cells 83 [.v (.int .i64 g), .dat (.lists t)])]
--%VC awkE ;;  ;; GEi ;; fun _ => none ;; law11.awake ;; [] ;; [] ;; (.v (.bool true)) ;; []
--%VC runE ;; (g : Int) (t : List (List Int)) (l : List Int) ;; GEj ;; oRunP g t l ;; encode.Run ;; [.ag [.v (.int .i64 g), .dat (.lists t)], .dat (.ints .i64 l)] ;; [] ;; (.tu [.v (.int .i64 (ruS g t l)), .v (.int .i64 (ruN g t l)), .v (.int .i64 (ruE g t l))]) ;; []
--%VC rrunE ;; (g : Int) (t : List (List Int)) (l : List Int) ;; GEj ;; one (oRunR g t l) ;; ref11.Run ;; [.ag [.v (.int .i64 g), .dat (.lists t)], .dat (.ints .i64 l)] ;; [] ;; (.tu [.v (.int .i64 (ruS g t l)), .v (.int .i64 (ruN g t l)), .v (.int .i64 (ruE g t l))]) ;; []
--%VC lwMk ;; (g : Int) (l : List Int) (s : Int) ;; GEk ;; fun _ => none ;; law11.EncodeMakes ;; [.ag [.v (.int .i64 g), .dat (.ints .i64 l)], .v (.int .i64 s)] ;; [] ;; (.v (.bool true)) ;; []
--%VC lwSt ;; (g : Int) (t : List (List Int)) (x s : Int) (l : List Int) ;; GEk ;; fun _ => none ;; law11.EncodeSteps ;; [.ag [.v (.int .i64 g), .dat (.lists t)], .v (.int .i64 x), .v (.int .i64 s), .dat (.ints .i64 l)] ;; [] ;; (.v (.bool true)) ;; []
--%VC lwKn ;;  ;; GEk ;; fun _ => none ;; law11.EncodeKnown ;; [] ;; [] ;; (.v (.bool true)) ;; []
-/
end Go.Proofs.Ytbdgknebimdjoaa
/-
  The conditions of the functions told in the text before, and that they are the executor's. Conditions: none.
-/
namespace Go.Proofs.Ytbdgknebimdjoaa
open Go Go.RowKit
set_option linter.unusedVariables false
set_option maxRecDepth 100000
def noE_t (s g : Int) (t : List (List Int)) : Prop :=
 List.length t ≤ (4294967296 : Nat) ∧ ((↑(List.length (celT t s)) : Int) == (0 : Int)) = noC t s ∧ g = g ∧ t = t
--end
theorem noE_e (s g : Int) (t : List (List Int)) : noE_t s g t = vcG Try.prog (Gof GEg) (fun _ => none) Try.f64 [.v (.int .i64 s), .p 0 0 0] [(0, .cells 83 [.v (.int .i64 g), .dat (.lists t)])] (.leaf ((.v (.bool (noC t s)))) ([(0, .cells 83 [.v (.int .i64 g), .dat (.lists t)])])) := by kernel_rfl
def bckE_t (l : List Int) : Prop :=
 l = l
--end
theorem bckE_e (l : List Int) : bckE_t l = vcG Try.prog (Gof GEg) (fun _ => none) Try.f67 [.dat (.ints .i64 l)] [] (.leaf ((.fn (.func 100) [] [.p 2000 0 0])) ([(2000, .cells 22 [.dat (.ints .i64 l)])])) := by kernel_rfl
def exE_t  : Prop :=
 List.length [(16 : Int), (8 : Int), (8 : Int)] ≤ (4294967296 : Nat) ∧
 encG (5 : Int) [(16 : Int), (8 : Int), (8 : Int)] = (5 : Int) ∧ encL (5 : Int) [(16 : Int), (8 : Int), (8 : Int)] = exT ∧ dchk (5 : Int) [(16 : Int), (8 : Int), (8 : Int)] = (0 : Int)
--end
theorem exE_e  : exE_t  = vcG Try.prog (Gof GEg) (fun _ => none) Try.f21 [] [] (.leaf ((.tu [.ag [.v (.int .i64 5), .dat (.lists exT)], .v (.int .i64 0)])) ([])) := by kernel_rfl
def litE_t (g : Int) (t : List (List Int)) : Prop :=
 (∃ (x0 : Nat), (x0 ≤ List.length t ∧ x0 ≤ (301 : Nat)) ∧ (0 : Int) = (↑(List.length (flatP t x0)) : Int) ∧ (0 : Int) = (↑x0 : Int) ∧ g = g ∧ t = t) ∧
 ∀ (x1 : Nat),
 x1 ≤ List.length t ∧ x1 ≤ (301 : Nat) →
 (decide ((↑x1 : Int) < (↑(List.length t) : Int)) = true →
 (decide ((↑x1 : Int) < (301 : Int)) = true →
 (0 : Int) ≤ (↑x1 : Int) ∧
 (↑x1 : Int) < (↑(List.length t) : Int) ∧
 ∃ (y2 : Nat),
 (y2 ≤ List.length t ∧ y2 ≤ (301 : Nat)) ∧
 Nat.sub (301 : Nat) y2 < Nat.sub (301 : Nat) x1 ∧
 IntKind.wrap IntKind.i64 ((↑(List.length (flatP t x1)) : Int) + (↑(List.length (List.getD t (Int.toNat (↑x1 : Int)) [])) : Int)) = (↑(List.length (flatP t y2)) : Int) ∧
 IntKind.wrap IntKind.i64 ((↑x1 : Int) + (1 : Int)) = (↑y2 : Int) ∧ g = g ∧ t = t) ∧
 (decide ((↑x1 : Int) < (301 : Int)) = false →
 (decide (g ≤ (10 : Int)) = true →
 (decide ((↑(List.length t) : Int) ≤ (300 : Int)) = true → decide ((↑(List.length (flatP t x1)) : Int) ≤ (1100 : Int)) = litL g t) ∧
 (decide ((↑(List.length t) : Int) ≤ (300 : Int)) = false → false = litL g t)) ∧
 (decide (g ≤ (10 : Int)) = false →
 (decide (g > (12 : Int)) = true →
 (decide ((↑(List.length t) : Int) ≤ (300 : Int)) = true → decide ((↑(List.length (flatP t x1)) : Int) ≤ (1100 : Int)) = litL g t) ∧
 (decide ((↑(List.length t) : Int) ≤ (300 : Int)) = false → false = litL g t)) ∧
 (decide (g > (12 : Int)) = false → false = litL g t)))) ∧
 (decide ((↑x1 : Int) < (↑(List.length t) : Int)) = false →
 (decide (g ≤ (10 : Int)) = true →
 (decide ((↑(List.length t) : Int) ≤ (300 : Int)) = true → decide ((↑(List.length (flatP t x1)) : Int) ≤ (1100 : Int)) = litL g t) ∧
 (decide ((↑(List.length t) : Int) ≤ (300 : Int)) = false → false = litL g t)) ∧
 (decide (g ≤ (10 : Int)) = false →
 (decide (g > (12 : Int)) = true →
 (decide ((↑(List.length t) : Int) ≤ (300 : Int)) = true → decide ((↑(List.length (flatP t x1)) : Int) ≤ (1100 : Int)) = litL g t) ∧
 (decide ((↑(List.length t) : Int) ≤ (300 : Int)) = false → false = litL g t)) ∧
 (decide (g > (12 : Int)) = false → false = litL g t)))
--end
theorem litE_e (g : Int) (t : List (List Int)) : litE_t g t = vcG Try.prog (Gof GEg) (one (oLit g t)) Try.f27 [.ag [.v (.int .i64 g), .dat (.lists t)]] [] (.leaf ((.v (.bool (litL g t)))) ([])) := by kernel_rfl
def idxE_t (l : List Int) (g : Int) (t : List (List Int)) : Prop :=
 (∃ (x0 : Nat), (x0 ≤ List.length l ∧ List.any (List.take x0 l) (noC t) = false) ∧ l = l ∧ (↑(List.length l) : Int) = (↑(List.length l) : Int) ∧ (0 : Int) = (↑x0 : Int) ∧ g = g ∧ t = t) ∧
 ∀ (x1 : Nat),
 x1 ≤ List.length l ∧ List.any (List.take x1 l) (noC t) = false →
 (decide ((↑x1 : Int) < (↑(List.length l) : Int)) = true →
 (0 : Int) ≤ (↑x1 : Int) ∧
 (↑x1 : Int) < (↑(List.length l) : Int) ∧
 List.length t ≤ (4294967296 : Nat) ∧
 (noC t (List.getD l (Int.toNat (↑x1 : Int)) (0 : Int)) = true → ((↑x1 : Int) = bif List.any l (noC t) then (↑(List.findIdx (noC t) l) : Int) else (-1 : Int)) ∧ g = g ∧ t = t) ∧
 (noC t (List.getD l (Int.toNat (↑x1 : Int)) (0 : Int)) = false →
 ∃ (y2 : Nat),
 (y2 ≤ List.length l ∧ List.any (List.take y2 l) (noC t) = false) ∧
 Nat.sub (List.length l) y2 < Nat.sub (List.length l) x1 ∧
 l = l ∧ (↑(List.length l) : Int) = (↑(List.length l) : Int) ∧ IntKind.wrap IntKind.i64 ((↑x1 : Int) + (1 : Int)) = (↑y2 : Int) ∧ g = g ∧ t = t)) ∧
 (decide ((↑x1 : Int) < (↑(List.length l) : Int)) = false → ((-1 : Int) = bif List.any l (noC t) then (↑(List.findIdx (noC t) l) : Int) else (-1 : Int)) ∧ g = g ∧ t = t)
--end
theorem idxE_e (l : List Int) (g : Int) (t : List (List Int)) : idxE_t l g t = vcG Try.prog (Gof GEh) (one (oIdxE g t l)) Try.f98 [.dat (.ints .i64 l), .fn (.func 64) [] [.p 0 0 0]] [(0, .cells 83 [.v (.int .i64 g), .dat (.lists t)])] (.leaf ((.v (.int .i64 (cond (l.any (noC t)) ((l.findIdx (noC t) : Nat) : Int) (-1))))) ([(0, .cells 83 [.v (.int .i64 g), .dat (.lists t)])])) := by kernel_rfl
def bitE_t (x s w : Int) : Prop :=
 List.length exT ≤ (4294967296 : Nat) ∧
 litT (5 : Int) exT = true ∧
 (((0 : Int) == (0 : Int)) = true →
 ((puE (5 : Int) exT x s == (0 : Int)) = true → (puB (5 : Int) exT x s == w) = bitB x s w) ∧ ((puE (5 : Int) exT x s == (0 : Int)) = false → false = bitB x s w)) ∧
 (((0 : Int) == (0 : Int)) = false → false = bitB x s w)
--end
theorem bitE_e (x s w : Int) : bitE_t x s w = vcG Try.prog (Gof GEh) (fun _ => none) Try.f22 [.v (.int .i64 x), .v (.int .i64 s), .v (.int .i64 w)] [] (.leaf ((.v (.bool (bitB x s w)))) ([])) := by kernel_rfl
def hasE_t (l : List Int) (g : Int) (t : List (List Int)) : Prop :=
 List.length l ≤ (4294967296 : Nat) ∧
 List.length t ≤ (4294967296 : Nat) ∧ decide ((bif List.any l (noC t) then (↑(List.findIdx (noC t) l) : Int) else (-1 : Int)) ≥ (0 : Int)) = List.any l (noC t) ∧ g = g ∧ t = t
--end
theorem hasE_e (l : List Int) (g : Int) (t : List (List Int)) : hasE_t l g t = vcG Try.prog (Gof GEi) (fun _ => none) Try.f63 [.dat (.ints .i64 l), .fn (.func 64) [] [.p 0 0 0]] [(0, .cells 83 [.v (.int .i64 g), .dat (.lists t)])] (.leaf ((.v (.bool (l.any (noC t))))) ([(0, .cells 83 [.v (.int .i64 g), .dat (.lists t)])])) := by kernel_rfl
def awkE_t  : Prop :=
 (((0 : Int) == (0 : Int)) = true →
 (((5 : Int) == (5 : Int)) = true →
 (((↑(List.length exT) : Int) == (3 : Int)) = true →
 (0 : Int) ≤ (0 : Int) ∧
 (0 : Int) < (↑(List.length exT) : Int) ∧
 (((↑(List.length (List.getD exT (Int.toNat (0 : Int)) [])) : Int) == (16 : Int)) = true →
 (0 : Int) ≤ (1 : Int) ∧
 (1 : Int) < (↑(List.length exT) : Int) ∧
 (((↑(List.length (List.getD exT (Int.toNat (1 : Int)) [])) : Int) == (8 : Int)) = true →
 (0 : Int) ≤ (2 : Int) ∧
 (2 : Int) < (↑(List.length exT) : Int) ∧
 (((↑(List.length (List.getD exT (Int.toNat (2 : Int)) [])) : Int) == (8 : Int)) = true →
 (bitB (0 : Int) (0 : Int) (1 : Int) = true → bitB (0 : Int) (1 : Int) (2 : Int) = true) ∧ (bitB (0 : Int) (0 : Int) (1 : Int) = false → false = true)) ∧
 (((↑(List.length (List.getD exT (Int.toNat (2 : Int)) [])) : Int) == (8 : Int)) = false → false = true)) ∧
 (((↑(List.length (List.getD exT (Int.toNat (1 : Int)) [])) : Int) == (8 : Int)) = false → false = true)) ∧
 (((↑(List.length (List.getD exT (Int.toNat (0 : Int)) [])) : Int) == (16 : Int)) = false → false = true)) ∧
 (((↑(List.length exT) : Int) == (3 : Int)) = false → false = true)) ∧
 (((5 : Int) == (5 : Int)) = false → false = true)) ∧
 (((0 : Int) == (0 : Int)) = false → false = true)
--end
theorem awkE_e  : awkE_t  = vcG Try.prog (Gof GEi) (fun _ => none) Try.f15 [] [] (.leaf ((.v (.bool true))) ([])) := by kernel_rfl
def runE_t (g : Int) (t : List (List Int)) (l : List Int) : Prop :=
 List.length t ≤ (4294967296 : Nat) ∧
 litT g t = true ∧
 ((echk g t != (0 : Int)) = true → (0 : Int) = ruS g t l ∧ (0 : Int) = ruN g t l ∧ echk g t = ruE g t l) ∧
 ((echk g t != (0 : Int)) = false →
 (decide ((↑(List.length l) : Int) > (100000 : Int)) = true → (0 : Int) = ruS g t l ∧ (0 : Int) = ruN g t l ∧ (2 : Int) = ruE g t l) ∧
 (decide ((↑(List.length l) : Int) > (100000 : Int)) = false →
 (((↑(List.length l) : Int) == (0 : Int)) = true → (0 : Int) = ruS g t l ∧ (0 : Int) = ruN g t l ∧ (7 : Int) = ruE g t l) ∧
 (((↑(List.length l) : Int) == (0 : Int)) = false →
 List.length l ≤ (4294967296 : Nat) ∧
 List.length t ≤ (4294967296 : Nat) ∧
 (List.any l (noC t) = true → (0 : Int) = ruS g t l ∧ (0 : Int) = ruN g t l ∧ (7 : Int) = ruE g t l) ∧
 (List.any l (noC t) = false →
 (0 : Int) ≤ IntKind.wrap IntKind.i64 ((↑(List.length l) : Int) - (1 : Int)) ∧
 IntKind.wrap IntKind.i64 ((↑(List.length l) : Int) - (1 : Int)) < (↑(List.length l) : Int) ∧
 List.length t ≤ (4294967296 : Nat) ∧
 (0 : Int) ≤ (0 : Int) ∧
 (0 : Int) < (↑(List.length (celT t (List.getD l (Int.toNat (IntKind.wrap IntKind.i64 ((↑(List.length l) : Int) - (1 : Int)))) (0 : Int)))) : Int) ∧
 (0 : Int) ≤ (0 : Int) ∧
 (0 : Int) ≤ IntKind.wrap IntKind.i64 ((↑(List.length l) : Int) - (1 : Int)) ∧
 IntKind.wrap IntKind.i64 ((↑(List.length l) : Int) - (1 : Int)) ≤ (↑(List.length l) : Int) ∧
 ∃ (y0 : Nat),
 ISat Try.prog ((100 : Nat)) [SV.p (1200040 : Nat) (0 : Nat) (0 : Nat)]
 [((1200040 : Nat), SBlk.cells (22 : TypeId) [SV.dat (Dat.ints IntKind.i64 (List.dropLast l))])]
 (List.map (fun (x : Int) => [Value.int IntKind.i64 x]) (List.reverse (List.dropLast l))) ∧
 List.take (Int.toNat (IntKind.wrap IntKind.i64 ((↑(List.length l) : Int) - (1 : Int))) - Int.toNat (0 : Int)) (List.drop (Int.toNat (0 : Int)) l) =
 List.dropLast l ∧
 ruE g t l = (0 : Int) ∧
 ((0 : Int) = (0 : Int) ∧
 List.getD (celT t (List.getD l (Int.toNat (IntKind.wrap IntKind.i64 ((↑(List.length l) : Int) - (1 : Int)))) (0 : Int))) (Int.toNat (0 : Int))
 (0 : Int) =
 (runL g t (List.drop (List.length l - (1 : Nat) - (0 : Nat)) l)).fst ∧
 (0 : Int) = (runL g t (List.drop (List.length l - (1 : Nat) - (0 : Nat)) l)).snd ∧ g = g ∧ t = t ∧ g = g ∧ t = t) ∧
 (∀ (i1 : Nat),
 i1 < List.length (List.map (fun (x : Int) => [Value.int IntKind.i64 x]) (List.reverse (List.dropLast l))) →
 ruE g t l = (0 : Int) →
 (List.map (fun (x : Int) => [Value.int IntKind.i64 x]) (List.reverse (List.dropLast l)))[i1]? =
 some [Value.int IntKind.i64 (List.getD l (List.length l - (2 : Nat) - i1) (0 : Int))] ∧
 List.length [Value.int IntKind.i64 (List.getD l (List.length l - (2 : Nat) - i1) (0 : Int))] = List.length #[(50 : Nat)].toList ∧
 (0 : Int) ≤ g ∧
 g ≤ (12 : Int) ∧
 List.length t ≤ (4294967296 : Nat) ∧
 (0 : Int) ≤ (runL g t (List.drop (List.length l - (1 : Nat) - i1) l)).fst ∧
 (runL g t (List.drop (List.length l - (1 : Nat) - i1) l)).fst < (↑(szN g) : Int) ∧
 noC t (List.getD l (List.length l - (2 : Nat) - i1) (0 : Int)) = false ∧
 List.length (celT t (List.getD l (List.length l - (2 : Nat) - i1) (0 : Int))) ≤ szN g ∧
 ruE g t l = (0 : Int) ∧
 putS g t (runL g t (List.drop (List.length l - (1 : Nat) - i1) l)).fst
 (List.getD l (List.length l - (2 : Nat) - i1) (0 : Int)) =
 (runL g t (List.drop (List.length l - (1 : Nat) - (i1 + (1 : Nat))) l)).fst ∧
 IntKind.wrap IntKind.i64
 ((runL g t (List.drop (List.length l - (1 : Nat) - i1) l)).snd +
 putN g t (runL g t (List.drop (List.length l - (1 : Nat) - i1) l)).fst
 (List.getD l (List.length l - (2 : Nat) - i1) (0 : Int))) =
 (runL g t (List.drop (List.length l - (1 : Nat) - (i1 + (1 : Nat))) l)).snd ∧
 g = g ∧ t = t ∧ g = g ∧ t = t) ∧
 (ruE g t l = (0 : Int) →
 (runL g t
 (List.drop
 (List.length l - (1 : Nat) - List.length (List.map (fun (x : Int) => [Value.int IntKind.i64 x]) (List.reverse (List.dropLast l))))
 l)).fst =
 ruS g t l ∧
 (runL g t
 (List.drop
 (List.length l - (1 : Nat) - List.length (List.map (fun (x : Int) => [Value.int IntKind.i64 x]) (List.reverse (List.dropLast l))))
 l)).snd =
 ruN g t l ∧
 (0 : Int) = ruE g t l)))))
--end
theorem runE_e (g : Int) (t : List (List Int)) (l : List Int) : runE_t g t l = vcG Try.prog (Gof GEj) (oRunP g t l) Try.f23 [.ag [.v (.int .i64 g), .dat (.lists t)], .dat (.ints .i64 l)] [] (.leaf ((.tu [.v (.int .i64 (ruS g t l)), .v (.int .i64 (ruN g t l)), .v (.int .i64 (ruE g t l))])) ([])) := by kernel_rfl
def rrunE_t (g : Int) (t : List (List Int)) (l : List Int) : Prop :=
 List.length t ≤ (4294967296 : Nat) ∧
 litT g t = true ∧
 ((echk g t != (0 : Int)) = true → (0 : Int) = ruS g t l ∧ (0 : Int) = ruN g t l ∧ echk g t = ruE g t l) ∧
 ((echk g t != (0 : Int)) = false →
 (decide ((↑(List.length l) : Int) > (100000 : Int)) = true → (0 : Int) = ruS g t l ∧ (0 : Int) = ruN g t l ∧ (2 : Int) = ruE g t l) ∧
 (decide ((↑(List.length l) : Int) > (100000 : Int)) = false →
 (((↑(List.length l) : Int) == (0 : Int)) = true → (0 : Int) = ruS g t l ∧ (0 : Int) = ruN g t l ∧ (7 : Int) = ruE g t l) ∧
 (((↑(List.length l) : Int) == (0 : Int)) = false →
 (0 : Int) ≤ IntKind.wrap IntKind.i64 ((↑(List.length l) : Int) - (1 : Int)) ∧
 IntKind.wrap IntKind.i64 ((↑(List.length l) : Int) - (1 : Int)) < (↑(List.length l) : Int) ∧
 List.length t ≤ (4294967296 : Nat) ∧
 litT g t = true ∧
 ((frE g t (List.getD l (Int.toNat (IntKind.wrap IntKind.i64 ((↑(List.length l) : Int) - (1 : Int)))) (0 : Int)) != (0 : Int)) = true →
 (0 : Int) = ruS g t l ∧ (0 : Int) = ruN g t l ∧ frE g t (List.getD l (Int.toNat (IntKind.wrap IntKind.i64 ((↑(List.length l) : Int) - (1 : Int)))) (0 : Int)) = ruE g t l) ∧
 ((frE g t (List.getD l (Int.toNat (IntKind.wrap IntKind.i64 ((↑(List.length l) : Int) - (1 : Int)))) (0 : Int)) != (0 : Int)) = false →
 (∃ (x0 : Nat),
 ((1 : Nat) ≤ x0 ∧ x0 ≤ List.length l ∧ echk g t = (0 : Int) ∧ List.length l ≤ (100000 : Nat) ∧ List.any (List.drop (List.length l - x0) l) (noC t) = false) ∧
 l = l ∧
 frI g t (List.getD l (Int.toNat (IntKind.wrap IntKind.i64 ((↑(List.length l) : Int) - (1 : Int)))) (0 : Int)) = (runL g t (List.drop (List.length l - x0) l)).fst ∧
 (0 : Int) = (runL g t (List.drop (List.length l - x0) l)).snd ∧
 IntKind.wrap IntKind.i64 ((↑(List.length l) : Int) - (2 : Int)) = (↑(List.length l) : Int) - (1 : Int) - (↑x0 : Int) ∧ g = g ∧ t = t) ∧
 ∀ (x1 : Nat),
 (1 : Nat) ≤ x1 ∧ x1 ≤ List.length l ∧ echk g t = (0 : Int) ∧ List.length l ≤ (100000 : Nat) ∧ List.any (List.drop (List.length l - x1) l) (noC t) = false →
 (decide ((↑(List.length l) : Int) - (1 : Int) - (↑x1 : Int) ≥ (0 : Int)) = true →
 (0 : Int) ≤ (↑(List.length l) : Int) - (1 : Int) - (↑x1 : Int) ∧
 (↑(List.length l) : Int) - (1 : Int) - (↑x1 : Int) < (↑(List.length l) : Int) ∧
 (0 : Int) ≤ g ∧
 g ≤ (12 : Int) ∧
 List.length t ≤ (4294967296 : Nat) ∧
 List.length (celT t (List.getD l (Int.toNat ((↑(List.length l) : Int) - (1 : Int) - (↑x1 : Int))) (0 : Int))) ≤ szN g ∧
 ((stE g t (runL g t (List.drop (List.length l - x1) l)).fst
 (List.getD l (Int.toNat ((↑(List.length l) : Int) - (1 : Int) - (↑x1 : Int))) (0 : Int)) !=
 (0 : Int)) =
 true →
 (0 : Int) = ruS g t l ∧
 (0 : Int) = ruN g t l ∧
 stE g t (runL g t (List.drop (List.length l - x1) l)).fst
 (List.getD l (Int.toNat ((↑(List.length l) : Int) - (1 : Int) - (↑x1 : Int))) (0 : Int)) =
 ruE g t l) ∧
 ((stE g t (runL g t (List.drop (List.length l - x1) l)).fst
 (List.getD l (Int.toNat ((↑(List.length l) : Int) - (1 : Int) - (↑x1 : Int))) (0 : Int)) !=
 (0 : Int)) =
 false →
 ∃ (y2 : Nat),
 ((1 : Nat) ≤ y2 ∧
 y2 ≤ List.length l ∧ echk g t = (0 : Int) ∧ List.length l ≤ (100000 : Nat) ∧ List.any (List.drop (List.length l - y2) l) (noC t) = false) ∧
 Nat.sub (List.length l) y2 < Nat.sub (List.length l) x1 ∧
 l = l ∧
 stS g t (runL g t (List.drop (List.length l - x1) l)).fst
 (List.getD l (Int.toNat ((↑(List.length l) : Int) - (1 : Int) - (↑x1 : Int))) (0 : Int)) =
 (runL g t (List.drop (List.length l - y2) l)).fst ∧
 IntKind.wrap IntKind.i64
 ((runL g t (List.drop (List.length l - x1) l)).snd +
 stB g t (runL g t (List.drop (List.length l - x1) l)).fst
 (List.getD l (Int.toNat ((↑(List.length l) : Int) - (1 : Int) - (↑x1 : Int))) (0 : Int))) =
 (runL g t (List.drop (List.length l - y2) l)).snd ∧
 IntKind.wrap IntKind.i64 ((↑(List.length l) : Int) - (1 : Int) - (↑x1 : Int) - (1 : Int)) =
 (↑(List.length l) : Int) - (1 : Int) - (↑y2 : Int) ∧
 g = g ∧ t = t)) ∧
 (decide ((↑(List.length l) : Int) - (1 : Int) - (↑x1 : Int) ≥ (0 : Int)) = false →
 (runL g t (List.drop (List.length l - x1) l)).fst = ruS g t l ∧ (runL g t (List.drop (List.length l - x1) l)).snd = ruN g t l ∧ (0 : Int) = ruE g t l)))))
--end
theorem rrunE_e (g : Int) (t : List (List Int)) (l : List Int) : rrunE_t g t l = vcG Try.prog (Gof GEj) (one (oRunR g t l)) Try.f31 [.ag [.v (.int .i64 g), .dat (.lists t)], .dat (.ints .i64 l)] [] (.leaf ((.tu [.v (.int .i64 (ruS g t l)), .v (.int .i64 (ruN g t l)), .v (.int .i64 (ruE g t l))])) ([])) := by kernel_rfl
def lwMk_t (g : Int) (l : List Int) (s : Int) : Prop :=
 (decide ((↑(List.length l) : Int) > (300 : Int)) = true → true = true) ∧
 (decide ((↑(List.length l) : Int) > (300 : Int)) = false →
 (decide (g > (10 : Int)) = true →
 (decide (g ≤ (12 : Int)) = true → true = true) ∧
 (decide (g ≤ (12 : Int)) = false →
 List.length l ≤ (4294967296 : Nat) ∧
 List.length l ≤ (4294967296 : Nat) ∧
 List.length (encL g l) ≤ (4294967296 : Nat) ∧
 List.length (List.flatten (encL g l)) ≤ (4294967296 : Nat) ∧
 ((!(encG g l == encG g l && sameL (encL g l) (encL g l))) = true → false = true) ∧
 ((!(encG g l == encG g l && sameL (encL g l) (encL g l))) = false →
 ((dchk g l != dchk g l) = true → false = true) ∧
 ((dchk g l != dchk g l) = false →
 List.length (oneL s) ≤ (4294967296 : Nat) ∧
 List.length (List.flatten (oneL s)) ≤ (4294967296 : Nat) ∧
 (((0 : Int) == (0 : Int) && sameL (oneL s) (oneL s)) = true → ((oneE s == oneE s) = true → true = true) ∧ ((oneE s == oneE s) = false → false = true)) ∧
 (((0 : Int) == (0 : Int) && sameL (oneL s) (oneL s)) = false → false = true))))) ∧
 (decide (g > (10 : Int)) = false →
 List.length l ≤ (4294967296 : Nat) ∧
 List.length l ≤ (4294967296 : Nat) ∧
 List.length (encL g l) ≤ (4294967296 : Nat) ∧
 List.length (List.flatten (encL g l)) ≤ (4294967296 : Nat) ∧
 ((!(encG g l == encG g l && sameL (encL g l) (encL g l))) = true → false = true) ∧
 ((!(encG g l == encG g l && sameL (encL g l) (encL g l))) = false →
 ((dchk g l != dchk g l) = true → false = true) ∧
 ((dchk g l != dchk g l) = false →
 List.length (oneL s) ≤ (4294967296 : Nat) ∧
 List.length (List.flatten (oneL s)) ≤ (4294967296 : Nat) ∧
 (((0 : Int) == (0 : Int) && sameL (oneL s) (oneL s)) = true → ((oneE s == oneE s) = true → true = true) ∧ ((oneE s == oneE s) = false → false = true)) ∧
 (((0 : Int) == (0 : Int) && sameL (oneL s) (oneL s)) = false → false = true)))))
--end
theorem lwMk_e (g : Int) (l : List Int) (s : Int) : lwMk_t g l s = vcG Try.prog (Gof GEk) (fun _ => none) Try.f3 [.ag [.v (.int .i64 g), .dat (.ints .i64 l)], .v (.int .i64 s)] [] (.leaf ((.v (.bool true))) ([])) := by kernel_rfl
def lwSt_t (g : Int) (t : List (List Int)) (x s : Int) (l : List Int) : Prop :=
 List.length t ≤ (17592186044416 : Nat) ∧
 rowsOk t = true ∧
 ((!litL g t) = true → true = true) ∧
 ((!litL g t) = false →
 (decide ((↑(List.length l) : Int) > (60 : Int)) = true →
 (decide ((↑(List.length l) : Int) ≤ (100000 : Int)) = true → true = true) ∧
 (decide ((↑(List.length l) : Int) ≤ (100000 : Int)) = false →
 (decide ((↑(List.length l) : Int) > (100003 : Int)) = true → true = true) ∧
 (decide ((↑(List.length l) : Int) > (100003 : Int)) = false →
 List.length t ≤ (4294967296 : Nat) ∧
 litT g t = true ∧
 List.length t ≤ (4294967296 : Nat) ∧
 litT g t = true ∧
 ((frI g t s != frI g t s) = true → false = true) ∧
 ((frI g t s != frI g t s) = false →
 ((frE g t s != frE g t s) = true → false = true) ∧
 ((frE g t s != frE g t s) = false →
 List.length t ≤ (4294967296 : Nat) ∧
 litT g t = true ∧
 List.length t ≤ (4294967296 : Nat) ∧
 litT g t = true ∧
 ((echk g t != echk g t) = true → false = true) ∧
 ((echk g t != echk g t) = false →
 List.length t ≤ (4294967296 : Nat) ∧
 litT g t = true ∧
 List.length t ≤ (4294967296 : Nat) ∧
 litT g t = true ∧
 ((puS g t x s != puS g t x s) = true → false = true) ∧
 ((puS g t x s != puS g t x s) = false →
 ((puB g t x s != puB g t x s) = true → false = true) ∧
 ((puB g t x s != puB g t x s) = false →
 ((puV g t x s != puV g t x s) = true → false = true) ∧
 ((puV g t x s != puV g t x s) = false →
 ((puE g t x s != puE g t x s) = true → false = true) ∧
 ((puE g t x s != puE g t x s) = false →
 List.length t ≤ (4294967296 : Nat) ∧
 litT g t = true ∧
 List.length l ≤ (4294967296 : Nat) ∧
 List.length t ≤ (4294967296 : Nat) ∧
 litT g t = true ∧
 List.length l ≤ (4294967296 : Nat) ∧
 ((ruS g t l != ruS g t l) = true → false = true) ∧
 ((ruS g t l != ruS g t l) = false →
 ((ruN g t l != ruN g t l) = true → false = true) ∧
 ((ruN g t l != ruN g t l) = false →
 ((ruE g t l != ruE g t l) = true → false = true) ∧
 ((ruE g t l != ruE g t l) = false →
 List.length t ≤ (4294967296 : Nat) ∧
 litT g t = true ∧
 List.length t ≤ (4294967296 : Nat) ∧
 litT g t = true ∧
 List.length (ceO g t) ≤ (4294967296 : Nat) ∧
 (eqI (ceO g t) (ceO g t) = true →
 ((echk g t == echk g t) = true → true = true) ∧
 ((echk g t == echk g t) = false → false = true)) ∧
 (eqI (ceO g t) (ceO g t) = false → false = true)))))))))))))) ∧
 (decide ((↑(List.length l) : Int) > (60 : Int)) = false →
 (decide ((↑(List.length l) : Int) > (100003 : Int)) = true → true = true) ∧
 (decide ((↑(List.length l) : Int) > (100003 : Int)) = false →
 List.length t ≤ (4294967296 : Nat) ∧
 litT g t = true ∧
 List.length t ≤ (4294967296 : Nat) ∧
 litT g t = true ∧
 ((frI g t s != frI g t s) = true → false = true) ∧
 ((frI g t s != frI g t s) = false →
 ((frE g t s != frE g t s) = true → false = true) ∧
 ((frE g t s != frE g t s) = false →
 List.length t ≤ (4294967296 : Nat) ∧
 litT g t = true ∧
 List.length t ≤ (4294967296 : Nat) ∧
 litT g t = true ∧
 ((echk g t != echk g t) = true → false = true) ∧
 ((echk g t != echk g t) = false →
 List.length t ≤ (4294967296 : Nat) ∧
 litT g t = true ∧
 List.length t ≤ (4294967296 : Nat) ∧
 litT g t = true ∧
 ((puS g t x s != puS g t x s) = true → false = true) ∧
 ((puS g t x s != puS g t x s) = false →
 ((puB g t x s != puB g t x s) = true → false = true) ∧
 ((puB g t x s != puB g t x s) = false →
 ((puV g t x s != puV g t x s) = true → false = true) ∧
 ((puV g t x s != puV g t x s) = false →
 ((puE g t x s != puE g t x s) = true → false = true) ∧
 ((puE g t x s != puE g t x s) = false →
 List.length t ≤ (4294967296 : Nat) ∧
 litT g t = true ∧
 List.length l ≤ (4294967296 : Nat) ∧
 List.length t ≤ (4294967296 : Nat) ∧
 litT g t = true ∧
 List.length l ≤ (4294967296 : Nat) ∧
 ((ruS g t l != ruS g t l) = true → false = true) ∧
 ((ruS g t l != ruS g t l) = false →
 ((ruN g t l != ruN g t l) = true → false = true) ∧
 ((ruN g t l != ruN g t l) = false →
 ((ruE g t l != ruE g t l) = true → false = true) ∧
 ((ruE g t l != ruE g t l) = false →
 List.length t ≤ (4294967296 : Nat) ∧
 litT g t = true ∧
 List.length t ≤ (4294967296 : Nat) ∧
 litT g t = true ∧
 List.length (ceO g t) ≤ (4294967296 : Nat) ∧
 (eqI (ceO g t) (ceO g t) = true →
 ((echk g t == echk g t) = true → true = true) ∧
 ((echk g t == echk g t) = false → false = true)) ∧
 (eqI (ceO g t) (ceO g t) = false → false = true))))))))))))))
--end
theorem lwSt_e (g : Int) (t : List (List Int)) (x s : Int) (l : List Int) : lwSt_t g t x s l = vcG Try.prog (Gof GEk) (fun _ => none) Try.f5 [.ag [.v (.int .i64 g), .dat (.lists t)], .v (.int .i64 x), .v (.int .i64 s), .dat (.ints .i64 l)] [] (.leaf ((.v (.bool true))) ([])) := by kernel_rfl
def lwKn_t  : Prop :=
 (((0 : Int) != (0 : Int)) = true → false = true) ∧
 (((0 : Int) != (0 : Int)) = false →
 ((!bitB (31 : Int) (0 : Int) (1 : Int)) = true → false = true) ∧
 ((!bitB (31 : Int) (0 : Int) (1 : Int)) = false →
 List.length exT ≤ (4294967296 : Nat) ∧
 litT (5 : Int) exT = true ∧
 List.length [(0 : Int)] ≤ (4294967296 : Nat) ∧
 List.length exT ≤ (4294967296 : Nat) ∧
 litT (5 : Int) exT = true ∧
 List.length [(0 : Int), (1 : Int)] ≤ (4294967296 : Nat) ∧
 List.length (oneL (3 : Int)) ≤ (4294967296 : Nat) ∧
 litT (0 : Int) (oneL (3 : Int)) = true ∧
 ((ruN (5 : Int) exT [(0 : Int)] != (0 : Int)) = true → false = true) ∧
 ((ruN (5 : Int) exT [(0 : Int)] != (0 : Int)) = false →
 ((ruE (5 : Int) exT [(0 : Int)] != (0 : Int)) = true → false = true) ∧
 ((ruE (5 : Int) exT [(0 : Int)] != (0 : Int)) = false →
 ((ruN (5 : Int) exT [(0 : Int), (1 : Int)] != (1 : Int)) = true → false = true) ∧
 ((ruN (5 : Int) exT [(0 : Int), (1 : Int)] != (1 : Int)) = false →
 ((ruE (5 : Int) exT [(0 : Int), (1 : Int)] != (0 : Int)) = true → false = true) ∧
 ((ruE (5 : Int) exT [(0 : Int), (1 : Int)] != (0 : Int)) = false →
 ((oneE (3 : Int) != (0 : Int)) = true → false = true) ∧
 ((oneE (3 : Int) != (0 : Int)) = false →
 (((0 : Int) != (0 : Int)) = true → false = true) ∧
 (((0 : Int) != (0 : Int)) = false →
 (((↑(List.length (oneL (3 : Int))) : Int) != (4 : Int)) = true → false = true) ∧
 (((↑(List.length (oneL (3 : Int))) : Int) != (4 : Int)) = false →
 (0 : Int) ≤ (3 : Int) ∧
 (3 : Int) < (↑(List.length (oneL (3 : Int))) : Int) ∧
 (((↑(List.length (List.getD (oneL (3 : Int)) (Int.toNat (3 : Int)) [])) : Int) != (1 : Int)) = true → false = true) ∧
 (((↑(List.length (List.getD (oneL (3 : Int)) (Int.toNat (3 : Int)) [])) : Int) != (1 : Int)) = false →
 ((puS (0 : Int) (oneL (3 : Int)) (0 : Int) (3 : Int) != (0 : Int)) = true → false = true) ∧
 ((puS (0 : Int) (oneL (3 : Int)) (0 : Int) (3 : Int) != (0 : Int)) = false →
 ((puB (0 : Int) (oneL (3 : Int)) (0 : Int) (3 : Int) != (0 : Int)) = true → false = true) ∧
 ((puB (0 : Int) (oneL (3 : Int)) (0 : Int) (3 : Int) != (0 : Int)) = false →
 ((puE (0 : Int) (oneL (3 : Int)) (0 : Int) (3 : Int) != (0 : Int)) = true → false = true) ∧
 ((puE (0 : Int) (oneL (3 : Int)) (0 : Int) (3 : Int) != (0 : Int)) = false →
 List.length exT ≤ (4294967296 : Nat) ∧
 litT (5 : Int) exT = true ∧
 List.length exT ≤ (4294967296 : Nat) ∧
 litT (5 : Int) exT = true ∧
 ((frE (5 : Int) exT (3 : Int) == (7 : Int)) = true →
 ((puE (5 : Int) exT (32 : Int) (0 : Int) == (2 : Int)) = true →
 List.length [[(0 : Int)], [(0 : Int)]] ≤ (4294967296 : Nat) ∧
 litT (0 : Int) [[(0 : Int)], [(0 : Int)]] = true ∧
 ((echk (0 : Int) [[(0 : Int)], [(0 : Int)]] == (3 : Int)) = true → true = true) ∧
 ((echk (0 : Int) [[(0 : Int)], [(0 : Int)]] == (3 : Int)) = false → false = true)) ∧
 ((puE (5 : Int) exT (32 : Int) (0 : Int) == (2 : Int)) = false → false = true)) ∧
 ((frE (5 : Int) exT (3 : Int) == (7 : Int)) = false → false = true))))))))))))))
--end
theorem lwKn_e  : lwKn_t  = vcG Try.prog (Gof GEk) (fun _ => none) Try.f4 [] [] (.leaf ((.v (.bool true))) ([])) := by kernel_rfl
end Go.Proofs.Ytbdgknebimdjoaa
/-
  Chapter 11: the functions have their contracts; a whole run of symbols. Conditions: each theorem's own.
-/
namespace Go.Proofs.Ytbdgknebimdjoaa
open Go Go.RowKit
set_option linter.unusedVariables false
set_option linter.unusedSimpArgs false
set_option maxRecDepth 100000
theorem rcelE_sound : Sound Try.prog 62 sRcel.ctr := sRcel.sound (by kernel_rfl) sRcel_enc fun ⟨g, l, s⟩ hc => by
  have h0 := hc _ (.head _)
  exact satG GEd_ok mixed Try.func62 (rcelE_e g l s) (rcelE_v g l s h0)
theorem encE_sound : Sound Try.prog 16 sEnc.ctr := sEnc.sound (by kernel_rfl) sEnc_enc fun ⟨g, l⟩ hc => by
  have h0 := hc _ (.head _)
  exact satG GEd_ok mixed Try.func16 (encE_e g l) (encE_v g l h0)
theorem oneE1_sound : Sound Try.prog 19 sOneE.ctr := sOneE.sound (by kernel_rfl) sOneE_enc fun s hc => by
  exact satG GEd_ok mixed Try.func19 (oneE1_e s) (oneE1_v s)
theorem roneE1_sound : Sound Try.prog 20 sOneE.ctr := sOneE.sound (by kernel_rfl) sOneE_enc fun s hc => by
  exact satG GEd_ok mixed Try.func20 (roneE1_e s) (roneE1_v s)
theorem sameE_sound : Sound Try.prog 18 sSameE.ctr := sSameE.sound (by kernel_rfl) sSameE_enc fun ⟨a, x, b, y⟩ hc => by
  have h0 := hc _ (.head _)
  have h1 := hc _ (.tail _ (.head _))
  exact satG GEd_ok mixed Try.func18 (sameE_e a x b y) (sameE_v a x b y h0 h1)
theorem sortedE_sound : Sound Try.prog 68 sSorted.ctr := sSorted.sound (by kernel_rfl) sSorted_enc fun l hc => by
  have h0 := hc _ (.head _)
  exact satG GEd_ok mixed Try.func68 (sortedE_e l) (sortedE_v l h0)
theorem cutE_sound : Sound Try.prog 70 sCut.ctr := sCut.sound (by kernel_rfl) sCut_enc fun t hc => by
  have h0 := hc _ (.head _)
  have h1 := hc _ (.tail _ (.head _))
  exact satG GEd_ok mixed Try.func70 (cutE_e t) (cutE_v t h0 h1)
theorem gatherE_sound : Sound Try.prog 69 sGather.ctr := sGather.sound (by kernel_rfl) sGather_enc fun t hc => by
  have h0 := hc _ (.head _)
  have h1 := hc _ (.tail _ (.head _))
  exact satG GEd_ok mixed Try.func69 (gatherE_e t) (gatherE_v t h0 h1)
theorem celsE_sound : Sound Try.prog 65 sCells.ctr := sCells.sound (by kernel_rfl) sCells_enc fun ⟨g, t, s⟩ hc => by
  have h0 := hc _ (.head _)
  exact satG GEd_ok mixed Try.func65 (celsE_e g t s) (celsE_v g t s)
theorem rcelsE_sound : Sound Try.prog 72 sRcells.ctr := sRcells.sound (by kernel_rfl) sRcells_enc fun ⟨g, t, s⟩ hc => by
  have h0 := hc _ (.head _)
  exact satG GEd_ok mixed Try.func72 (rcelsE_e g t s) (rcelsE_v g t s)
theorem GEe_ok : AllOk Try.prog GEe := .cons rcelE_sound <| .cons encE_sound <| .cons oneE1_sound <| .cons roneE1_sound <| .cons sameE_sound <| .cons sortedE_sound <| .cons cutE_sound <| .cons gatherE_sound <| .cons sortI_sound <| .cons len_sound <| .cons celsE_sound <| .cons rcelsE_sound GEd_ok
theorem rencE_sound : Sound Try.prog 17 sEnc.ctr := sEnc.sound (by kernel_rfl) sEnc_enc fun ⟨g, l⟩ hc => by
  have h0 := hc _ (.head _)
  exact satG GEe_ok mixed Try.func17 (rencE_e g l) (rencE_v g l h0)
theorem chkE_sound : Sound Try.prog 26 sChkT.ctr := sChkT.sound (by kernel_rfl) sChkT_enc fun ⟨g, t⟩ hc => by
  have h0 := hc _ (.head _)
  have h1 := hc _ (.tail _ (.head _))
  exact satG GEe_ok mixed Try.func26 (chkE_e g t) (chkE_v g t h0 h1)
theorem rchkE_sound : Sound Try.prog 29 sChkT.ctr := sChkT.sound (by kernel_rfl) sChkT_enc fun ⟨g, t⟩ hc => by
  have h0 := hc _ (.head _)
  have h1 := hc _ (.tail _ (.head _))
  exact satG GEe_ok mixed Try.func29 (rchkE_e g t) (rchkE_v g t h0 h1)
theorem putE_sound : Sound Try.prog 66 sPut.ctr := sPut.sound (by kernel_rfl) sPut_enc fun ⟨g, t, x, s⟩ hc => by
  have h0 := hc _ (.head _)
  have h1 := hc _ (.tail _ (.head _))
  have h2 := hc _ (.tail _ (.tail _ (.head _)))
  have h3 := hc _ (.tail _ (.tail _ (.tail _ (.head _))))
  have h4 := hc _ (.tail _ (.tail _ (.tail _ (.tail _ (.head _)))))
  have h5 := hc _ (.tail _ (.tail _ (.tail _ (.tail _ (.tail _ (.head _))))))
  have h6 := hc _ (.tail _ (.tail _ (.tail _ (.tail _ (.tail _ (.tail _ (.head _)))))))
  exact satG GEe_ok mixed Try.func66 (putE_e g t x s) (putE_v g t x s h0 h1 h2 h3 h4 h5 h6)
theorem stpE_sound : Sound Try.prog 73 sStp.ctr := sStp.sound (by kernel_rfl) sStp_enc fun ⟨g, t, x, s⟩ hc => by
  have h0 := hc _ (.head _)
  have h1 := hc _ (.tail _ (.head _))
  have h2 := hc _ (.tail _ (.tail _ (.head _)))
  have h3 := hc _ (.tail _ (.tail _ (.tail _ (.head _))))
  exact satG GEe_ok mixed Try.func73 (stpE_e g t x s) (stpE_v g t x s h0 h1 h2 h3)
theorem GEf_ok : AllOk Try.prog GEf := .cons rencE_sound <| .cons chkE_sound <| .cons rchkE_sound <| .cons putE_sound <| .cons stpE_sound GEe_ok
theorem firE_sound : Sound Try.prog 25 sFirst.ctr := sFirst.sound (by kernel_rfl) sFirst_enc fun ⟨g, t, s⟩ hc => by
  have h0 := hc _ (.head _)
  have h1 := hc _ (.tail _ (.head _))
  exact satG GEf_ok mixed Try.func25 (firE_e g t s) (firE_v g t s h0 h1)
theorem rfirE_sound : Sound Try.prog 28 sFirst.ctr := sFirst.sound (by kernel_rfl) sFirst_enc fun ⟨g, t, s⟩ hc => by
  have h0 := hc _ (.head _)
  have h1 := hc _ (.tail _ (.head _))
  exact satG GEf_ok mixed Try.func28 (rfirE_e g t s) (rfirE_v g t s h0 h1)
theorem putEE_sound : Sound Try.prog 24 sPutE.ctr := sPutE.sound (by kernel_rfl) sPutE_enc fun ⟨g, t, x, s⟩ hc => by
  have h0 := hc _ (.head _)
  have h1 := hc _ (.tail _ (.head _))
  exact satG GEf_ok mixed Try.func24 (putEE_e g t x s) (putEE_v g t x s h0 h1)
theorem rputEE_sound : Sound Try.prog 30 sPutE.ctr := sPutE.sound (by kernel_rfl) sPutE_enc fun ⟨g, t, x, s⟩ hc => by
  have h0 := hc _ (.head _)
  have h1 := hc _ (.tail _ (.head _))
  exact satG GEf_ok mixed Try.func30 (rputEE_e g t x s) (rputEE_v g t x s h0 h1)
theorem ceE_sound : Sound Try.prog 32 sCellsE.ctr := sCellsE.sound (by kernel_rfl) sCellsE_enc fun ⟨g, t⟩ hc => by
  have h0 := hc _ (.head _)
  have h1 := hc _ (.tail _ (.head _))
  exact satG GEf_ok mixed Try.func32 (ceE_e g t) (ceE_v g t h0 h1)
theorem rceE_sound : Sound Try.prog 33 sCellsE.ctr := sCellsE.sound (by kernel_rfl) sCellsE_enc fun ⟨g, t⟩ hc => by
  have h0 := hc _ (.head _)
  have h1 := hc _ (.tail _ (.head _))
  exact satG GEf_ok mixed Try.func33 (rceE_e g t) (rceE_v g t h0 h1)
theorem GEg_ok : AllOk Try.prog GEg := .cons firE_sound <| .cons rfirE_sound <| .cons putEE_sound <| .cons rputEE_sound <| .cons ceE_sound <| .cons rceE_sound GEf_ok
theorem int_nat0 (n : Nat) : ((n : Int) == 0) = Nat.beq n 0 := by
  cases n with
  | zero => rfl
  | succ n => exact beq_eq_false_iff_ne.2 (by omega)
theorem noE_v (s g : Int) (t : List (List Int)) (h : t.length ≤ 4294967296) : noE_t s g t := by
  exact ⟨h, int_nat0 _, rfl, rfl⟩
theorem bckE_v (l : List Int) : bckE_t l := rfl
theorem exE_v : exE_t := by
  unfold exE_t
  decide +kernel
theorem rows_flatP {t : List (List Int)} (h : rowsOk t = true) : ∀ i, (flatP t i).length ≤ i * 17592186044416
  | 0 => by simp [flatP]
  | i + 1 => by
    have ih := rows_flatP h i
    by_cases hi : i < t.length
    · rw [flatP_succ hi, List.length_append]
      have := List.all_eq_true.1 h _ (getD_row hi)
      simp only [decide_eq_true_eq] at this
      omega
    · have : flatP t (i + 1) = flatP t i := by
        unfold flatP
        rw [List.take_of_length_le (by omega), List.take_of_length_le (by omega)]
      have e2 : (flatP t (i + 1)).length = (flatP t i).length := congrArg List.length this
      omega
theorem litL_end {g : Int} {t : List (List Int)} {n : Nat} (e : (flatP t 301).length = n) :
    (decide (g ≤ (10 : Int)) = true →
 (decide ((t.length : Int) ≤ (300 : Int)) = true → decide ((n : Int) ≤ (1100 : Int)) = litL g t) ∧
 (decide ((t.length : Int) ≤ (300 : Int)) = false → false = litL g t)) ∧
 (decide (g ≤ (10 : Int)) = false →
 (decide (g > (12 : Int)) = true →
 (decide ((t.length : Int) ≤ (300 : Int)) = true → decide ((n : Int) ≤ (1100 : Int)) = litL g t) ∧
 (decide ((t.length : Int) ≤ (300 : Int)) = false → false = litL g t)) ∧
 (decide (g > (12 : Int)) = false → false = litL g t)) := by
  unfold litL
  rw [e]
  have e1 : decide ((t.length : Int) ≤ (300 : Int)) = decide (t.length ≤ 300) := decide_eq_decide.2 (by omega)
  have e2 : decide ((n : Int) ≤ (1100 : Int)) = decide (n ≤ 1100) := decide_eq_decide.2 (by omega)
  have e3 : decide (g > (12 : Int)) = decide (12 < g) := rfl
  rw [e1, e2, e3]
  cases decide (g ≤ 10) <;> cases decide (12 < g) <;> cases decide (t.length ≤ 300) <;> simp
theorem litE_v (g : Int) (t : List (List Int)) (h0 : t.length ≤ 17592186044416) (h1 : rowsOk t = true) : litE_t g t := by
  unfold litE_t
  refine ⟨⟨0, ⟨by omega, by omega⟩, by simp [flatP], rfl, rfl, rfl⟩, fun i ⟨hi, hi2⟩ => ⟨fun hlt => ⟨fun hlt2 => ?_, fun hge => ?_⟩, fun hge => ?_⟩⟩
  · have hlt : i < t.length := by simpa using hlt
    have hlt2 : i < 301 := by simp only [decide_eq_true_eq] at hlt2; omega
    have b := rows_flatP h1 (i + 1)
    have e := flatP_succ hlt
    have e2 : (flatP t (i + 1)).length = (flatP t i).length + (t.getD i []).length := by rw [e, List.length_append]
    refine ⟨by omega, by omega, i + 1, ⟨by omega, by omega⟩, by rw [Nat.sub_eq, Nat.sub_eq]; omega, ?_, by rw [wr (by omega) (by omega)]; rfl, rfl, rfl⟩
    rw [toNat_cast, e2, wr (by omega) (by omega)]
    rfl
  · have : i = 301 := by simp only [decide_eq_false_iff_not] at hge; omega
    subst this
    exact litL_end rfl
  · have : i = t.length := by simp only [decide_eq_false_iff_not] at hge; omega
    subst this
    refine litL_end ?_
    unfold flatP
    rw [List.take_of_length_le (by omega), List.take_of_length_le (by omega)]
theorem findIdx_at (p : Int → Bool) : ∀ (l : List Int) (i : Nat), i < l.length → (l.take i).any p = false → p (l.getD i 0) = true → l.any p = true ∧ l.findIdx p = i
  | [], i, h, _, _ => by simp at h
  | x :: r, 0, _, _, hp => by
    have hp : p x = true := hp
    exact ⟨by simp [hp], by rw [List.findIdx_cons, hp]; rfl⟩
  | x :: r, i + 1, h, ht, hp => by
    simp only [List.take_succ_cons, List.any_cons, Bool.or_eq_false_iff] at ht
    obtain ⟨h1, h2⟩ := findIdx_at p r i (by simpa using h) ht.2 (by simpa using hp)
    exact ⟨by simp [h1], by rw [List.findIdx_cons, ht.1, h2]; rfl⟩
theorem idxE_v (l : List Int) (g : Int) (t : List (List Int)) (h0 : l.length ≤ 4294967296) (h1 : t.length ≤ 4294967296) : idxE_t l g t := by
  unfold idxE_t
  refine ⟨⟨0, ⟨by omega, rfl⟩, rfl, rfl, rfl, rfl, rfl⟩, fun i ⟨hi, ha⟩ => ⟨fun hlt => ?_, fun hge => ?_⟩⟩
  · have hlt : i < l.length := by simpa using hlt
    simp only [toNat_cast]
    refine ⟨by omega, by omega, h1, fun hn => ?_, fun hn => ?_⟩
    · obtain ⟨k1, k2⟩ := findIdx_at (noC t) l i hlt ha hn
      rw [k1, k2]
      exact ⟨rfl, (by first | rfl | trivial), (by first | rfl | trivial)⟩
    · refine ⟨i + 1, ⟨by omega, ?_⟩, by rw [Nat.sub_eq, Nat.sub_eq]; omega, (by first | rfl | trivial), (by first | rfl | trivial), by rw [wr (by omega) (by omega)]; rfl, (by first | rfl | trivial), (by first | rfl | trivial)⟩
      rw [take_succ l 0 hlt, List.any_append, ha]
      simp only [List.any_cons, List.any_nil, hn]
      rfl
  · have : i = l.length := by simp only [decide_eq_false_iff_not] at hge; omega
    subst this
    rw [List.take_length] at ha
    rw [ha]
    exact ⟨rfl, rfl, rfl⟩
theorem hasE_v (l : List Int) (g : Int) (t : List (List Int)) (h0 : l.length ≤ 4294967296) (h1 : t.length ≤ 4294967296) : hasE_t l g t := by
  unfold hasE_t
  refine ⟨h0, h1, ?_, rfl, rfl⟩
  cases l.any (noC t)
  · rfl
  · rw [cond_true]; exact decide_eq_true (by omega)
theorem bitE_v (x s w : Int) : bitE_t x s w := by
  unfold bitE_t
  refine ⟨by decide +kernel, by decide +kernel, fun _ => ⟨fun h => ?_, fun h => ?_⟩, fun h => by cases h⟩
  · unfold bitB; rw [h]; rfl
  · unfold bitB; rw [h]; rfl
theorem awkE_v : awkE_t := by
  unfold awkE_t
  decide +kernel
theorem noE_sound : Sound Try.prog 64 sNo.ctr := sNo.sound (by kernel_rfl) sNo_enc fun ⟨s, g, t⟩ hc => by
  have h0 := hc _ (.head _)
  exact satG GEg_ok mixed Try.func64 (noE_e s g t) (noE_v s g t h0)
theorem bckE_sound : Sound Try.prog 67 sBack.ctr := sBack.sound (by kernel_rfl) sBack_enc fun l hc => by
  exact satG GEg_ok mixed Try.func67 (bckE_e l) (bckE_v l)
theorem exE_sound : Sound Try.prog 21 sEx.ctr := sEx.sound (by kernel_rfl) sEx_enc fun _ hc => by
  exact satG GEg_ok mixed Try.func21 (exE_e ) (exE_v)
theorem litE_sound : Sound Try.prog 27 sLit.ctr := sLit.sound (by kernel_rfl) sLit_enc fun ⟨g, t⟩ hc => by
  have h0 := hc _ (.head _)
  have h1 := hc _ (.tail _ (.head _))
  exact satG GEg_ok mixed Try.func27 (litE_e g t) (litE_v g t h0 h1)
theorem GEh_ok : AllOk Try.prog GEh := .cons noE_sound <| .cons bckE_sound <| .cons exE_sound <| .cons litE_sound GEg_ok
theorem idxE_sound : Sound Try.prog 98 sIdxE.ctr := sIdxE.sound (by kernel_rfl) sIdxE_enc fun ⟨l, g, t⟩ hc => by
  have h0 := hc _ (.head _)
  have h1 := hc _ (.tail _ (.head _))
  exact satG GEh_ok mixed Try.func98 (idxE_e l g t) (idxE_v l g t h0 h1)
theorem bitE_sound : Sound Try.prog 22 sBitB.ctr := sBitB.sound (by kernel_rfl) sBitB_enc fun ⟨x, s, w⟩ hc => by
  exact satG GEh_ok mixed Try.func22 (bitE_e x s w) (bitE_v x s w)
theorem GEi_ok : AllOk Try.prog GEi := .cons idxE_sound <| .cons bitE_sound GEh_ok
theorem hasE_sound : Sound Try.prog 63 sHasE.ctr := sHasE.sound (by kernel_rfl) sHasE_enc fun ⟨l, g, t⟩ hc => by
  have h0 := hc _ (.head _)
  have h1 := hc _ (.tail _ (.head _))
  exact satG GEi_ok mixed Try.func63 (hasE_e l g t) (hasE_v l g t h0 h1)
theorem awkE_sound : Sound Try.prog 15 sAwake.ctr := sAwake.sound (by kernel_rfl) sAwake_enc fun _ hc => by
  exact satG GEi_ok mixed Try.func15 (awkE_e ) (awkE_v)
theorem GEj_ok : AllOk Try.prog GEj := .cons hasE_sound <| .cons awkE_sound GEi_ok
theorem back_isat (k : Nat) (l : List Int) (h0 : l.length ≤ 4294967296) : ISat Try.prog 100 [.p k 0 0] [(k, .cells 22 [.dat (.ints .i64 l)])] (l.reverse.map fun x => [.int .i64 x]) := by
  have h0 : ISat Try.prog 100 [.p 0 0 0] [(0, .cells 22 [.dat (.ints .i64 l)])] (l.reverse.map fun x => [.int .i64 x]) :=
    isat_of_vcI (Ωi := fun l0 => oBackF l0 l) AllOk.nil mixed Try.func100 (by kernel_rfl) fun l0 => by
      have := backE_v l h0 l0
      rw [backE_e] at this
      exact this
  exact h0.ren (fun i => k + i) (by intro a b _ _ e; omega) rfl rfl
/-! ### a run -/
theorem cel_any {g : Int} {t : List (List Int)} (h : TOk g t) (s : Int) (k : Nat) : 0 ≤ (celT t s).getD k 0 ∧ (celT t s).getD k 0 < (szN g : Int) := by
  by_cases hk : k < (celT t s).length
  · exact h.cel_rng hk
  · rw [List.getD_eq_getElem?_getD, List.getElem?_eq_none (by omega)]
    have := szN_pos g
    exact ⟨Int.le_refl _, by simp only [Option.getD_none]; omega⟩
theorem put_bd {g : Int} {t : List (List Int)} (h : TOk g t) {x s : Int} (hx0 : 0 ≤ x) (hx1 : x < (szN g : Int)) (hn : noC t s = false) : 0 ≤ putN g t x s ∧ putN g t x s ≤ 13 := by
  have hs := stpN h.g0 h.g12 hx0 hx1 hn (h.cel_le s)
  have h1 := hs.nb.n0
  have h2 := hs.nb.nle
  have h3 := hs.h0
  have h4 := hs.hX
  unfold putN
  omega
theorem run_one (g : Int) (t : List (List Int)) (s : Int) : runL g t [s] = ((celT t s).getD 0 0, 0) := rfl
theorem run_cons (g : Int) (t : List (List Int)) (s : Int) {r : List Int} (h : r ≠ []) : runL g t (s :: r) = (putS g t (runL g t r).1 s, (runL g t r).2 + putN g t (runL g t r).1 s) := by
  cases r with
  | nil => exact absurd rfl h
  | cons y r => rfl
structure RunB (g : Int) (t : List (List Int)) (l : List Int) : Prop where
  x0 : 0 ≤ (runL g t l).1
  x1 : (runL g t l).1 < (szN g : Int)
  n0 : 0 ≤ (runL g t l).2
  n1 : (runL g t l).2 ≤ 13 * (l.length : Int)
theorem run_bd {g : Int} {t : List (List Int)} (h : TOk g t) : ∀ l : List Int, l.any (noC t) = false → RunB g t l
  | [], _ => ⟨Int.le_refl _, by have := szN_pos g; show (0 : Int) < _; omega, Int.le_refl _, by show (0 : Int) ≤ _; omega⟩
  | s :: r, ha => by
    simp only [List.any_cons, Bool.or_eq_false_iff] at ha
    have ih := run_bd h r ha.2
    by_cases hr : r = []
    · subst hr
      rw [show RunB g t [s] ↔ _ from Iff.rfl]
      have := cel_any h s 0
      exact ⟨by rw [run_one]; exact this.1, by rw [run_one]; exact this.2, by rw [run_one]; exact Int.le_refl _, by rw [run_one]; simp⟩
    · have := cel_any h s (putX g (runL g t r).1 / 2 ^ (putN g t (runL g t r).1 s).toNat - (celT t s).length).toNat
      have hb := put_bd h ih.x0 ih.x1 ha.1
      have n0 := ih.n0
      have n1 := ih.n1
      exact ⟨by rw [run_cons g t s hr]; exact this.1, by rw [run_cons g t s hr]; exact this.2, by rw [run_cons g t s hr]; simp only; omega, by rw [run_cons g t s hr]; simp only [List.length_cons]; push_cast; omega⟩
theorem any_drop {p : Int → Bool} {l : List Int} (h : l.any p = false) (k : Nat) : (l.drop k).any p = false := by
  rw [← List.take_append_drop k l, List.any_append, Bool.or_eq_false_iff] at h
  exact h.2
theorem any_get {p : Int → Bool} {l : List Int} (h : l.any p = false) {k : Nat} (hk : k < l.length) : p (l.getD k 0) = false := by
  cases hb : p (l.getD k 0)
  · rfl
  · rw [List.any_eq_true.2 ⟨_, getD_mem' hk, hb⟩] at h; cases h
theorem drop_at {l : List Int} {k : Nat} (hk : k < l.length) : l.drop k = l.getD k 0 :: l.drop (k + 1) := by
  rw [List.drop_eq_getElem_cons hk, List.getD_eq_getElem?_getD, List.getElem?_eq_getElem hk]
  rfl
theorem run_step {g : Int} {t : List (List Int)} {l : List Int} {k : Nat} (hk : k + 1 < l.length) : runL g t (l.drop k) = (putS g t (runL g t (l.drop (k + 1))).1 (l.getD k 0), (runL g t (l.drop (k + 1))).2 + putN g t (runL g t (l.drop (k + 1))).1 (l.getD k 0)) := by
  rw [drop_at (show k < l.length by omega)]
  exact run_cons g t _ fun h => by
    have := congrArg List.length h
    simp at this
    omega
theorem run_last {g : Int} {t : List (List Int)} {l : List Int} (h : l.length ≠ 0) : runL g t (l.drop (l.length - 1)) = ((celT t (l.getD (l.length - 1) 0)).getD 0 0, 0) := by
  rw [drop_at (show l.length - 1 < l.length by omega), show l.length - 1 + 1 = l.length by omega, List.drop_length]
  rfl
theorem ru_bad {g : Int} {t : List (List Int)} {l : List Int} {e : Int} (h : ruE g t l = e) (he : e ≠ 0) : 0 = ruS g t l ∧ 0 = ruN g t l ∧ e = ruE g t l := by
  have hb : (ruE g t l == 0) = false := by simpa using fun h' => he (h ▸ h')
  refine ⟨?_, ?_, h.symm⟩
  · unfold ruS; rw [hb]; rfl
  · unfold ruN; rw [hb]; rfl
theorem ru_chk {g : Int} {t : List (List Int)} {l : List Int} (h : (echk g t != (0 : Int)) = true) : ruE g t l = echk g t := by unfold ruE; rw [ne0 h]; rfl
theorem ru_long {g : Int} {t : List (List Int)} {l : List Int} (h : echk g t = 0) (h2 : 100000 < l.length) : ruE g t l = 2 := by unfold ruE; rw [beq0 h, decide_eq_true h2]; rfl
theorem ru_empty {g : Int} {t : List (List Int)} {l : List Int} (h : echk g t = 0) (h2 : ¬ 100000 < l.length) (h3 : l.length = 0) : ruE g t l = 7 := by unfold ruE; rw [beq0 h, decide_eq_false h2, h3]; rfl
theorem ru_none {g : Int} {t : List (List Int)} {l : List Int} (h : echk g t = 0) (h2 : ¬ 100000 < l.length) (h3 : l.any (noC t) = true) : ruE g t l = 7 := by unfold ruE; rw [beq0 h, decide_eq_false h2, h3, Bool.or_true]; rfl
theorem nbeq0 {n : Nat} (h : n ≠ 0) : Nat.beq n 0 = false := by
  cases n with
  | zero => exact absurd rfl h
  | succ n => rfl
theorem ru_good {g : Int} {t : List (List Int)} {l : List Int} (h : echk g t = 0) (h2 : ¬ 100000 < l.length) (h3 : l.length ≠ 0) (h4 : l.any (noC t) = false) : ruE g t l = 0 := by unfold ruE; rw [beq0 h, decide_eq_false h2, nbeq0 h3, h4]; rfl
theorem ru_vals {g : Int} {t : List (List Int)} {l : List Int} (h : ruE g t l = 0) : (runL g t l).1 = ruS g t l ∧ (runL g t l).2 = ruN g t l ∧ 0 = ruE g t l := by
  refine ⟨?_, ?_, h.symm⟩
  · unfold ruS; rw [beq0 h]; rfl
  · unfold ruN; rw [beq0 h]; rfl
theorem nz {a : Int} (h : (a != (0 : Int)) = true) : a ≠ 0 := by simpa using h
theorem runE_v (g : Int) (t : List (List Int)) (l : List Int) (h0 : t.length ≤ 4294967296) (h1 : litT g t = true) (h2 : l.length ≤ 4294967296) : runE_t g t l := by
  unfold runE_t
  refine ⟨h0, h1, fun h => ru_bad (ru_chk h) (nz h), fun h => ?_⟩
  have hc := eq0 h
  have hT := echk0 hc
  refine ⟨fun hl => ru_bad (ru_long hc (by simp only [gt_iff_lt, decide_eq_true_eq] at hl; omega)) (by decide), fun hl => ?_⟩
  have hl : ¬ 100000 < l.length := by simp only [gt_iff_lt, decide_eq_false_iff_not] at hl; omega
  refine ⟨fun he => ru_bad (ru_empty hc hl (len0 he)) (by decide), fun he => ?_⟩
  have he := len1 he
  refine ⟨h2, h0, fun ha => ru_bad (ru_none hc hl ha) (by decide), fun ha => ?_⟩
  have hr := ru_good hc hl he ha
  have ew : IntKind.wrap IntKind.i64 ((l.length : Int) - 1) = ((l.length - 1 : Nat) : Int) := by rw [wr (by omega) (by omega)]; omega
  have hN : ∀ k, k < l.length → noC t (l.getD k 0) = false := fun k hk => any_get ha hk
  have hb : ∀ k, RunB g t (l.drop k) := fun k => run_bd hT _ (any_drop ha k)
  rw [ew, toNat_cast]
  have hcl : (celT t (l.getD (l.length - 1) 0)).length ≠ 0 := by
    intro h'
    have := hN (l.length - 1) (by omega)
    rw [noC_iff.2 h'] at this
    cases this
  have hlen : ((l.dropLast.reverse).map fun x => [Value.int IntKind.i64 x]).length = l.length - 1 := by simp
  refine ⟨by omega, by omega, h0, Int.le_refl _, by omega, Int.le_refl _, by omega, by omega, 0, back_isat _ _ (by simp; omega), ?_, hr, ⟨rfl, ?_, ?_, rfl, rfl, rfl, rfl⟩, fun i hi hr => ?_, fun hr => ?_⟩
  · rw [List.dropLast_eq_take]; rfl
  · rw [Nat.sub_zero, run_last he]; rfl
  · rw [Nat.sub_zero, run_last he]
  · rw [hlen] at hi
    have hk : l.length - 1 - (i + 1) = l.length - 2 - i := by omega
    have hk1 : l.length - 1 - i = l.length - 2 - i + 1 := by omega
    have st := run_step (g := g) (t := t) (l := l) (k := l.length - 2 - i) (by omega)
    have b := hb (l.length - 2 - i + 1)
    have hn := hN (l.length - 2 - i) (by omega)
    have pb := put_bd hT b.x0 b.x1 hn
    have b0 := b.n0
    have b1 := b.n1
    rw [List.length_drop] at b1
    rw [hk, hk1, st]
    refine ⟨?_, rfl, hT.g0, hT.g12, h0, b.x0, b.x1, hn, hT.cel_le _, hr, rfl, ?_, rfl, rfl, rfl, rfl⟩
    · rw [List.getElem?_map, List.getElem?_reverse (by simp; omega), List.length_dropLast]
      rw [List.getElem?_dropLast, if_pos (by omega), List.getD_eq_getElem?_getD, show l.length - 1 - 1 - i = l.length - 2 - i by omega, List.getElem?_eq_getElem (by omega)]
      rfl
    · rw [wr (by omega) (by omega)]
  · rw [hlen, Nat.sub_self, List.drop_zero]
    exact ru_vals hr
theorem rrunE_v (g : Int) (t : List (List Int)) (l : List Int) (h0 : t.length ≤ 4294967296) (h1 : litT g t = true) (h2 : l.length ≤ 4294967296) : rrunE_t g t l := by
  unfold rrunE_t
  refine ⟨h0, h1, fun h => ru_bad (ru_chk h) (nz h), fun h => ?_⟩
  have hc := eq0 h
  have hT := echk0 hc
  refine ⟨fun hl => ru_bad (ru_long hc (by simp only [gt_iff_lt, decide_eq_true_eq] at hl; omega)) (by decide), fun hl => ?_⟩
  have hl : ¬ 100000 < l.length := by simp only [gt_iff_lt, decide_eq_false_iff_not] at hl; omega
  refine ⟨fun he => ru_bad (ru_empty hc hl (len0 he)) (by decide), fun he => ?_⟩
  have he := len1 he
  have ew : IntKind.wrap IntKind.i64 ((l.length : Int) - 1) = ((l.length - 1 : Nat) : Int) := by rw [wr (by omega) (by omega)]; omega
  rw [ew, toNat_cast]
  have hlast : l.getD (l.length - 1) 0 ∈ l := getD_mem' (by omega)
  refine ⟨by omega, by omega, h0, h1, fun hf => ?_, fun hf => ⟨?_, fun k ⟨hk1, hk2, _, _, hk3⟩ => ⟨fun hlt => ?_, fun hge => ?_⟩⟩⟩
  · by_cases hn : (celT t (l.getD (l.length - 1) 0)).length = 0
    · rw [(fr_none hc hn).1]
      exact ru_bad (ru_none hc hl (List.any_eq_true.2 ⟨_, hlast, noC_iff.2 hn⟩)) (by decide)
    · rw [(fr_good hc hn).1] at hf
      cases hf
  · have hn : (celT t (l.getD (l.length - 1) 0)).length ≠ 0 := fun hn => by
      rw [(fr_none hc hn).1] at hf
      cases hf
    refine ⟨1, ⟨Nat.le_refl _, by omega, hc, by omega, ?_⟩, rfl, ?_, ?_, ?_, rfl, rfl⟩
    · rw [drop_at (show l.length - 1 < l.length by omega), show l.length - 1 + 1 = l.length by omega, List.drop_length]
      simp only [List.any_cons, List.any_nil, Bool.or_false]
      cases hb : noC t (l.getD (l.length - 1) 0)
      · rfl
      · exact absurd (noC_iff.1 hb) hn
    · rw [run_last he, (fr_good hc hn).2]
    · rw [run_last he]
    · rw [wr (by omega) (by omega)]; omega
  · have hlt : k < l.length := by simp only [ge_iff_le, decide_eq_true_eq] at hlt; omega
    have e1 : ((l.length : Int) - 1 - (k : Int)).toNat = l.length - (k + 1) := by omega
    have e2 : l.length - k = l.length - (k + 1) + 1 := by omega
    rw [e1]
    have hb := run_bd hT _ hk3
    have st := run_step (g := g) (t := t) (l := l) (k := l.length - (k + 1)) (by omega)
    rw [← e2] at st
    have es := stE_in (t := t) (s := l.getD (l.length - (k + 1)) 0) hb.x0 hb.x1
    have hm : l.getD (l.length - (k + 1)) 0 ∈ l := getD_mem' (by omega)
    refine ⟨by omega, by omega, hT.g0, hT.g12, h0, hT.cel_le _, fun hs => ?_, fun hs => ?_⟩
    · rw [es] at hs ⊢
      have hn := celM_ne hs
      rw [celM_out hn]
      exact ru_bad (ru_none hc hl (List.any_eq_true.2 ⟨_, hm, noC_iff.2 hn⟩)) (by decide)
    · have hs0 := eq0 hs
      rw [es] at hs
      have hn := celM_eq hs
      have hn : noC t (l.getD (l.length - (k + 1)) 0) = false := by
        cases hb : noC t (l.getD (l.length - (k + 1)) 0)
        · rfl
        · exact absurd (noC_iff.1 hb) hn
      have pb := put_bd hT hb.x0 hb.x1 hn
      have b0 := hb.n0
      have b1 := hb.n1
      rw [List.length_drop] at b1
      obtain ⟨g1, g2, g3⟩ := st_good hs0
      rw [g1, g2]
      refine ⟨k + 1, ⟨by omega, by omega, hc, by omega, ?_⟩, by rw [Nat.sub_eq, Nat.sub_eq]; omega, rfl, by rw [st], ?_, ?_, rfl, rfl⟩
      · rw [drop_at (show l.length - (k + 1) < l.length by omega), ← e2, List.any_cons, hn, hk3]; rfl
      · rw [st, wr (by omega) (by omega)]
      · rw [wr (by omega) (by omega)]; push_cast; omega
  · have hk : k = l.length := by simp only [ge_iff_le, decide_eq_false_iff_not] at hge; omega
    subst hk
    rw [Nat.sub_self, List.drop_zero] at hk3 ⊢
    exact ru_vals (ru_good hc hl he hk3)
theorem runE_sound : Sound Try.prog 23 sRun.ctr := sRun.sound (by kernel_rfl) sRun_enc fun ⟨g, t, l⟩ hc => by
  have h0 := hc _ (.head _)
  have h1 := hc _ (.tail _ (.head _))
  have h2 := hc _ (.tail _ (.tail _ (.head _)))
  exact satG GEj_ok mixed Try.func23 (runE_e g t l) (runE_v g t l h0 h1 h2)
theorem rrunE_sound : Sound Try.prog 31 sRun.ctr := sRun.sound (by kernel_rfl) sRun_enc fun ⟨g, t, l⟩ hc => by
  have h0 := hc _ (.head _)
  have h1 := hc _ (.tail _ (.head _))
  have h2 := hc _ (.tail _ (.tail _ (.head _)))
  exact satG GEj_ok mixed Try.func31 (rrunE_e g t l) (rrunE_v g t l h0 h1 h2)
theorem GEk_ok : AllOk Try.prog GEk := .cons runE_sound <| .cons rrunE_sound GEj_ok
end Go.Proofs.Ytbdgknebimdjoaa
/-
  Chapter 12: what its functions compute: a writer from the end, a list's stream. Conditions: none (definitions).
-/
namespace Go.Proofs.Ytbdgknebimdjoaa
open Go
set_option linter.unusedVariables false
set_option maxRecDepth 100000
/-- the low bytes of a number -/
def lowB : Nat → Int → List Int
  | 0, _ => []
  | m + 1, x => x % 256 :: lowB m (x / 256)
def wX (p n v : Int) : Int := p + v * 2 ^ n.toNat
def wM (n k : Int) : Nat := ((n + k) / 8).toNat
def wS (s : ByteArray) (p n k v : Int) : ByteArray := s ++ strOfNums (lowB (wM n k) (wX p n v))
def wP (p n k v : Int) : Int := wX p n v / 256 ^ wM n k
def wN (n k : Int) : Int := (n + k) % 8
def wA (i : Nat) (p n v : Int) : Int := cond (Nat.beq i 0) p (wX p n v)
def wB (i : Nat) (n k : Int) : Int := cond (Nat.beq i 0) n (n + k)
def wBytes (s : ByteArray) (x : Int) (j : Nat) : List Int := bytesN s ++ lowB j x
def dS (s : ByteArray) (p n : Int) : ByteArray := s ++ strOfNums [p + 2 ^ n.toNat]
def lowV (v : Int) (i : Nat) : Int := v % 2 ^ i
def fstE : List Int → Int
  | [] => 0
  | x :: r => cond (x == 0) (fstE r) x
/-! ### lists -/
def noD (l : List Int) (x : Int) : Bool := decide (x < 0) || decide ((l.length : Int) ≤ x) || l.getD x.toNat 0 == 0
def askE (g : Int) (p l : List Int) (c : Int) : Int := cond (dchk g p == 0) (cond (decide (100000 < l.length)) 4 (cond (decide ((l.length : Int) < c)) 5 (cond (l.any (noD p)) 7 0))) (dchk g p)
def covB (g : Int) (p l : List Int) : Bool := cond (dchk g p == 0) (!l.any (noD p)) false
def putWr (w : ByteArray × Int × Int) (k v : Int) : ByteArray × Int × Int := (wS w.1 w.2.1 w.2.2 k v, wP w.2.1 w.2.2 k v, wN w.2.2 k)
def nthI (l : List Int) (k : Nat) : Nat := l.length - 1 - k
def nthS (l : List Int) (k : Nat) : Int := l.getD (nthI l k) 0
/-- the states and the writer when k symbols are written -/
def fwR (g : Int) (t : List (List Int)) (l : List Int) (c : Nat) : Nat → List Int × (ByteArray × Int × Int)
  | 0 => ([0, 0], (ByteArray.empty, 0, 0))
  | k + 1 => cond (Nat.blt k c)
    ((fwR g t l c k).1.set (nthI l k % c) ((celT t (nthS l k)).getD 0 0), (fwR g t l c k).2)
    ((fwR g t l c k).1.set (nthI l k % c) (putS g t ((fwR g t l c k).1.getD (nthI l k % c) 0) (nthS l k)),
      putWr (fwR g t l c k).2 (putN g t ((fwR g t l c k).1.getD (nthI l k % c) 0) (nthS l k)) (putV g t ((fwR g t l c k).1.getD (nthI l k % c) 0) (nthS l k)))
def fwX (g : Int) (t : List (List Int)) (l : List Int) (c k : Nat) : List Int := (fwR g t l c k).1
def fwS (g : Int) (t : List (List Int)) (l : List Int) (c k : Nat) : ByteArray := (fwR g t l c k).2.1
def fwP (g : Int) (t : List (List Int)) (l : List Int) (c k : Nat) : Int := (fwR g t l c k).2.2.1
def fwN (g : Int) (t : List (List Int)) (l : List Int) (c k : Nat) : Int := (fwR g t l c k).2.2.2
/-- who has a state when k symbols are written -/
def fwG (l : List Int) (c : Nat) : Nat → List Bool
  | 0 => [false, false]
  | k + 1 => (fwG l c k).set (nthI l k % c) true
/-- the states behind the rest -/
def fwF (g : Int) (t : List (List Int)) (l : List Int) (c : Nat) : Nat → ByteArray × Int × Int
  | 0 => (fwR g t l c l.length).2
  | m + 1 => putWr (fwF g t l c m) g ((fwX g t l c l.length).getD (c - 1 - m) 0)
def ffS (g : Int) (t : List (List Int)) (l : List Int) (c m : Nat) : ByteArray := (fwF g t l c m).1
def ffP (g : Int) (t : List (List Int)) (l : List Int) (c m : Nat) : Int := (fwF g t l c m).2.1
def ffN (g : Int) (t : List (List Int)) (l : List Int) (c m : Nat) : Int := (fwF g t l c m).2.2
def fulS (g : Int) (p l : List Int) (c : Nat) : ByteArray := dS (ffS g (encL g p) l c c) (ffP g (encL g p) l c c) (ffN g (encL g p) l c c)
def wrtS (g : Int) (p l : List Int) (c : Nat) : ByteArray := cond (askE g p l c == 0) (fulS g p l c) ByteArray.empty
def cosN (g : Int) (p l : List Int) : Int := cond (askE g p l 1 == 0) (ruN g (encL g p) l + g) 0
def itBk (l : List Int) : List (List Value) := (List.range l.length).map fun k => [.int .i64 (nthI l k : Nat), .int .i64 (nthS l k)]
def liD (g : Int) (p : List Int) : Bool := decide (p.length ≤ 60) && (decide (g ≤ 9) || decide (12 < g))
end Go.Proofs.Ytbdgknebimdjoaa
/-
  Chapters 3 and 12: contracts and loops of a writer from the end, and of a list's stream. Conditions: none (definitions).
-/
namespace Go.Proofs.Ytbdgknebimdjoaa
open Go Go.RowKit
set_option linter.unusedVariables false
set_option linter.unusedSimpArgs false
set_option maxRecDepth 100000
/-! ### contracts -/
def sWhen : Spec where
  ι := Bool × Int
  dec l H := match l with
    | [.v (.bool b), .v (.int .i64 e)] => some ((b, e), [])
    | _ => none
  args := fun (b, e) => [.v (.bool b), .v (.int .i64 e)]
  out := fun (b, e) => .leaf (.v (.int .i64 (cond b e 0))) []
theorem sWhen_enc : ∀ l H n i ls, sWhen.dec l H = some (i, ls) → l = renL (rho ls n) (sWhen.args i) ∧ givenHp H ls = renH (rho ls n) (sWhen.hp i) := by
  intro l H n i ls h
  simp only [sWhen] at h
  repeat' split at h
  all_goals first
    | (cases h; done)
    | (cases h; exact ⟨rfl, rfl⟩)
def sFst : Spec where
  ι := List Int
  dec l H := match l with
    | [.dat (.ints .i64 l)] => some (l, [])
    | _ => none
  args := fun l => [.dat (.ints .i64 l)]
  pre := fun l => [⟨l.length ≤ 1000, inferInstance⟩]
  out := fun l => .leaf (.v (.int .i64 (fstE l))) []
theorem sFst_enc : ∀ l H n i ls, sFst.dec l H = some (i, ls) → l = renL (rho ls n) (sFst.args i) ∧ givenHp H ls = renH (rho ls n) (sFst.hp i) := by
  intro l H n i ls h
  simp only [sFst] at h
  repeat' split at h
  all_goals first
    | (cases h; done)
    | (cases h; exact ⟨rfl, rfl⟩)
def sChkW : Spec where
  ι := ByteArray × Int × Int
  dec l H := match l with
    | [.ag [.v (.string s), .v (.int .i64 p), .v (.int .i64 n)]] => some ((s, p, n), [])
    | _ => none
  args := fun (s, p, n) => [.ag [.v (.string s), .v (.int .i64 p), .v (.int .i64 n)]]
  pre := fun (s, p, n) => [⟨0 ≤ n, inferInstance⟩, ⟨n ≤ 7, inferInstance⟩, ⟨0 ≤ p, inferInstance⟩, ⟨p < 2 ^ n.toNat, inferInstance⟩, ⟨s.size ≤ 1048576, inferInstance⟩]
  out := fun (s, p, n) => .leaf (.v (.int .i64 0)) []
theorem sChkW_enc : ∀ l H n i ls, sChkW.dec l H = some (i, ls) → l = renL (rho ls n) (sChkW.args i) ∧ givenHp H ls = renH (rho ls n) (sChkW.hp i) := by
  intro l H n i ls h
  simp only [sChkW] at h
  repeat' split at h
  all_goals first
    | (cases h; done)
    | (cases h; exact ⟨rfl, rfl⟩)
def sOpenW : Spec where
  ι := ByteArray × Int × Int
  dec l H := match l with
    | [.ag [.v (.string s), .v (.int .i64 p), .v (.int .i64 n)]] => some ((s, p, n), [])
    | _ => none
  args := fun (s, p, n) => [.ag [.v (.string s), .v (.int .i64 p), .v (.int .i64 n)]]
  pre := fun (s, p, n) => [⟨0 ≤ p, inferInstance⟩, ⟨p ≤ 255, inferInstance⟩]
  out := fun (s, p, n) => .leaf (.p 2000 0 0) [(2000, .cells 148 [.v (.string s), .v (.int .u64 p), .v (.int .i64 n)])]
theorem sOpenW_enc : ∀ l H n i ls, sOpenW.dec l H = some (i, ls) → l = renL (rho ls n) (sOpenW.args i) ∧ givenHp H ls = renH (rho ls n) (sOpenW.hp i) := by
  intro l H n i ls h
  simp only [sOpenW] at h
  repeat' split at h
  all_goals first
    | (cases h; done)
    | (cases h; exact ⟨rfl, rfl⟩)
def sWput : Spec where
  ι := ByteArray × Int × Int × Int × Int
  own := true
  dec l H := match l with
    | [.p l0 0 0, .s l1 0 1 (some 1)] => match H l0 with
      | some (.cells 148 [.v (.string s), .v (.int .u64 p), .v (.int .i64 n)]) => match H l1 with
        | some (.cells 144 [.v (.int .u64 k), .v (.int .u64 v)]) => some ((s, p, n, k, v), [l0, l1])
        | _ => none
      | _ => none
    | _ => none
  args := fun (s, p, n, k, v) => [.p 0 0 0, .s 1 0 1 (some 1)]
  hp := fun (s, p, n, k, v) => [(0, .cells 148 [.v (.string s), .v (.int .u64 p), .v (.int .i64 n)]), (1, .cells 144 [.v (.int .u64 k), .v (.int .u64 v)])]
  pre := fun (s, p, n, k, v) => [⟨0 ≤ n, inferInstance⟩, ⟨n ≤ 7, inferInstance⟩, ⟨0 ≤ p, inferInstance⟩, ⟨p < 2 ^ n.toNat, inferInstance⟩, ⟨0 ≤ k, inferInstance⟩, ⟨k ≤ 32, inferInstance⟩, ⟨0 ≤ v, inferInstance⟩, ⟨v < 2 ^ k.toNat, inferInstance⟩, ⟨s.size ≤ 1048576, inferInstance⟩]
  out := fun (s, p, n, k, v) => .leaf (.tu []) [(0, .cells 148 [.v (.string (wS s p n k v)), .v (.int .u64 (wP p n k v)), .v (.int .i64 (wN n k))]), (1, .cells 144 [.v (.int .u64 k), .v (.int .u64 v)])]
theorem sWput_enc : ∀ l H n i ls, sWput.dec l H = some (i, ls) → l = renL (rho ls n) (sWput.args i) ∧ givenHp H ls = renH (rho ls n) (sWput.hp i) := by
  intro l H n i ls h
  simp only [sWput] at h
  repeat' split at h
  all_goals first
    | (cases h; done)
    | (cases h; exact ⟨rfl, rfl⟩)
    | (cases h; refine ⟨rfl, ?_⟩; simp only [givenHp, List.filterMap_cons, List.filterMap_nil, Option.map, *]; rfl)
def sPutW : Spec where
  ι := ByteArray × Int × Int × Int × Int
  dec l H := match l with
    | [.ag [.v (.string s), .v (.int .i64 p), .v (.int .i64 n)], .v (.int .i64 k), .v (.int .u64 v)] => some ((s, p, n, k, v), [])
    | _ => none
  args := fun (s, p, n, k, v) => [.ag [.v (.string s), .v (.int .i64 p), .v (.int .i64 n)], .v (.int .i64 k), .v (.int .u64 v)]
  pre := fun (s, p, n, k, v) => [⟨0 ≤ n, inferInstance⟩, ⟨n ≤ 7, inferInstance⟩, ⟨0 ≤ p, inferInstance⟩, ⟨p < 2 ^ n.toNat, inferInstance⟩, ⟨0 ≤ k, inferInstance⟩, ⟨k ≤ 32, inferInstance⟩, ⟨0 ≤ v, inferInstance⟩, ⟨v < 2 ^ k.toNat, inferInstance⟩, ⟨s.size ≤ 1000000, inferInstance⟩]
  out := fun (s, p, n, k, v) => .leaf (.tu [.ag [.v (.string (wS s p n k v)), .v (.int .i64 (wP p n k v)), .v (.int .i64 (wN n k))], .v (.int .i64 0)]) []
theorem sPutW_enc : ∀ l H n i ls, sPutW.dec l H = some (i, ls) → l = renL (rho ls n) (sPutW.args i) ∧ givenHp H ls = renH (rho ls n) (sPutW.hp i) := by
  intro l H n i ls h
  simp only [sPutW] at h
  repeat' split at h
  all_goals first
    | (cases h; done)
    | (cases h; exact ⟨rfl, rfl⟩)
def sDoneW : Spec where
  ι := ByteArray × Int × Int
  dec l H := match l with
    | [.ag [.v (.string s), .v (.int .i64 p), .v (.int .i64 n)]] => some ((s, p, n), [])
    | _ => none
  args := fun (s, p, n) => [.ag [.v (.string s), .v (.int .i64 p), .v (.int .i64 n)]]
  pre := fun (s, p, n) => [⟨0 ≤ n, inferInstance⟩, ⟨n ≤ 7, inferInstance⟩, ⟨0 ≤ p, inferInstance⟩, ⟨p < 2 ^ n.toNat, inferInstance⟩, ⟨s.size ≤ 1000000, inferInstance⟩]
  out := fun (s, p, n) => .leaf (.tu [.v (.string (dS s p n)), .v (.int .i64 0)]) []
theorem sDoneW_enc : ∀ l H n i ls, sDoneW.dec l H = some (i, ls) → l = renL (rho ls n) (sDoneW.args i) ∧ givenHp H ls = renH (rho ls n) (sDoneW.hp i) := by
  intro l H n i ls h
  simp only [sDoneW] at h
  repeat' split at h
  all_goals first
    | (cases h; done)
    | (cases h; exact ⟨rfl, rfl⟩)
def sBackw : Spec where
  ι := List Int
  dec l H := match l with
    | [.dat (.ints .i64 l)] => some (l, [])
    | _ => none
  args := fun l => [.dat (.ints .i64 l)]
  out := fun l => .leaf (.fn (.func 139) [] [.p 2000 0 0]) [(2000, .cells 22 [.dat (.ints .i64 l)])]
theorem sBackw_enc : ∀ l H n i ls, sBackw.dec l H = some (i, ls) → l = renL (rho ls n) (sBackw.args i) ∧ givenHp H ls = renH (rho ls n) (sBackw.hp i) := by
  intro l H n i ls h
  simp only [sBackw] at h
  repeat' split at h
  all_goals first
    | (cases h; done)
    | (cases h; exact ⟨rfl, rfl⟩)
/-! ### loops -/
def oWpB (s : ByteArray) (p n k v : Int) : LoopInv := { ι := Nat, p := fun j => j ≤ wM n k, tm := fun j => [(0, .p 0 0 0), (1, .s 1 0 1 none), (6, .o 5000)], hp := fun j => [(0, .cells 148 [.v (.string s), .v (.int .u64 (wX p n v / 256 ^ j)), .v (.int .i64 (n + k - 8 * (j : Nat)))]), (1, .cells 144 [.v (.int .u64 k), .v (.int .u64 v)]), (5000, .row 5 (.ints .u8 (wBytes s (wX p n v) j)))], μ := fun j => wM n k - j }
def oWput (s : ByteArray) (p n k v : Int) : Nat → Option LoopFam := fun i => cond (Nat.beq i 0) (some (.unr 2)) (cond (Nat.beq i 1) (some (.one (oWpB s p n k v))) none)
def oRpw (s : ByteArray) (p n k v : Int) : LoopInv := { ι := Nat, p := fun i => (i : Int) ≤ k, tm := fun i => [(1, .v (.int .i64 k)), (2, .v (.int .u64 v)), (3, .p 1000 0 0), (6, .p 1001 0 0), (9, .v (.int .i64 (i : Nat)))], hp := fun i => [(1000, .cells 101 [.v (.string (wS s p n i (lowV v i))), .v (.int .i64 (wP p n i (lowV v i))), .v (.int .i64 (wN n i))]), (1001, .cells 101 [.v (.string ByteArray.empty), .v (.int .i64 0), .v (.int .i64 0)])], μ := fun i => k.toNat - i }
def oFst (l : List Int) : LoopInv := { ι := Nat, p := fun i => i ≤ l.length ∧ fstE l = fstE (l.drop i), tm := fun i => [(3, .v (.int .i64 0)), (6, .dat (.ints .i64 l)), (7, .v (.int .i64 l.length)), (8, .v (.int .i64 (i : Nat)))], hp := fun i => [], μ := fun i => l.length - i }
def oBkw (l0 : Nat) (l : List Int) : LoopInvI := { ι := Nat, p := fun k => k ≤ l.length, tm := fun k => [(0, .v (.func (.yield l0) #[] #[])), (1, .p 0 0 0), (3, .v (.int .i64 ((l.length : Int) - 1 - (k : Nat))))], hp := fun k => [(0, .cells 22 [.dat (.ints .i64 l)])], μ := fun k => l.length - k, y := fun k => k }
def oBkwF (l0 : Nat) (l : List Int) : Nat → Option LoopFamI := fun k => cond (Nat.beq k 0) (some ⟨Unit, fun _ => oBkw l0 l⟩) none
/-! ### tables -/
def GFa : List (Nat × Ctr) := (107, sWhen.ctr) :: (105, sFst.ctr) :: (110, sChkW.ctr) :: (108, sOpenW.ctr) :: (109, sWput.ctr) :: (103, sBackw.ctr) :: []
def GFb : List (Nat × Ctr) := (106, sChkW.ctr) :: (79, sPutW.ctr) :: (80, sDoneW.ctr) :: GFa
def GFc : List (Nat × Ctr) := (104, sPutW.ctr) :: (77, sDoneW.ctr) :: GFb
/-! ### conditions
--%VC whenF ;; (b : Bool) (e : Int) ;; [] ;; fun _ => none ;; back.when ;; [.v (.bool b), .v (.int .i64 e)] ;; [] ;; (.v (.int .i64 (cond b e 0))) ;; []
--%VC fstF ;; (l : List Int) ;; [] ;; one (oFst l) ;; back.first ;; [.dat (.ints .i64 l)] ;; [] ;; (.v (.int .i64 (fstE l))) ;; []
--%VC rchkF ;; (s : ByteArray) (p n : Int) ;; [] ;; fun _ => none ;; ref03.Check ;; [.ag [.v (.string s), .v (.int .i64 p), .v (.int .i64 n)]] ;; [] ;; (.v (.int .i64 0)) ;; []
--%VC opnF ;; (s : ByteArray) (p n : Int) ;; [] ;; fun _ => none ;; back.opened ;; [.ag [.v (.string s), .v (.int .i64 p), .v (.int .i64 n)]] ;; [] ;; (.p 2000 0 0) ;; [(2000, .cells 148 [.v (.string s), .v (.int .u64 p), .v (.int .i64 n)])]
--%VC wputF ;; (s : ByteArray) (p n k v : Int) ;; [] ;; oWput s p n k v ;; (*back.writer).put ;; [.p 0 0 0, .s 1 0 1 (some 1)] ;; [(0, .cells 148 [.v (.string s), .v (.int .u64 p), .v (.int .i64 n)]), (1, .cells 144 [.v (.int .u64 k), .v (.int .u64 v)])] ;; (.tu []) ;; [(0, .cells 148 [.v (.string (wS s p n k v)), .v (.int .u64 (wP p n k v)), .v (.int .i64 (wN n k))]), (1, .cells 144 [.v (.int .u64 k), .v (.int .u64 v)])]
--%VC bkwF ;; (l : List Int) ;; [] ;; fun _ => none ;; slices.Backward[[]int,int] ;; [.dat (.ints .i64 l)] ;; [] ;; (.fn (.func 139) [] [.p 2000 0 0]) ;; [(2000, .cells 22 [.dat (.ints .i64 l)])]
--%VC chkF ;; (s : ByteArray) (p n : Int) ;; GFa ;; fun _ => none ;; back.Check ;; [.ag [.v (.string s), .v (.int .i64 p), .v (.int .i64 n)]] ;; [] ;; (.v (.int .i64 0)) ;; []
--%VC rpwF ;; (s : ByteArray) (p n k v : Int) ;; GFa ;; one (oRpw s p n k v) ;; ref03.Put ;; [.ag [.v (.string s), .v (.int .i64 p), .v (.int .i64 n)], .v (.int .i64 k), .v (.int .u64 v)] ;; [] ;; (.tu [.ag [.v (.string (wS s p n k v)), .v (.int .i64 (wP p n k v)), .v (.int .i64 (wN n k))], .v (.int .i64 0)]) ;; []
--%VC rdnF ;; (s : ByteArray) (p n : Int) ;; GFa ;; fun _ => none ;; ref03.Done ;; [.ag [.v (.string s), .v (.int .i64 p), .v (.int .i64 n)]] ;; [] ;; (.tu [.v (.string (dS s p n)), .v (.int .i64 0)]) ;; []
--%VC pwF ;; (s : ByteArray) (p n k v : Int) ;; GFb ;; fun _ => none ;; back.Put ;; [.ag [.v (.string s), .v (.int .i64 p), .v (.int .i64 n)], .v (.int .i64 k), .v (.int .u64 v)] ;; [] ;; (.tu [.ag [.v (.string (wS s p n k v)), .v (.int .i64 (wP p n k v)), .v (.int .i64 (wN n k))], .v (.int .i64 0)]) ;; []
--%VC dnF ;; (s : ByteArray) (p n : Int) ;; GFb ;; fun _ => none ;; back.Done ;; [.ag [.v (.string s), .v (.int .i64 p), .v (.int .i64 n)]] ;; [] ;; (.tu [.v (.string (dS s p n)), .v (.int .i64 0)]) ;; []
--%VCI bkwI ;; (l : List Int) ;; [] ;; oBkwF l0 l ;; slices.Backward[[]int,int]$1 ;; [.p 0 0 0] ;; [(0, .cells 22 [.dat (.ints .i64 l)])] ;; itBk l
-/
end Go.Proofs.Ytbdgknebimdjoaa
/-
  The conditions of the functions told in the text before, and that they are the executor's. Conditions: none.
-/
namespace Go.Proofs.Ytbdgknebimdjoaa
open Go Go.RowKit
set_option linter.unusedVariables false
set_option maxRecDepth 100000
def whenF_t (b : Bool) (e : Int) : Prop :=
 (b = true → e = bif b then e else (0 : Int)) ∧ (b = false → (0 : Int) = bif b then e else (0 : Int))
--end
theorem whenF_e (b : Bool) (e : Int) : whenF_t b e = vcG Try.prog (Gof []) (fun _ => none) Try.f107 [.v (.bool b), .v (.int .i64 e)] [] (.leaf ((.v (.int .i64 (cond b e 0)))) ([])) := by kernel_rfl
def fstF_t (l : List Int) : Prop :=
 (∃ (x0 : Nat), (x0 ≤ List.length l ∧ fstE l = fstE (List.drop x0 l)) ∧ (0 : Int) = (0 : Int) ∧ l = l ∧ (↑(List.length l) : Int) = (↑(List.length l) : Int) ∧ (0 : Int) = (↑x0 : Int)) ∧
 ∀ (x1 : Nat),
 x1 ≤ List.length l ∧ fstE l = fstE (List.drop x1 l) →
 (decide ((↑x1 : Int) < (↑(List.length l) : Int)) = true →
 (0 : Int) ≤ (↑x1 : Int) ∧
 (↑x1 : Int) < (↑(List.length l) : Int) ∧
 ((List.getD l (Int.toNat (↑x1 : Int)) (0 : Int) != (0 : Int)) = true → List.getD l (Int.toNat (↑x1 : Int)) (0 : Int) = fstE l) ∧
 ((List.getD l (Int.toNat (↑x1 : Int)) (0 : Int) != (0 : Int)) = false →
 ∃ (y2 : Nat),
 (y2 ≤ List.length l ∧ fstE l = fstE (List.drop y2 l)) ∧
 Nat.sub (List.length l) y2 < Nat.sub (List.length l) x1 ∧
 (0 : Int) = (0 : Int) ∧ l = l ∧ (↑(List.length l) : Int) = (↑(List.length l) : Int) ∧ IntKind.wrap IntKind.i64 ((↑x1 : Int) + (1 : Int)) = (↑y2 : Int))) ∧
 (decide ((↑x1 : Int) < (↑(List.length l) : Int)) = false → (0 : Int) = fstE l)
--end
theorem fstF_e (l : List Int) : fstF_t l = vcG Try.prog (Gof []) (one (oFst l)) Try.f105 [.dat (.ints .i64 l)] [] (.leaf ((.v (.int .i64 (fstE l)))) ([])) := by kernel_rfl
def rchkF_t (s : ByteArray) (p n : Int) : Prop :=
 (decide (n < (0 : Int)) = true → (10 : Int) = (0 : Int)) ∧
 (decide (n < (0 : Int)) = false →
 (decide (n > (7 : Int)) = true → (10 : Int) = (0 : Int)) ∧
 (decide (n > (7 : Int)) = false →
 (decide (p < (0 : Int)) = true → (10 : Int) = (0 : Int)) ∧
 (decide (p < (0 : Int)) = false →
 (0 : Int) ≤ IntKind.wrap IntKind.u64 (bits BinOp.and IntKind.i64 n (7 : Int)) ∧
 (decide (p ≥ IntKind.wrap IntKind.i64 ((1 : Int) * (2 : Int) ^ min (Int.toNat (IntKind.wrap IntKind.u64 (bits BinOp.and IntKind.i64 n (7 : Int)))) (IntKind.bits IntKind.i64))) = true →
 (10 : Int) = (0 : Int)) ∧
 (decide (p ≥ IntKind.wrap IntKind.i64 ((1 : Int) * (2 : Int) ^ min (Int.toNat (IntKind.wrap IntKind.u64 (bits BinOp.and IntKind.i64 n (7 : Int)))) (IntKind.bits IntKind.i64))) =
 false →
 (decide ((↑(ByteArray.size s) : Int) > (1048576 : Int)) = true → (10 : Int) = (0 : Int)) ∧
 (decide ((↑(ByteArray.size s) : Int) > (1048576 : Int)) = false → (0 : Int) = (0 : Int))))))
--end
theorem rchkF_e (s : ByteArray) (p n : Int) : rchkF_t s p n = vcG Try.prog (Gof []) (fun _ => none) Try.f110 [.ag [.v (.string s), .v (.int .i64 p), .v (.int .i64 n)]] [] (.leaf ((.v (.int .i64 0))) ([])) := by kernel_rfl
def opnF_t (s : ByteArray) (p n : Int) : Prop :=
 s = s ∧ IntKind.wrap IntKind.u64 p = p ∧ n = n
--end
theorem opnF_e (s : ByteArray) (p n : Int) : opnF_t s p n = vcG Try.prog (Gof []) (fun _ => none) Try.f108 [.ag [.v (.string s), .v (.int .i64 p), .v (.int .i64 n)]] [] (.leaf ((.p 2000 0 0)) ([(2000, .cells 148 [.v (.string s), .v (.int .u64 p), .v (.int .i64 n)])])) := by kernel_rfl
def wputF_t (s : ByteArray) (p n k v : Int) : Prop :=
 (decide ((0 : Int) < (↑(1 : Nat) : Int)) = true →
 (0 : Int) ≤ (0 : Int) ∧
 (0 : Int) < (↑(1 : Nat) : Int) ∧
 (0 : Int) ≤ (1 : Int) ∧
 (1 : Int) < (↑(2 : Nat) : Int) ∧
 (0 : Int) ≤ IntKind.wrap IntKind.u64 n ∧
 (0 : Int) ≤ (0 : Int) ∧
 (0 : Int) < (↑(2 : Nat) : Int) ∧
 (decide (IntKind.wrap IntKind.i64 ((0 : Int) + (1 : Int)) < (↑(1 : Nat) : Int)) = true →
 (0 : Int) ≤ IntKind.wrap IntKind.i64 ((0 : Int) + (1 : Int)) ∧ IntKind.wrap IntKind.i64 ((0 : Int) + (1 : Int)) < (↑(1 : Nat) : Int) ∧ False ∧ False) ∧
 (decide (IntKind.wrap IntKind.i64 ((0 : Int) + (1 : Int)) < (↑(1 : Nat) : Int)) = false →
 ByteArray.size s ≤ (9223372036854775807 : Nat) ∧
 (∃ (x0 : Nat),
 Nat.le x0 (wM n k) ∧
 (0 : Nat) = (0 : Nat) ∧
 (1 : Nat) = (1 : Nat) ∧
 ((none : Option Nat) = none ∨ some (1 : Nat) = none) ∧
 s = s ∧
 bits BinOp.or IntKind.u64 p (IntKind.wrap IntKind.u64 (v * (2 : Int) ^ min (Int.toNat (IntKind.wrap IntKind.u64 n)) (IntKind.bits IntKind.u64))) =
 wX p n v / (256 : Int) ^ x0 ∧
 IntKind.wrap IntKind.i64 (n + IntKind.wrap IntKind.i64 k) = n + k - (8 : Int) * (↑x0 : Int) ∧
 k = k ∧ v = v ∧ List.map (fun (b : UInt8) => (↑(UInt8.toNat b) : Int)) s.data.toList = wBytes s (wX p n v) x0) ∧
 ∀ (x1 : Nat),
 Nat.le x1 (wM n k) →
 (decide (n + k - (8 : Int) * (↑x1 : Int) ≥ (8 : Int)) = true →
 (List.length (wBytes s (wX p n v) x1) + (1 : Nat)) * (1 : Nat) ≤ (140737488355328 : Nat) ∧
 (0 : Int) ≤ (8 : Int) ∧
 ∃ (y2 : Nat),
 Nat.le y2 (wM n k) ∧
 Nat.sub (wM n k) y2 < Nat.sub (wM n k) x1 ∧
 (0 : Nat) = (0 : Nat) ∧
 (1 : Nat) = (1 : Nat) ∧
 ((none : Option Nat) = none ∨ (none : Option Nat) = none) ∧
 s = s ∧
 Int.fdiv (wX p n v / (256 : Int) ^ x1) ((2 : Int) ^ min (Int.toNat (8 : Int)) (IntKind.bits IntKind.u64)) = wX p n v / (256 : Int) ^ y2 ∧
 IntKind.wrap IntKind.i64 (n + k - (8 : Int) * (↑x1 : Int) - (8 : Int)) = n + k - (8 : Int) * (↑y2 : Int) ∧
 k = k ∧ v = v ∧ wBytes s (wX p n v) x1 ++ [IntKind.wrap IntKind.u8 (wX p n v / (256 : Int) ^ x1)] = wBytes s (wX p n v) y2) ∧
 (decide (n + k - (8 : Int) * (↑x1 : Int) ≥ (8 : Int)) = false →
 strOfNums (wBytes s (wX p n v) x1) = wS s p n k v ∧ wX p n v / (256 : Int) ^ x1 = wP p n k v ∧ n + k - (8 : Int) * (↑x1 : Int) = wN n k ∧ k = k ∧ v = v))) ∧
 (decide ((0 : Int) < (↑(1 : Nat) : Int)) = false →
 ByteArray.size s ≤ (9223372036854775807 : Nat) ∧
 (∃ (x3 : Nat),
 Nat.le x3 (wM n k) ∧
 (0 : Nat) = (0 : Nat) ∧
 (1 : Nat) = (1 : Nat) ∧
 ((none : Option Nat) = none ∨ some (1 : Nat) = none) ∧
 s = s ∧
 p = wX p n v / (256 : Int) ^ x3 ∧
 n = n + k - (8 : Int) * (↑x3 : Int) ∧ k = k ∧ v = v ∧ List.map (fun (b : UInt8) => (↑(UInt8.toNat b) : Int)) s.data.toList = wBytes s (wX p n v) x3) ∧
 ∀ (x4 : Nat),
 Nat.le x4 (wM n k) →
 (decide (n + k - (8 : Int) * (↑x4 : Int) ≥ (8 : Int)) = true →
 (List.length (wBytes s (wX p n v) x4) + (1 : Nat)) * (1 : Nat) ≤ (140737488355328 : Nat) ∧
 (0 : Int) ≤ (8 : Int) ∧
 ∃ (y5 : Nat),
 Nat.le y5 (wM n k) ∧
 Nat.sub (wM n k) y5 < Nat.sub (wM n k) x4 ∧
 (0 : Nat) = (0 : Nat) ∧
 (1 : Nat) = (1 : Nat) ∧
 ((none : Option Nat) = none ∨ (none : Option Nat) = none) ∧
 s = s ∧
 Int.fdiv (wX p n v / (256 : Int) ^ x4) ((2 : Int) ^ min (Int.toNat (8 : Int)) (IntKind.bits IntKind.u64)) = wX p n v / (256 : Int) ^ y5 ∧
 IntKind.wrap IntKind.i64 (n + k - (8 : Int) * (↑x4 : Int) - (8 : Int)) = n + k - (8 : Int) * (↑y5 : Int) ∧
 k = k ∧ v = v ∧ wBytes s (wX p n v) x4 ++ [IntKind.wrap IntKind.u8 (wX p n v / (256 : Int) ^ x4)] = wBytes s (wX p n v) y5) ∧
 (decide (n + k - (8 : Int) * (↑x4 : Int) ≥ (8 : Int)) = false →
 strOfNums (wBytes s (wX p n v) x4) = wS s p n k v ∧ wX p n v / (256 : Int) ^ x4 = wP p n k v ∧ n + k - (8 : Int) * (↑x4 : Int) = wN n k ∧ k = k ∧ v = v))
--end
theorem wputF_e (s : ByteArray) (p n k v : Int) : wputF_t s p n k v = vcG Try.prog (Gof []) (oWput s p n k v) Try.f109 [.p 0 0 0, .s 1 0 1 (some 1)] [(0, .cells 148 [.v (.string s), .v (.int .u64 p), .v (.int .i64 n)]), (1, .cells 144 [.v (.int .u64 k), .v (.int .u64 v)])] (.leaf ((.tu [])) ([(0, .cells 148 [.v (.string (wS s p n k v)), .v (.int .u64 (wP p n k v)), .v (.int .i64 (wN n k))]), (1, .cells 144 [.v (.int .u64 k), .v (.int .u64 v)])])) := by kernel_rfl
def bkwF_t (l : List Int) : Prop :=
 l = l
--end
theorem bkwF_e (l : List Int) : bkwF_t l = vcG Try.prog (Gof []) (fun _ => none) Try.f103 [.dat (.ints .i64 l)] [] (.leaf ((.fn (.func 139) [] [.p 2000 0 0])) ([(2000, .cells 22 [.dat (.ints .i64 l)])])) := by kernel_rfl
def chkF_t (s : ByteArray) (p n : Int) : Prop :=
 (decide (n < (0 : Int)) = true → False ∧ False) ∧
 (decide (n < (0 : Int)) = false →
 (decide (n > (7 : Int)) = true → False ∧ False) ∧
 (decide (n > (7 : Int)) = false →
 (decide (p < (0 : Int)) = true → False ∧ False) ∧
 (decide (p < (0 : Int)) = false →
 (0 : Int) ≤ IntKind.wrap IntKind.u64 (bits BinOp.and IntKind.i64 n (7 : Int)) ∧
 (decide (p ≥ IntKind.wrap IntKind.i64 ((1 : Int) * (2 : Int) ^ min (Int.toNat (IntKind.wrap IntKind.u64 (bits BinOp.and IntKind.i64 n (7 : Int)))) (IntKind.bits IntKind.i64))) = true →
 False ∧ False) ∧
 (decide (p ≥ IntKind.wrap IntKind.i64 ((1 : Int) * (2 : Int) ^ min (Int.toNat (IntKind.wrap IntKind.u64 (bits BinOp.and IntKind.i64 n (7 : Int)))) (IntKind.bits IntKind.i64))) =
 false →
 (bif decide ((↑(ByteArray.size s) : Int) > (1048576 : Int)) then (10 : Int) else (0 : Int)) = (0 : Int)))))
--end
theorem chkF_e (s : ByteArray) (p n : Int) : chkF_t s p n = vcG Try.prog (Gof GFa) (fun _ => none) Try.f106 [.ag [.v (.string s), .v (.int .i64 p), .v (.int .i64 n)]] [] (.leaf ((.v (.int .i64 0))) ([])) := by kernel_rfl
def rpwF_t (s : ByteArray) (p n k v : Int) : Prop :=
 (0 : Int) ≤ n ∧
 n ≤ (7 : Int) ∧
 (0 : Int) ≤ p ∧
 p < (2 : Int) ^ Int.toNat n ∧
 ByteArray.size s ≤ (1048576 : Nat) ∧
 (((0 : Int) != (0 : Int)) = true → ByteArray.empty = wS s p n k v ∧ (0 : Int) = wP p n k v ∧ (0 : Int) = wN n k ∧ (0 : Int) = (0 : Int)) ∧
 (((0 : Int) != (0 : Int)) = false →
 (decide (k < (0 : Int)) = true → ByteArray.empty = wS s p n k v ∧ (0 : Int) = wP p n k v ∧ (0 : Int) = wN n k ∧ (2 : Int) = (0 : Int)) ∧
 (decide (k < (0 : Int)) = false →
 (decide (k > (32 : Int)) = true → ByteArray.empty = wS s p n k v ∧ (0 : Int) = wP p n k v ∧ (0 : Int) = wN n k ∧ (2 : Int) = (0 : Int)) ∧
 (decide (k > (32 : Int)) = false →
 (0 : Int) ≤ IntKind.wrap IntKind.u64 k ∧
 (decide (v ≥ IntKind.wrap IntKind.u64 ((1 : Int) * (2 : Int) ^ min (Int.toNat (IntKind.wrap IntKind.u64 k)) (IntKind.bits IntKind.u64))) = true →
 ByteArray.empty = wS s p n k v ∧ (0 : Int) = wP p n k v ∧ (0 : Int) = wN n k ∧ (2 : Int) = (0 : Int)) ∧
 (decide (v ≥ IntKind.wrap IntKind.u64 ((1 : Int) * (2 : Int) ^ min (Int.toNat (IntKind.wrap IntKind.u64 k)) (IntKind.bits IntKind.u64))) = false →
 (∃ (x0 : Nat),
 Int.NonNeg (k - (↑x0 : Int)) ∧
 k = k ∧
 v = v ∧
 (0 : Int) = (↑x0 : Int) ∧
 s = wS s p n (↑x0 : Int) (lowV v x0) ∧
 p = wP p n (↑x0 : Int) (lowV v x0) ∧ n = wN n (↑x0 : Int) ∧ ByteArray.empty = ByteArray.empty ∧ (0 : Int) = (0 : Int) ∧ (0 : Int) = (0 : Int)) ∧
 ∀ (x1 : Nat),
 Int.NonNeg (k - (↑x1 : Int)) →
 (decide ((↑x1 : Int) < k) = true →
 (0 : Int) ≤ IntKind.wrap IntKind.u64 (↑x1 : Int) ∧
 (0 : Int) ≤ IntKind.wrap IntKind.u64 (wN n (↑x1 : Int)) ∧
 ((IntKind.wrap IntKind.i64 (wN n (↑x1 : Int) + (1 : Int)) == (8 : Int)) = true →
 ByteArray.size (wS s p n (↑x1 : Int) (lowV v x1)) +
 ByteArray.size
 (strOfNums
 [IntKind.wrap IntKind.u8
 (IntKind.wrap IntKind.i64
 (wP p n (↑x1 : Int) (lowV v x1) +
 IntKind.wrap IntKind.i64
 (IntKind.wrap IntKind.i64
 (bits BinOp.and IntKind.u64
 (Int.fdiv v ((2 : Int) ^ min (Int.toNat (IntKind.wrap IntKind.u64 (↑x1 : Int))) (IntKind.bits IntKind.u64))) (1 : Int)) *
 (2 : Int) ^ min (Int.toNat (IntKind.wrap IntKind.u64 (wN n (↑x1 : Int)))) (IntKind.bits IntKind.i64))))]) ≤
 (9223372036854775807 : Nat) ∧
 ∃ (y2 : Nat),
 Int.NonNeg (k - (↑y2 : Int)) ∧
 Nat.sub (Int.toNat k) y2 < Nat.sub (Int.toNat k) x1 ∧
 k = k ∧
 v = v ∧
 IntKind.wrap IntKind.i64 ((↑x1 : Int) + (1 : Int)) = (↑y2 : Int) ∧
 wS s p n (↑x1 : Int) (lowV v x1) ++
 strOfNums
 [IntKind.wrap IntKind.u8
 (IntKind.wrap IntKind.i64
 (wP p n (↑x1 : Int) (lowV v x1) +
 IntKind.wrap IntKind.i64
 (IntKind.wrap IntKind.i64
 (bits BinOp.and IntKind.u64
 (Int.fdiv v ((2 : Int) ^ min (Int.toNat (IntKind.wrap IntKind.u64 (↑x1 : Int))) (IntKind.bits IntKind.u64)))
 (1 : Int)) *
 (2 : Int) ^ min (Int.toNat (IntKind.wrap IntKind.u64 (wN n (↑x1 : Int)))) (IntKind.bits IntKind.i64))))] =
 wS s p n (↑y2 : Int) (lowV v y2) ∧
 (0 : Int) = wP p n (↑y2 : Int) (lowV v y2) ∧
 (0 : Int) = wN n (↑y2 : Int) ∧ ByteArray.empty = ByteArray.empty ∧ (0 : Int) = (0 : Int) ∧ (0 : Int) = (0 : Int)) ∧
 ((IntKind.wrap IntKind.i64 (wN n (↑x1 : Int) + (1 : Int)) == (8 : Int)) = false →
 ∃ (y3 : Nat),
 Int.NonNeg (k - (↑y3 : Int)) ∧
 Nat.sub (Int.toNat k) y3 < Nat.sub (Int.toNat k) x1 ∧
 k = k ∧
 v = v ∧
 IntKind.wrap IntKind.i64 ((↑x1 : Int) + (1 : Int)) = (↑y3 : Int) ∧
 wS s p n (↑x1 : Int) (lowV v x1) = wS s p n (↑y3 : Int) (lowV v y3) ∧
 IntKind.wrap IntKind.i64
 (wP p n (↑x1 : Int) (lowV v x1) +
 IntKind.wrap IntKind.i64
 (IntKind.wrap IntKind.i64
 (bits BinOp.and IntKind.u64
 (Int.fdiv v ((2 : Int) ^ min (Int.toNat (IntKind.wrap IntKind.u64 (↑x1 : Int))) (IntKind.bits IntKind.u64))) (1 : Int)) *
 (2 : Int) ^ min (Int.toNat (IntKind.wrap IntKind.u64 (wN n (↑x1 : Int)))) (IntKind.bits IntKind.i64))) =
 wP p n (↑y3 : Int) (lowV v y3) ∧
 IntKind.wrap IntKind.i64 (wN n (↑x1 : Int) + (1 : Int)) = wN n (↑y3 : Int) ∧
 ByteArray.empty = ByteArray.empty ∧ (0 : Int) = (0 : Int) ∧ (0 : Int) = (0 : Int))) ∧
 (decide ((↑x1 : Int) < k) = false →
 (decide ((↑(ByteArray.size (wS s p n (↑x1 : Int) (lowV v x1))) : Int) > (1048576 : Int)) = true →
 ByteArray.empty = wS s p n k v ∧ (0 : Int) = wP p n k v ∧ (0 : Int) = wN n k ∧ (4 : Int) = (0 : Int)) ∧
 (decide ((↑(ByteArray.size (wS s p n (↑x1 : Int) (lowV v x1))) : Int) > (1048576 : Int)) = false →
 wS s p n (↑x1 : Int) (lowV v x1) = wS s p n k v ∧ wP p n (↑x1 : Int) (lowV v x1) = wP p n k v ∧ wN n (↑x1 : Int) = wN n k ∧ (0 : Int) = (0 : Int)))))))
--end
theorem rpwF_e (s : ByteArray) (p n k v : Int) : rpwF_t s p n k v = vcG Try.prog (Gof GFa) (one (oRpw s p n k v)) Try.f79 [.ag [.v (.string s), .v (.int .i64 p), .v (.int .i64 n)], .v (.int .i64 k), .v (.int .u64 v)] [] (.leaf ((.tu [.ag [.v (.string (wS s p n k v)), .v (.int .i64 (wP p n k v)), .v (.int .i64 (wN n k))], .v (.int .i64 0)])) ([])) := by kernel_rfl
def rdnF_t (s : ByteArray) (p n : Int) : Prop :=
 (0 : Int) ≤ n ∧
 n ≤ (7 : Int) ∧
 (0 : Int) ≤ p ∧
 p < (2 : Int) ^ Int.toNat n ∧
 ByteArray.size s ≤ (1048576 : Nat) ∧
 (((0 : Int) != (0 : Int)) = true → ByteArray.empty = dS s p n ∧ (0 : Int) = (0 : Int)) ∧
 (((0 : Int) != (0 : Int)) = false →
 (((↑(ByteArray.size s) : Int) == (1048576 : Int)) = true → ByteArray.empty = dS s p n ∧ (4 : Int) = (0 : Int)) ∧
 (((↑(ByteArray.size s) : Int) == (1048576 : Int)) = false →
 (0 : Int) ≤ IntKind.wrap IntKind.u64 n ∧
 ByteArray.size s +
 ByteArray.size
 (strOfNums
 [IntKind.wrap IntKind.u8
 (IntKind.wrap IntKind.i64 (p + IntKind.wrap IntKind.i64 ((1 : Int) * (2 : Int) ^ min (Int.toNat (IntKind.wrap IntKind.u64 n)) (IntKind.bits IntKind.i64))))]) ≤
 (9223372036854775807 : Nat) ∧
 s ++
 strOfNums
 [IntKind.wrap IntKind.u8
 (IntKind.wrap IntKind.i64 (p + IntKind.wrap IntKind.i64 ((1 : Int) * (2 : Int) ^ min (Int.toNat (IntKind.wrap IntKind.u64 n)) (IntKind.bits IntKind.i64))))] =
 dS s p n ∧
 (0 : Int) = (0 : Int)))
--end
theorem rdnF_e (s : ByteArray) (p n : Int) : rdnF_t s p n = vcG Try.prog (Gof GFa) (fun _ => none) Try.f80 [.ag [.v (.string s), .v (.int .i64 p), .v (.int .i64 n)]] [] (.leaf ((.tu [.v (.string (dS s p n)), .v (.int .i64 0)])) ([])) := by kernel_rfl
def pwF_t (s : ByteArray) (p n k v : Int) : Prop :=
 (0 : Int) ≤ n ∧
 n ≤ (7 : Int) ∧
 (0 : Int) ≤ p ∧
 p < (2 : Int) ^ Int.toNat n ∧
 ByteArray.size s ≤ (1048576 : Nat) ∧
 (decide (k < (0 : Int)) = true → False ∧ (8 : Int) ≠ (0 : Int) ∧ False ∧ False ∧ False ∧ False) ∧
 (decide (k < (0 : Int)) = false →
 (decide (k > (32 : Int)) = true → False ∧ (8 : Int) ≠ (0 : Int) ∧ False ∧ False ∧ False ∧ False) ∧
 (decide (k > (32 : Int)) = false →
 (0 : Int) ≤ IntKind.wrap IntKind.u64 (bits BinOp.and IntKind.i64 k (63 : Int)) ∧
 (8 : Int) ≠ (0 : Int) ∧
 List.length
 [(0 : Int),
 bif Int.fdiv v ((2 : Int) ^ min (Int.toNat (IntKind.wrap IntKind.u64 (bits BinOp.and IntKind.i64 k (63 : Int)))) (IntKind.bits IntKind.u64)) != (0 : Int) then (2 : Int)
 else (0 : Int),
 bif
 decide
 (IntKind.wrap IntKind.i64 ((↑(ByteArray.size s) : Int) + IntKind.wrap IntKind.i64 (Int.tdiv (IntKind.wrap IntKind.i64 (n + k)) (8 : Int))) > (1048576 : Int)) then
 (4 : Int)
 else (0 : Int)] ≤
 (1000 : Nat) ∧
 ((fstE
 [(0 : Int),
 bif Int.fdiv v ((2 : Int) ^ min (Int.toNat (IntKind.wrap IntKind.u64 (bits BinOp.and IntKind.i64 k (63 : Int)))) (IntKind.bits IntKind.u64)) != (0 : Int) then
 (2 : Int)
 else (0 : Int),
 bif
 decide
 (IntKind.wrap IntKind.i64 ((↑(ByteArray.size s) : Int) + IntKind.wrap IntKind.i64 (Int.tdiv (IntKind.wrap IntKind.i64 (n + k)) (8 : Int))) >
 (1048576 : Int)) then
 (4 : Int)
 else (0 : Int)] !=
 (0 : Int)) =
 true →
 ByteArray.empty = wS s p n k v ∧
 (0 : Int) = wP p n k v ∧
 (0 : Int) = wN n k ∧
 fstE
 [(0 : Int),
 bif Int.fdiv v ((2 : Int) ^ min (Int.toNat (IntKind.wrap IntKind.u64 (bits BinOp.and IntKind.i64 k (63 : Int)))) (IntKind.bits IntKind.u64)) != (0 : Int) then
 (2 : Int)
 else (0 : Int),
 bif
 decide
 (IntKind.wrap IntKind.i64 ((↑(ByteArray.size s) : Int) + IntKind.wrap IntKind.i64 (Int.tdiv (IntKind.wrap IntKind.i64 (n + k)) (8 : Int))) >
 (1048576 : Int)) then
 (4 : Int)
 else (0 : Int)] =
 (0 : Int)) ∧
 ((fstE
 [(0 : Int),
 bif Int.fdiv v ((2 : Int) ^ min (Int.toNat (IntKind.wrap IntKind.u64 (bits BinOp.and IntKind.i64 k (63 : Int)))) (IntKind.bits IntKind.u64)) != (0 : Int) then
 (2 : Int)
 else (0 : Int),
 bif
 decide
 (IntKind.wrap IntKind.i64 ((↑(ByteArray.size s) : Int) + IntKind.wrap IntKind.i64 (Int.tdiv (IntKind.wrap IntKind.i64 (n + k)) (8 : Int))) >
 (1048576 : Int)) then
 (4 : Int)
 else (0 : Int)] !=
 (0 : Int)) =
 false →
 (0 : Int) ≤ p ∧
 p ≤ (255 : Int) ∧
 (0 : Int) ≤ n ∧
 n ≤ (7 : Int) ∧
 (0 : Int) ≤ p ∧
 p < (2 : Int) ^ Int.toNat n ∧
 (0 : Int) ≤ IntKind.wrap IntKind.u64 k ∧
 IntKind.wrap IntKind.u64 k ≤ (32 : Int) ∧
 (0 : Int) ≤ v ∧
 v < (2 : Int) ^ Int.toNat (IntKind.wrap IntKind.u64 k) ∧
 ByteArray.size s ≤ (1048576 : Nat) ∧
 wS s p n (IntKind.wrap IntKind.u64 k) v = wS s p n k v ∧
 IntKind.wrap IntKind.i64 (wP p n (IntKind.wrap IntKind.u64 k) v) = wP p n k v ∧
 wN n (IntKind.wrap IntKind.u64 k) = wN n k ∧ (0 : Int) = (0 : Int))))
--end
theorem pwF_e (s : ByteArray) (p n k v : Int) : pwF_t s p n k v = vcG Try.prog (Gof GFb) (fun _ => none) Try.f104 [.ag [.v (.string s), .v (.int .i64 p), .v (.int .i64 n)], .v (.int .i64 k), .v (.int .u64 v)] [] (.leaf ((.tu [.ag [.v (.string (wS s p n k v)), .v (.int .i64 (wP p n k v)), .v (.int .i64 (wN n k))], .v (.int .i64 0)])) ([])) := by kernel_rfl
def dnF_t (s : ByteArray) (p n : Int) : Prop :=
 (0 : Int) ≤ n ∧
 n ≤ (7 : Int) ∧
 (0 : Int) ≤ p ∧
 p < (2 : Int) ^ Int.toNat n ∧
 ByteArray.size s ≤ (1048576 : Nat) ∧
 List.length [(0 : Int), bif decide (IntKind.wrap IntKind.i64 ((↑(ByteArray.size s) : Int) + (1 : Int)) > (1048576 : Int)) then (4 : Int) else (0 : Int)] ≤ (1000 : Nat) ∧
 ((fstE [(0 : Int), bif decide (IntKind.wrap IntKind.i64 ((↑(ByteArray.size s) : Int) + (1 : Int)) > (1048576 : Int)) then (4 : Int) else (0 : Int)] != (0 : Int)) = true →
 ByteArray.empty = dS s p n ∧
 fstE [(0 : Int), bif decide (IntKind.wrap IntKind.i64 ((↑(ByteArray.size s) : Int) + (1 : Int)) > (1048576 : Int)) then (4 : Int) else (0 : Int)] = (0 : Int)) ∧
 ((fstE [(0 : Int), bif decide (IntKind.wrap IntKind.i64 ((↑(ByteArray.size s) : Int) + (1 : Int)) > (1048576 : Int)) then (4 : Int) else (0 : Int)] != (0 : Int)) = false →
 (0 : Int) ≤ p ∧
 p ≤ (255 : Int) ∧
 (0 : Int) ≤ n ∧
 n ≤ (7 : Int) ∧
 (0 : Int) ≤ p ∧
 p < (2 : Int) ^ Int.toNat n ∧
 (0 : Int) ≤ IntKind.wrap IntKind.u64 (IntKind.wrap IntKind.i64 ((8 : Int) - n)) ∧
 IntKind.wrap IntKind.u64 (IntKind.wrap IntKind.i64 ((8 : Int) - n)) ≤ (32 : Int) ∧
 (0 : Int) ≤ (1 : Int) ∧
 (1 : Int) < (2 : Int) ^ Int.toNat (IntKind.wrap IntKind.u64 (IntKind.wrap IntKind.i64 ((8 : Int) - n))) ∧
 ByteArray.size s ≤ (1048576 : Nat) ∧ wS s p n (IntKind.wrap IntKind.u64 (IntKind.wrap IntKind.i64 ((8 : Int) - n))) (1 : Int) = dS s p n ∧ (0 : Int) = (0 : Int))
--end
theorem dnF_e (s : ByteArray) (p n : Int) : dnF_t s p n = vcG Try.prog (Gof GFb) (fun _ => none) Try.f77 [.ag [.v (.string s), .v (.int .i64 p), .v (.int .i64 n)]] [] (.leaf ((.tu [.v (.string (dS s p n)), .v (.int .i64 0)])) ([])) := by kernel_rfl
def bkwI_t (l : List Int) (l0 : Nat) : Prop :=
 ∃ (g0 : Unit),
 ∃ (x1 : Nat),
 Nat.le x1 (List.length l) ∧
 ((0 : Nat), true) = (x1, true) ∧
 (Value.func (Fn.yield l0) #[] #[] = Value.func (Fn.yield l0) #[] #[] ∧
 IntKind.wrap IntKind.i64 ((↑(List.length l) : Int) - (1 : Int)) = (↑(List.length l) : Int) - (1 : Int) - (↑x1 : Int) ∧ l = l) ∧
 ∀ (x2 : Nat),
 Nat.le x2 (List.length l) →
 (decide ((↑(List.length l) : Int) - (1 : Int) - (↑x2 : Int) ≥ (0 : Int)) = true →
 (0 : Int) ≤ (↑(List.length l) : Int) - (1 : Int) - (↑x2 : Int) ∧
 (↑(List.length l) : Int) - (1 : Int) - (↑x2 : Int) < (↑(List.length l) : Int) ∧
 l0 = l0 ∧
 (itBk l)[x2]? =
 some
 [Value.int IntKind.i64 ((↑(List.length l) : Int) - (1 : Int) - (↑x2 : Int)),
 Value.int IntKind.i64 (List.getD l (Int.toNat ((↑(List.length l) : Int) - (1 : Int) - (↑x2 : Int))) (0 : Int))] ∧
 (∃ (y3 : Nat),
 Nat.le y3 (List.length l) ∧
 (x2 + (1 : Nat), true) = (y3, true) ∧
 Nat.sub (List.length l) y3 < Nat.sub (List.length l) x2 ∧
 Value.func (Fn.yield l0) #[] #[] = Value.func (Fn.yield l0) #[] #[] ∧
 IntKind.wrap IntKind.i64 ((↑(List.length l) : Int) - (1 : Int) - (↑x2 : Int) - (1 : Int)) = (↑(List.length l) : Int) - (1 : Int) - (↑y3 : Int) ∧ l = l) ∧
 True) ∧
 (decide ((↑(List.length l) : Int) - (1 : Int) - (↑x2 : Int) ≥ (0 : Int)) = false → x2 = List.length (itBk l))
--end
theorem bkwI_e (l : List Int) (l0 : Nat) : bkwI_t l l0 = vcFI Try.prog (Gof []) l0 (itBk l) (oBkwF l0 l) Try.f139 [.p 0 0 0] [(0, .cells 22 [.dat (.ints .i64 l)])]  := by kernel_rfl
end Go.Proofs.Ytbdgknebimdjoaa
/-
  Chapter 3: bytes of a writer from the end; conditions that hold. Conditions: each theorem's own.
-/
namespace Go.Proofs.Ytbdgknebimdjoaa
open Go Go.RowKit
set_option linter.unusedVariables false
set_option linter.unusedSimpArgs false
set_option maxRecDepth 100000
theorem str_data (xs : List Int) : (strOfNums xs).data = (xs.map fun n => UInt8.ofNat n.toNat).toArray := rfl
theorem str_app (a b : List Int) : strOfNums (a ++ b) = strOfNums a ++ strOfNums b := by
  apply ByteArray.ext
  rw [ByteArray.data_append]
  simp [str_data]
theorem str_nil (s : ByteArray) : s ++ strOfNums [] = s := by
  apply ByteArray.ext
  rw [ByteArray.data_append]
  simp [str_data]
theorem str_bytes (s : ByteArray) : strOfNums (bytesN s) = s := by
  apply ByteArray.ext
  rw [str_data]
  unfold bytesN
  rw [List.map_map]
  have e : ((fun n : Int => UInt8.ofNat n.toNat) ∘ fun b : UInt8 => (b.toNat : Int)) = id := by
    funext b
    simp
  rw [e, List.map_id, Array.toArray_toList]
theorem app_assoc (a b c : ByteArray) : a ++ b ++ c = a ++ (b ++ c) := by
  apply ByteArray.ext
  simp only [ByteArray.data_append, Array.append_assoc]
theorem app_size (a b : ByteArray) : (a ++ b).size = a.size + b.size := by
  show (a ++ b).data.size = _
  rw [ByteArray.data_append, Array.size_append]
  rfl
theorem lowB_len : ∀ (m : Nat) (x : Int), (lowB m x).length = m
  | 0, _ => rfl
  | m + 1, x => by simp [lowB, lowB_len m]
theorem lowB_snoc : ∀ (m : Nat) (x : Int), lowB (m + 1) x = lowB m x ++ [x / 256 ^ m % 256]
  | 0, x => by simp [lowB]
  | m + 1, x => by
    have ih := lowB_snoc m (x / 256)
    have e : x / 256 / 256 ^ m = x / 256 ^ (m + 1) := by
      rw [Int.pow_succ, Int.mul_comm, Int.ediv_ediv_of_nonneg (by omega)]
    rw [show lowB (m + 1 + 1) x = x % 256 :: lowB (m + 1) (x / 256) from rfl, ih, e]
    rfl
theorem wS_str (s : ByteArray) (p n k v : Int) : strOfNums (wBytes s (wX p n v) (wM n k)) = wS s p n k v := by
  unfold wBytes wS
  rw [str_app, str_bytes]
theorem whenF_v (b : Bool) (e : Int) : whenF_t b e := by
  unfold whenF_t
  exact ⟨fun h => by rw [h]; rfl, fun h => by rw [h]; rfl⟩
theorem fst_at {l : List Int} {i : Nat} (h : i < l.length) : fstE (l.drop i) = cond (l.getD i 0 == 0) (fstE (l.drop (i + 1))) (l.getD i 0) := by
  rw [drop_at h]
  rfl
theorem fstF_v (l : List Int) (h0 : l.length ≤ 1000) : fstF_t l := by
  unfold fstF_t
  refine ⟨⟨0, ⟨by omega, rfl⟩, (by first | rfl | trivial), (by first | rfl | trivial), (by first | rfl | trivial), rfl⟩, fun i ⟨hi, he⟩ => ⟨fun hlt => ?_, fun hge => ?_⟩⟩
  · have hlt : i < l.length := by simpa using hlt
    rw [fst_at hlt] at he
    simp only [toNat_cast]
    refine ⟨by omega, by omega, fun hn => ?_, fun hn => ⟨i + 1, ⟨by omega, ?_⟩, by rw [Nat.sub_eq, Nat.sub_eq]; omega, (by first | rfl | trivial), (by first | rfl | trivial), (by first | rfl | trivial), by rw [wr (by omega) (by omega)]; rfl⟩⟩
    · rw [he, ne0 hn]; rfl
    · rw [he, beq0 (eq0 hn)]; rfl
  · have : i = l.length := by simp only [decide_eq_false_iff_not] at hge; omega
    subst this
    rw [List.drop_length] at he
    rw [he]
    rfl
theorem opnF_v (s : ByteArray) (p n : Int) (h0 : 0 ≤ p) (h1 : p ≤ 255) : opnF_t s p n := ⟨rfl, wru (by omega) (by omega), rfl⟩
theorem bkwF_v (l : List Int) : bkwF_t l := rfl
theorem bkwI_v (l : List Int) (h0 : l.length ≤ 4294967296) (l0 : Nat) : bkwI_t l l0 := by
  unfold bkwI_t
  have hl : (itBk l).length = l.length := by simp [itBk]
  refine ⟨(), 0, Nat.zero_le _, rfl, ⟨rfl, by rw [wr (by omega) (by omega)]; simp, rfl⟩, fun k hk => ⟨fun hlt => ?_, fun hge => ?_⟩⟩
  · have hlt : (l.length : Int) - 1 - k ≥ 0 := by simpa using hlt
    have e1 : ((l.length : Int) - 1 - k).toNat = nthI l k := by unfold nthI; omega
    have e2 : (l.length : Int) - 1 - k = (nthI l k : Nat) := by unfold nthI; omega
    rw [nle] at hk
    refine ⟨by omega, by omega, rfl, ?_, ⟨k + 1, by rw [nle]; omega, rfl, by rw [Nat.sub_eq, Nat.sub_eq]; omega, rfl, ?_, rfl⟩, trivial⟩
    · rw [e1, e2]
      unfold itBk nthS
      rw [List.getElem?_map, List.getElem?_range (by omega)]
      rfl
    · rw [wr (by omega) (by omega)]; push_cast; omega
  · have hge : ¬ (l.length : Int) - 1 - k ≥ 0 := by simpa using hge
    rw [nle] at hk
    rw [hl]
    omega
theorem nn7 {n : Int} (h0 : 0 ≤ n) (h1 : n ≤ 7) : (2 : Int) ^ n.toNat ≤ 128 := by
  have := pow_mono (show n.toNat ≤ 7 by omega)
  simpa using this
theorem and7 {n : Int} (h0 : 0 ≤ n) (h1 : n ≤ 7) : bits .and .i64 n 7 = n := by
  obtain ⟨a, rfl⟩ := Int.eq_ofNat_of_zero_le h0
  have h := and_pow64 a 3 (by omega) (by omega)
  rw [show (2 : Int) ^ 3 - 1 = 7 by decide] at h
  rw [h, Nat.mod_eq_of_lt (by omega)]
theorem one_shl {n : Int} (h0 : 0 ≤ n) (h1 : n ≤ 7) : IntKind.wrap IntKind.i64 ((1 : Int) * (2 : Int) ^ min (Int.toNat (IntKind.wrap IntKind.u64 n)) (IntKind.bits IntKind.i64)) = 2 ^ n.toNat := by
  rw [wru (by omega) (by omega), b64, Nat.min_eq_left (by omega), Int.one_mul]
  have := nn7 h0 h1
  have := pow_pos' n.toNat
  exact wr (by omega) (by omega)
theorem rchkF_v (s : ByteArray) (p n : Int) (h0 : 0 ≤ n) (h1 : n ≤ 7) (h2 : 0 ≤ p) (h3 : p < 2 ^ n.toNat) (h4 : s.size ≤ 1048576) : rchkF_t s p n := by
  unfold rchkF_t
  rw [and7 h0 h1, one_shl h0 h1, wru (show 0 ≤ n by omega) (by omega)]
  refine ⟨fun h => ?_, fun _ => ⟨fun h => ?_, fun _ => ⟨fun h => ?_, fun _ => ⟨h0, fun h => ?_, fun _ => ⟨fun h => ?_, fun _ => rfl⟩⟩⟩⟩⟩ <;> (simp only [gt_iff_lt, ge_iff_le, decide_eq_true_eq] at h; omega)
theorem chkF_v (s : ByteArray) (p n : Int) (h0 : 0 ≤ n) (h1 : n ≤ 7) (h2 : 0 ≤ p) (h3 : p < 2 ^ n.toNat) (h4 : s.size ≤ 1048576) : chkF_t s p n := by
  unfold chkF_t
  rw [and7 h0 h1, one_shl h0 h1, wru (show 0 ≤ n by omega) (by omega), decide_eq_false (show ¬ (s.size : Int) > 1048576 by omega)]
  refine ⟨fun h => ?_, fun _ => ⟨fun h => ?_, fun _ => ⟨fun h => ?_, fun _ => ⟨h0, fun h => ?_, fun _ => rfl⟩⟩⟩⟩ <;> (simp only [gt_iff_lt, ge_iff_le, decide_eq_true_eq] at h; omega)
theorem whenF_sound : Sound Try.prog 107 sWhen.ctr := sWhen.sound (by kernel_rfl) sWhen_enc fun ⟨b, e⟩ hc => by
  exact satG AllOk.nil mixed Try.func107 (whenF_e b e) (whenF_v b e)
theorem fstF_sound : Sound Try.prog 105 sFst.ctr := sFst.sound (by kernel_rfl) sFst_enc fun l hc => by
  have h0 := hc _ (.head _)
  exact satG AllOk.nil mixed Try.func105 (fstF_e l) (fstF_v l h0)
theorem rchkF_sound : Sound Try.prog 110 sChkW.ctr := sChkW.sound (by kernel_rfl) sChkW_enc fun ⟨s, p, n⟩ hc => by
  have h0 := hc _ (.head _)
  have h1 := hc _ (.tail _ (.head _))
  have h2 := hc _ (.tail _ (.tail _ (.head _)))
  have h3 := hc _ (.tail _ (.tail _ (.tail _ (.head _))))
  have h4 := hc _ (.tail _ (.tail _ (.tail _ (.tail _ (.head _)))))
  exact satG AllOk.nil mixed Try.func110 (rchkF_e s p n) (rchkF_v s p n h0 h1 h2 h3 h4)
theorem opnF_sound : Sound Try.prog 108 sOpenW.ctr := sOpenW.sound (by kernel_rfl) sOpenW_enc fun ⟨s, p, n⟩ hc => by
  have h0 := hc _ (.head _)
  have h1 := hc _ (.tail _ (.head _))
  exact satG AllOk.nil mixed Try.func108 (opnF_e s p n) (opnF_v s p n h0 h1)
theorem bkwF_sound : Sound Try.prog 103 sBackw.ctr := sBackw.sound (by kernel_rfl) sBackw_enc fun l hc => by
  exact satG AllOk.nil mixed Try.func103 (bkwF_e l) (bkwF_v l)
end Go.Proofs.Ytbdgknebimdjoaa
/-
  Chapter 3: a writer from the end: what is put. Conditions: each theorem's own.
-/
namespace Go.Proofs.Ytbdgknebimdjoaa
open Go Go.RowKit
set_option linter.unusedVariables false
set_option linter.unusedSimpArgs false
set_option maxRecDepth 100000
theorem or_u64 (p v n : Nat) (hp : p < 2 ^ n) (hX : p + v * 2 ^ n < 18446744073709551616) : bits .or .u64 (p : Int) ((v * 2 ^ n : Nat) : Int) = ((p + v * 2 ^ n : Nat) : Int) := by
  have hx : ∀ a : Nat, a < 18446744073709551616 → (BitVec.ofInt 64 (a : Int)).toNat = a := fun a ha => by
    rw [BitVec.ofInt_natCast, BitVec.toNat_ofNat]; exact Nat.mod_eq_of_lt (by omega)
  show IntKind.u64.wrap ((BitVec.ofInt 64 (p : Int) ||| BitVec.ofInt 64 ((v * 2 ^ n : Nat) : Int)).toNat : Int) = _
  rw [BitVec.toNat_or, hx p (by omega), hx _ (by omega), Nat.or_comm, Nat.mul_comm v (2 ^ n), ← Nat.two_pow_add_eq_or_of_lt hp]
  rw [Nat.mul_comm] at hX
  generalize 2 ^ n * v = y at hX ⊢
  rw [IntKind.wrap_u64]
  omega
/-- the numbers of a put -/
structure PutN (p n k v : Int) : Prop where
  n0 : 0 ≤ n
  n7 : n ≤ 7
  p0 : 0 ≤ p
  p1 : p < 2 ^ n.toNat
  k0 : 0 ≤ k
  k1 : k ≤ 32
  v0 : 0 ≤ v
  v1 : v < 2 ^ k.toNat
theorem pow256 (m : Nat) : (256 : Int) ^ m = 2 ^ (8 * m) := by
  rw [Int.pow_mul]; rfl
theorem PutN.X {p n k v : Int} (h : PutN p n k v) : 0 ≤ wX p n v ∧ wX p n v < 2 ^ (n + k).toNat ∧ wX p n v < 1099511627776 := by
  obtain ⟨n0, n7, p0, p1, k0, k1, v0, v1⟩ := h
  have h1 := nn7 n0 n7
  have h2 := pow_pos' n.toNat
  have h3 : (2 : Int) ^ k.toNat ≤ 4294967296 := by
    have := pow_mono (show k.toNat ≤ 32 by omega)
    simpa using this
  have e : (n + k).toNat = n.toNat + k.toNat := by omega
  have h4 : 0 ≤ v * 2 ^ n.toNat := Int.mul_nonneg v0 (by omega)
  have h5 : (v + 1) * 2 ^ n.toNat ≤ 2 ^ k.toNat * 2 ^ n.toNat := Int.mul_le_mul_of_nonneg_right (by omega) (by omega)
  have h6 : (2 : Int) ^ k.toNat * 2 ^ n.toNat ≤ 4294967296 * 128 := Int.mul_le_mul h3 h1 (by omega) (by omega)
  rw [Int.add_mul, Int.one_mul] at h5
  unfold wX
  rw [e, Int.pow_add, Int.mul_comm ((2 : Int) ^ n.toNat)]
  exact ⟨by omega, by omega, by omega⟩
theorem wM_eq {n k : Int} (h0 : 0 ≤ n) (h1 : 0 ≤ k) : n + k = 8 * (wM n k : Int) + wN n k ∧ 0 ≤ wN n k ∧ wN n k ≤ 7 := by
  unfold wM wN
  omega
/-- what is left is a part again -/
theorem PutN.P {p n k v : Int} (h : PutN p n k v) : 0 ≤ wP p n k v ∧ wP p n k v < 2 ^ (wN n k).toNat := by
  obtain ⟨x0, x1, _⟩ := h.X
  obtain ⟨e, r0, r1⟩ := wM_eq h.n0 h.k0
  unfold wP
  have hp : (0 : Int) < 256 ^ wM n k := by rw [pow256]; exact pow_pos' _
  refine ⟨Int.ediv_nonneg x0 (by omega), Int.ediv_lt_of_lt_mul hp ?_⟩
  rw [pow256, ← Int.pow_add]
  have : (wN n k).toNat + 8 * wM n k = (n + k).toNat := by omega
  rw [this]
  exact x1
theorem bytes_len (s : ByteArray) : (bytesN s).length = s.size := by unfold bytesN; rw [List.length_map]; rfl
theorem wrap8 {x : Int} : IntKind.wrap IntKind.u8 x = x % 256 := rfl
theorem div_step (x : Int) (j : Nat) : Int.fdiv (x / (256 : Int) ^ j) ((2 : Int) ^ min (Int.toNat (8 : Int)) (IntKind.bits IntKind.u64)) = x / (256 : Int) ^ (j + 1) := by
  rw [show min (Int.toNat (8 : Int)) (IntKind.bits IntKind.u64) = 8 from rfl, show (2 : Int) ^ 8 = 256 from rfl, fdivp (by decide), Int.pow_succ, ← Int.ediv_ediv_of_nonneg (by rw [pow256]; exact Int.le_of_lt (pow_pos' (8 * j)))]
theorem wputF_v (s : ByteArray) (p n k v : Int) (h : PutN p n k v) (hs : s.size ≤ 1048576) : wputF_t s p n k v := by
  obtain ⟨x0, x1, x2⟩ := h.X
  obtain ⟨e, r0, r1⟩ := wM_eq h.n0 h.k0
  obtain ⟨n0, n7, p0, p1, k0, k1, v0, v1⟩ := h
  have e1 : IntKind.wrap IntKind.i64 ((0 : Int) + (1 : Int)) = 1 := by rw [wr (by omega) (by omega)]; rfl
  have en : IntKind.wrap IntKind.u64 n = n := wru (by omega) (by omega)
  have ek : IntKind.wrap IntKind.i64 k = k := wr (by omega) (by omega)
  have eor : bits BinOp.or IntKind.u64 p (IntKind.wrap IntKind.u64 (v * (2 : Int) ^ min (Int.toNat n) (IntKind.bits IntKind.u64))) = wX p n v := by
    obtain ⟨a, rfl⟩ := Int.eq_ofNat_of_zero_le p0
    obtain ⟨b, rfl⟩ := Int.eq_ofNat_of_zero_le v0
    rw [bu64, Nat.min_eq_left (by omega)]
    unfold wX at x0 x1 x2 ⊢
    have hv : 0 ≤ (b : Int) * 2 ^ n.toNat := Int.mul_nonneg (by omega) (Int.le_of_lt (pow_pos' _))
    rw [wru hv (by omega)]
    have ep : ((b : Int) * 2 ^ n.toNat) = ((b * 2 ^ n.toNat : Nat) : Int) := by push_cast; rfl
    rw [ep] at x2 ⊢
    rw [or_u64 a b n.toNat (by have := p1; rw [pow_cast] at this; omega) (by omega)]
    omega
  unfold wputF_t
  rw [e1, en, ek, eor]
  have key : ∀ x1 : Nat, Nat.le x1 (wM n k) → _ := fun x1 hx => hx
  refine ⟨fun _ => ⟨Int.le_refl _, by decide, by omega, by decide, n0, Int.le_refl _, by decide, fun hb => by simp at hb, fun _ => ⟨by omega, ⟨0, Nat.zero_le _, rfl, rfl, .inl rfl, rfl, by rw [Int.pow_zero, Int.ediv_one], by rw [wr (by omega) (by omega)]; simp, rfl, rfl, by simp [wBytes, lowB, bytesN]⟩, fun j hj => ⟨fun hlt => ?_, fun hge => ?_⟩⟩⟩, fun hb => by simp at hb⟩
  · rw [nle] at hj
    simp only [ge_iff_le, decide_eq_true_eq] at hlt
    refine ⟨?_, by omega, j + 1, by rw [nle]; omega, by rw [Nat.sub_eq, Nat.sub_eq]; omega, rfl, rfl, .inl rfl, rfl, div_step _ _, by rw [wr (by omega) (by omega)]; push_cast; omega, rfl, rfl, ?_⟩
    · unfold wBytes
      rw [List.length_append, bytes_len, lowB_len]
      omega
    · unfold wBytes
      rw [wrap8, lowB_snoc, List.append_assoc]
  · rw [nle] at hj
    simp only [ge_iff_le, decide_eq_false_iff_not] at hge
    have : j = wM n k := by omega
    subst this
    exact ⟨wS_str s p n k v, rfl, by omega, rfl, rfl⟩
theorem done_wS {s : ByteArray} {p n : Int} (n0 : 0 ≤ n) (n7 : n ≤ 7) (p0 : 0 ≤ p) (p1 : p < 2 ^ n.toNat) : wS s p n (8 - n) 1 = dS s p n := by
  have h1 := nn7 n0 n7
  have hm : wM n (8 - n) = 1 := by unfold wM; omega
  unfold wS dS
  rw [hm]
  have hx : wX p n 1 = p + 2 ^ n.toNat := by unfold wX; rw [Int.one_mul]
  rw [show lowB 1 (wX p n 1) = [wX p n 1 % 256] from rfl, hx, Int.emod_eq_of_lt (by have := pow_pos' n.toNat; omega) (by omega)]
theorem dnF_v (s : ByteArray) (p n : Int) (n0 : 0 ≤ n) (n7 : n ≤ 7) (p0 : 0 ≤ p) (p1 : p < 2 ^ n.toNat) (hs : s.size ≤ 1000000) : dnF_t s p n := by
  have h1 := nn7 n0 n7
  have h2 := pow_pos' n.toNat
  unfold dnF_t
  rw [show IntKind.wrap IntKind.i64 ((s.size : Int) + 1) = (s.size : Int) + 1 from wr (by omega) (by omega), decide_eq_false (show ¬ (s.size : Int) + 1 > 1048576 by omega)]
  rw [show IntKind.wrap IntKind.u64 (IntKind.wrap IntKind.i64 ((8 : Int) - n)) = 8 - n by rw [wr (by omega) (by omega)]; exact wru (by omega) (by omega)]
  have h3 : (1 : Int) < 2 ^ (8 - n).toNat := by
    have := pow_mono (show 1 ≤ (8 - n).toNat by omega)
    simp at this
    omega
  exact ⟨n0, n7, p0, p1, by omega, by decide, fun h => by simp [fstE] at h, fun _ => ⟨p0, by omega, n0, n7, p0, p1, by omega, by omega, by omega, h3, by omega, done_wS n0 n7 p0 p1, rfl⟩⟩
theorem rdnF_v (s : ByteArray) (p n : Int) (n0 : 0 ≤ n) (n7 : n ≤ 7) (p0 : 0 ≤ p) (p1 : p < 2 ^ n.toNat) (hs : s.size ≤ 1000000) : rdnF_t s p n := by
  have h1 := nn7 n0 n7
  have h2 := pow_pos' n.toNat
  unfold rdnF_t
  rw [one_shl n0 n7, wr (show -9223372036854775808 ≤ p + 2 ^ n.toNat by omega) (by omega), wrap8, Int.emod_eq_of_lt (by omega) (by omega), wru (show 0 ≤ n by omega) (by omega)]
  refine ⟨n0, n7, p0, p1, by omega, fun h => by simp at h, fun _ => ⟨fun h => ?_, fun _ => ⟨n0, ?_, rfl, rfl⟩⟩⟩
  · simp only [beq_iff_eq] at h
    omega
  · rw [strOfNums_size]
    simp only [List.length_cons, List.length_nil]
    omega
theorem and63 {k : Int} (h0 : 0 ≤ k) (h1 : k ≤ 32) : bits .and .i64 k 63 = k := by
  obtain ⟨a, rfl⟩ := Int.eq_ofNat_of_zero_le h0
  have h := and_pow64 a 6 (by omega) (by omega)
  rw [show (2 : Int) ^ 6 - 1 = 63 by decide] at h
  rw [h, Nat.mod_eq_of_lt (by omega)]
theorem pwF_v (s : ByteArray) (p n k v : Int) (h : PutN p n k v) (hs : s.size ≤ 1000000) : pwF_t s p n k v := by
  have hP := h.P
  have hN := wM_eq h.n0 h.k0
  have hr := nn7 hN.2.1 hN.2.2
  obtain ⟨n0, n7, p0, p1, k0, k1, v0, v1⟩ := h
  have h1 := nn7 n0 n7
  unfold pwF_t
  rw [and63 k0 k1, show IntKind.wrap IntKind.u64 k = k from wru (by omega) (by omega), bu64, Nat.min_eq_left (show k.toNat ≤ 64 by omega)]
  have ef : Int.fdiv v (2 ^ k.toNat) = 0 := by rw [fdivp (Int.le_of_lt (pow_pos' _)), Int.ediv_eq_zero_of_lt v0 v1]
  have et : Int.tdiv (IntKind.wrap IntKind.i64 (n + k)) 8 = (n + k) / 8 := by rw [wr (by omega) (by omega), Int.tdiv_eq_ediv_of_nonneg (by omega)]
  rw [ef, et, show IntKind.wrap IntKind.i64 ((n + k) / 8) = (n + k) / 8 from wr (by omega) (by omega), show IntKind.wrap IntKind.i64 ((s.size : Int) + (n + k) / 8) = (s.size : Int) + (n + k) / 8 from wr (by omega) (by omega), decide_eq_false (show ¬ (s.size : Int) + (n + k) / 8 > 1048576 by omega)]
  have eP : IntKind.wrap IntKind.i64 (wP p n k v) = wP p n k v := wr (by omega) (by omega)
  refine ⟨n0, n7, p0, p1, by omega, fun h => ?_, fun _ => ⟨fun h => ?_, fun _ => ⟨k0, by decide, by decide, fun h => by simp [fstE] at h, fun _ => ⟨p0, by omega, n0, n7, p0, p1, k0, k1, v0, v1, by omega, rfl, eP, rfl, rfl⟩⟩⟩⟩
  · simp only [decide_eq_true_eq] at h; omega
  · simp only [gt_iff_lt, decide_eq_true_eq] at h; omega
theorem wputF_sound : Sound Try.prog 109 sWput.ctr := sWput.sound (by kernel_rfl) sWput_enc fun ⟨s, p, n, k, v⟩ hc => by
  have h0 := hc _ (.head _)
  have h1 := hc _ (.tail _ (.head _))
  have h2 := hc _ (.tail _ (.tail _ (.head _)))
  have h3 := hc _ (.tail _ (.tail _ (.tail _ (.head _))))
  have h4 := hc _ (.tail _ (.tail _ (.tail _ (.tail _ (.head _)))))
  have h5 := hc _ (.tail _ (.tail _ (.tail _ (.tail _ (.tail _ (.head _))))))
  have h6 := hc _ (.tail _ (.tail _ (.tail _ (.tail _ (.tail _ (.tail _ (.head _)))))))
  have h7 := hc _ (.tail _ (.tail _ (.tail _ (.tail _ (.tail _ (.tail _ (.tail _ (.head _))))))))
  have h8 := hc _ (.tail _ (.tail _ (.tail _ (.tail _ (.tail _ (.tail _ (.tail _ (.tail _ (.head _)))))))))
  exact satG AllOk.nil mixed Try.func109 (wputF_e s p n k v) (wputF_v s p n k v ⟨h0, h1, h2, h3, h4, h5, h6, h7⟩ h8)
theorem GFa_ok : AllOk Try.prog GFa := .cons whenF_sound <| .cons fstF_sound <| .cons rchkF_sound <| .cons opnF_sound <| .cons wputF_sound <| .cons bkwF_sound .nil
theorem chkF_sound : Sound Try.prog 106 sChkW.ctr := sChkW.sound (by kernel_rfl) sChkW_enc fun ⟨s, p, n⟩ hc => by
  have h0 := hc _ (.head _)
  have h1 := hc _ (.tail _ (.head _))
  have h2 := hc _ (.tail _ (.tail _ (.head _)))
  have h3 := hc _ (.tail _ (.tail _ (.tail _ (.head _))))
  have h4 := hc _ (.tail _ (.tail _ (.tail _ (.tail _ (.head _)))))
  exact satG GFa_ok mixed Try.func106 (chkF_e s p n) (chkF_v s p n h0 h1 h2 h3 h4)
theorem rdnF_sound : Sound Try.prog 80 sDoneW.ctr := sDoneW.sound (by kernel_rfl) sDoneW_enc fun ⟨s, p, n⟩ hc => by
  have h0 := hc _ (.head _)
  have h1 := hc _ (.tail _ (.head _))
  have h2 := hc _ (.tail _ (.tail _ (.head _)))
  have h3 := hc _ (.tail _ (.tail _ (.tail _ (.head _))))
  have h4 := hc _ (.tail _ (.tail _ (.tail _ (.tail _ (.head _)))))
  exact satG GFa_ok mixed Try.func80 (rdnF_e s p n) (rdnF_v s p n h0 h1 h2 h3 h4)
end Go.Proofs.Ytbdgknebimdjoaa
/-
  Chapter 3: the reference puts bit by bit. Conditions: each theorem's own.
-/
namespace Go.Proofs.Ytbdgknebimdjoaa
open Go Go.RowKit
set_option linter.unusedVariables false
set_option linter.unusedSimpArgs false
set_option maxRecDepth 100000
theorem and1_u64 (a : Nat) (ha : a < 18446744073709551616) : bits .and .u64 (a : Int) 1 = ((a % 2 : Nat) : Int) := by
  have hx : (BitVec.ofInt 64 (a : Int)).toNat = a := by
    rw [BitVec.ofInt_natCast, BitVec.toNat_ofNat]; exact Nat.mod_eq_of_lt (by omega)
  show IntKind.u64.wrap ((BitVec.ofInt 64 (a : Int) &&& BitVec.ofInt 64 1).toNat : Int) = _
  rw [BitVec.toNat_and, hx, show (BitVec.ofInt 64 1).toNat = 2 ^ 1 - 1 from rfl, Nat.and_two_pow_sub_one_eq_mod, IntKind.wrap_u64]
  omega
theorem lowB_add : ∀ (m : Nat) (x c : Int), lowB m (x + c * 256 ^ m) = lowB m x
  | 0, _, _ => rfl
  | m + 1, x, c => by
    have e : x + c * 256 ^ (m + 1) = x + (c * 256 ^ m) * 256 := by rw [Int.pow_succ, Int.mul_assoc]
    show (x + c * 256 ^ (m + 1)) % 256 :: lowB m ((x + c * 256 ^ (m + 1)) / 256) = x % 256 :: lowB m (x / 256)
    rw [e, Int.add_mul_emod_self_right, Int.add_mul_ediv_right _ _ (by decide), lowB_add m]
def bitV (v : Int) (i : Nat) : Int := v / 2 ^ i % 2
theorem lowV_succ (v : Int) (i : Nat) : lowV v (i + 1) = lowV v i + bitV v i * 2 ^ i := by
  unfold lowV bitV
  have hp := pow_pos' i
  have h1 := Int.emod_add_mul_ediv v (2 ^ i)
  have h2 := Int.emod_add_mul_ediv (v / 2 ^ i) 2
  have h3 := Int.emod_add_mul_ediv v (2 ^ (i + 1))
  have h4 : v / 2 ^ (i + 1) = v / 2 ^ i / 2 := by rw [Int.pow_succ, Int.ediv_ediv_of_nonneg (Int.le_of_lt hp)]
  rw [h4, Int.pow_succ, Int.mul_assoc] at h3
  have h5 : (2 : Int) ^ i * (v / 2 ^ i) = 2 ^ i * (v / 2 ^ i % 2) + 2 ^ i * (2 * (v / 2 ^ i / 2)) := by rw [← Int.mul_add]; rw [h2]
  have h6 : v / 2 ^ i % 2 * 2 ^ i = 2 ^ i * (v / 2 ^ i % 2) := Int.mul_comm _ _
  rw [Int.pow_succ]
  omega
/-- a put begun -/
theorem PutN.part {p n k v : Int} (h : PutN p n k v) {i : Nat} (hi : (i : Int) ≤ k) : PutN p n i (lowV v i) :=
  ⟨h.n0, h.n7, h.p0, h.p1, by omega, by have := h.k1; omega, Int.emod_nonneg _ (by have := pow_pos' i; omega), by rw [toNat_cast]; exact Int.emod_lt_of_pos _ (pow_pos' i)⟩
structure PutStep (s : ByteArray) (p n v : Int) (i : Nat) : Prop where
  b0 : 0 ≤ bitV v i
  b1 : bitV v i ≤ 1
  part : wP p n i (lowV v i) + bitV v i * 2 ^ (wN n i).toNat = wX p n (lowV v (i + 1)) / 256 ^ wM n i
  low : lowB (wM n i) (wX p n (lowV v (i + 1))) = lowB (wM n i) (wX p n (lowV v i))
theorem put_step {p n k v : Int} (s : ByteArray) (h : PutN p n k v) {i : Nat} (hi : (i : Int) < k) : PutStep s p n v i := by
  obtain ⟨e, r0, r1⟩ := wM_eq (n := n) (k := i) h.n0 (by omega)
  have eX : wX p n (lowV v (i + 1)) = wX p n (lowV v i) + (bitV v i * 2 ^ (wN n i).toNat) * 256 ^ wM n i := by
    unfold wX
    rw [lowV_succ, Int.add_mul, Int.mul_assoc (bitV v i), ← Int.pow_add, Int.mul_assoc (bitV v i), pow256, ← Int.pow_add]
    have : i + n.toNat = (wN n i).toNat + 8 * wM n i := by have := h.n0; omega
    rw [this]
    omega
  have hb : 0 ≤ bitV v i ∧ bitV v i < 2 := ⟨Int.emod_nonneg _ (by decide), Int.emod_lt_of_pos _ (by decide)⟩
  refine ⟨hb.1, by omega, ?_, ?_⟩
  · rw [eX, Int.add_mul_ediv_right _ _ (by rw [pow256]; have := pow_pos' (8 * wM n i); omega)]
    rfl
  · rw [eX, lowB_add]
theorem put_zero {s : ByteArray} {p n v : Int} (n0 : 0 ≤ n) (n7 : n ≤ 7) : wS s p n ((0 : Nat) : Int) (lowV v 0) = s ∧ wP p n ((0 : Nat) : Int) (lowV v 0) = p ∧ wN n ((0 : Nat) : Int) = n := by
  have hm : wM n ((0 : Nat) : Int) = 0 := by unfold wM; omega
  have hl : lowV v 0 = 0 := by unfold lowV; rw [Int.pow_zero, Int.emod_one]
  refine ⟨?_, ?_, by unfold wN; omega⟩
  · unfold wS
    rw [hm]
    exact str_nil s
  · unfold wP wX
    rw [hm, hl, Int.zero_mul, Int.add_zero, Int.pow_zero, Int.ediv_one]
theorem put_full {s : ByteArray} {p n k v : Int} (h : PutN p n k v) {i : Nat} (hi : (i : Int) = k) : lowV v i = v := by
  have e : k.toNat = i := by omega
  have := h.v1
  rw [e] at this
  exact Int.emod_eq_of_lt h.v0 this
theorem wS_size (s : ByteArray) (p n k v : Int) : (wS s p n k v).size = s.size + wM n k := by
  unfold wS
  rw [app_size, strOfNums_size, lowB_len]
theorem rpwF_v (s : ByteArray) (p n k v : Int) (h : PutN p n k v) (hs : s.size ≤ 1000000) : rpwF_t s p n k v := by
  have h0 := h
  obtain ⟨n0, n7, p0, p1, k0, k1, v0, v1⟩ := h
  have h3 : (2 : Int) ^ k.toNat ≤ 4294967296 := by
    have := pow_mono (show k.toNat ≤ 32 by omega)
    simpa using this
  have hpk := pow_pos' k.toNat
  unfold rpwF_t
  rw [show IntKind.wrap IntKind.u64 k = k from wru (by omega) (by omega), bu64, Nat.min_eq_left (show k.toNat ≤ 64 by omega), Int.one_mul, show IntKind.wrap IntKind.u64 (2 ^ k.toNat) = 2 ^ k.toNat from wru (by omega) (by omega)]
  obtain ⟨z1, z2, z3⟩ := put_zero (s := s) (p := p) (v := v) n0 n7
  have nnI : ∀ a : Int, Int.NonNeg a ↔ 0 ≤ a := fun a => ⟨fun h => by cases h; exact Int.natCast_nonneg _, fun h => by obtain ⟨m, rfl⟩ := Int.eq_ofNat_of_zero_le h; exact ⟨m⟩⟩
  refine ⟨n0, n7, p0, p1, by omega, fun hb => by simp at hb, fun _ => ⟨fun hb => ?_, fun _ => ⟨fun hb => ?_, fun _ => ⟨k0, fun hb => ?_, fun _ => ⟨⟨0, (nnI _).2 (by omega), rfl, rfl, rfl, z1.symm, z2.symm, z3.symm, rfl, rfl, rfl⟩, fun i hi => ?_⟩⟩⟩⟩⟩
  · simp only [decide_eq_true_eq] at hb; omega
  · simp only [gt_iff_lt, decide_eq_true_eq] at hb; omega
  · simp only [ge_iff_le, decide_eq_true_eq] at hb; omega
  rw [nnI] at hi
  obtain ⟨e, r0, r1⟩ := wM_eq (n := n) (k := i) n0 (by omega)
  have hP := (h0.part (show (i : Int) ≤ k by omega)).P
  have hr7 := nn7 r0 r1
  refine ⟨fun hlt => ?_, fun hge => ?_⟩
  · have hlt : (i : Int) < k := by simpa using hlt
    obtain ⟨b0, b1, st, sl⟩ := put_step s h0 hlt
    obtain ⟨e', r0', r1'⟩ := wM_eq (n := n) (k := ((i + 1 : Nat) : Int)) n0 (by omega)
    have hbit : bits BinOp.and IntKind.u64 (Int.fdiv v ((2 : Int) ^ min (Int.toNat (i : Int)) 64)) 1 = bitV v i := by
      rw [toNat_cast, Nat.min_eq_left (by omega), fdivp (Int.le_of_lt (pow_pos' _))]
      have hv : 0 ≤ v / 2 ^ i := Int.ediv_nonneg v0 (Int.le_of_lt (pow_pos' _))
      have hv2 : v / 2 ^ i ≤ v := Int.ediv_le_self _ v0
      unfold bitV
      obtain ⟨a, ha⟩ := Int.eq_ofNat_of_zero_le hv
      rw [ha, and1_u64 a (by omega)]
      omega
    have hm1 : 0 ≤ bitV v i * 2 ^ (wN n i).toNat := Int.mul_nonneg b0 (Int.le_of_lt (pow_pos' _))
    have hm2 : bitV v i * 2 ^ (wN n i).toNat ≤ 2 ^ (wN n i).toNat := by
      have := Int.mul_le_mul_of_nonneg_right b1 (Int.le_of_lt (pow_pos' (wN n i).toNat))
      omega
    have hterm : IntKind.wrap IntKind.i64 (wP p n i (lowV v i) + IntKind.wrap IntKind.i64 (IntKind.wrap IntKind.i64 (bits BinOp.and IntKind.u64 (Int.fdiv v ((2 : Int) ^ min (Int.toNat (i : Int)) 64)) 1) * (2 : Int) ^ min (Int.toNat (wN n i)) (IntKind.bits IntKind.i64))) = wX p n (lowV v (i + 1)) / 256 ^ wM n i := by
      rw [hbit, show IntKind.wrap IntKind.i64 (bitV v i) = bitV v i from wr (by omega) (by omega), b64, Nat.min_eq_left (show (wN n i).toNat ≤ 64 by omega), show IntKind.wrap IntKind.i64 (bitV v i * 2 ^ (wN n i).toNat) = bitV v i * 2 ^ (wN n i).toNat from wr (by omega) (by omega), wr (by omega) (by omega)]
      exact st
    rw [show IntKind.wrap IntKind.u64 (i : Int) = i from wru (by omega) (by omega), show IntKind.wrap IntKind.u64 (wN n i) = wN n i from wru (by omega) (by omega), show IntKind.wrap IntKind.i64 (wN n i + 1) = wN n i + 1 from wr (by omega) (by omega), hterm]
    refine ⟨by omega, r0, fun h8 => ?_, fun h8 => ?_⟩
    · have h8 : wN n i = 7 := by simp only [beq_iff_eq] at h8; omega
      have hM : wM n ((i + 1 : Nat) : Int) = wM n i + 1 := by omega
      have hN : wN n ((i + 1 : Nat) : Int) = 0 := by omega
      have hlt2 : wX p n (lowV v (i + 1)) / 256 ^ wM n i < 256 := by rw [← st]; omega
      have hge2 : 0 ≤ wX p n (lowV v (i + 1)) / 256 ^ wM n i := by rw [← st]; omega
      refine ⟨?_, i + 1, (nnI _).2 (by omega), by rw [Nat.sub_eq, Nat.sub_eq]; omega, rfl, rfl, by rw [wr (by omega) (by omega)]; rfl, ?_, ?_, hN.symm, rfl, rfl, rfl⟩
      · rw [wS_size, strOfNums_size]
        simp only [List.length_cons, List.length_nil]
        omega
      · unfold wS
        rw [hM, lowB_snoc, sl, app_assoc, ← str_app, wrap8]
      · unfold wP
        rw [hM, Int.pow_succ, ← Int.ediv_ediv_of_nonneg (by rw [pow256]; exact Int.le_of_lt (pow_pos' _)), Int.ediv_eq_zero_of_lt hge2 hlt2]
    · have h8 : wN n i ≠ 7 := by
        simp only [beq_eq_false_iff_ne, ne_eq] at h8
        omega
      have hM : wM n ((i + 1 : Nat) : Int) = wM n i := by omega
      refine ⟨i + 1, (nnI _).2 (by omega), by rw [Nat.sub_eq, Nat.sub_eq]; omega, rfl, rfl, by rw [wr (by omega) (by omega)]; rfl, ?_, ?_, by omega, rfl, rfl, rfl⟩
      · unfold wS
        rw [hM, sl]
      · unfold wP
        rw [hM]
  · have hk : (i : Int) = k := by simp only [decide_eq_false_iff_not] at hge; omega
    have hv := put_full (s := s) h0 hk
    rw [hv, hk, wS_size]
    have hM : wM n k ≤ 4 := by unfold wM; omega
    refine ⟨fun hb => ?_, fun _ => ⟨rfl, rfl, rfl, rfl⟩⟩
    simp only [gt_iff_lt, decide_eq_true_eq] at hb
    omega
theorem rpwF_sound : Sound Try.prog 79 sPutW.ctr := sPutW.sound (by kernel_rfl) sPutW_enc fun ⟨s, p, n, k, v⟩ hc => by
  have h0 := hc _ (.head _)
  have h1 := hc _ (.tail _ (.head _))
  have h2 := hc _ (.tail _ (.tail _ (.head _)))
  have h3 := hc _ (.tail _ (.tail _ (.tail _ (.head _))))
  have h4 := hc _ (.tail _ (.tail _ (.tail _ (.tail _ (.head _)))))
  have h5 := hc _ (.tail _ (.tail _ (.tail _ (.tail _ (.tail _ (.head _))))))
  have h6 := hc _ (.tail _ (.tail _ (.tail _ (.tail _ (.tail _ (.tail _ (.head _)))))))
  have h7 := hc _ (.tail _ (.tail _ (.tail _ (.tail _ (.tail _ (.tail _ (.tail _ (.head _))))))))
  have h8 := hc _ (.tail _ (.tail _ (.tail _ (.tail _ (.tail _ (.tail _ (.tail _ (.tail _ (.head _)))))))))
  exact satG GFa_ok mixed Try.func79 (rpwF_e s p n k v) (rpwF_v s p n k v ⟨h0, h1, h2, h3, h4, h5, h6, h7⟩ h8)
theorem GFb_ok : AllOk Try.prog GFb := .cons chkF_sound <| .cons rpwF_sound <| .cons rdnF_sound GFa_ok
theorem pwF_sound : Sound Try.prog 104 sPutW.ctr := sPutW.sound (by kernel_rfl) sPutW_enc fun ⟨s, p, n, k, v⟩ hc => by
  have h0 := hc _ (.head _)
  have h1 := hc _ (.tail _ (.head _))
  have h2 := hc _ (.tail _ (.tail _ (.head _)))
  have h3 := hc _ (.tail _ (.tail _ (.tail _ (.head _))))
  have h4 := hc _ (.tail _ (.tail _ (.tail _ (.tail _ (.head _)))))
  have h5 := hc _ (.tail _ (.tail _ (.tail _ (.tail _ (.tail _ (.head _))))))
  have h6 := hc _ (.tail _ (.tail _ (.tail _ (.tail _ (.tail _ (.tail _ (.head _)))))))
  have h7 := hc _ (.tail _ (.tail _ (.tail _ (.tail _ (.tail _ (.tail _ (.tail _ (.head _))))))))
  have h8 := hc _ (.tail _ (.tail _ (.tail _ (.tail _ (.tail _ (.tail _ (.tail _ (.tail _ (.head _)))))))))
  exact satG GFb_ok mixed Try.func104 (pwF_e s p n k v) (pwF_v s p n k v ⟨h0, h1, h2, h3, h4, h5, h6, h7⟩ h8)
theorem dnF_sound : Sound Try.prog 77 sDoneW.ctr := sDoneW.sound (by kernel_rfl) sDoneW_enc fun ⟨s, p, n⟩ hc => by
  have h0 := hc _ (.head _)
  have h1 := hc _ (.tail _ (.head _))
  have h2 := hc _ (.tail _ (.tail _ (.head _)))
  have h3 := hc _ (.tail _ (.tail _ (.tail _ (.head _))))
  have h4 := hc _ (.tail _ (.tail _ (.tail _ (.tail _ (.head _)))))
  exact satG GFb_ok mixed Try.func77 (dnF_e s p n) (dnF_v s p n h0 h1 h2 h3 h4)
theorem GFc_ok : AllOk Try.prog GFc := .cons pwF_sound <| .cons dnF_sound GFb_ok
end Go.Proofs.Ytbdgknebimdjoaa
/-
  Chapter 12: contracts and loops of a list's stream. Conditions: none (definitions).
-/
namespace Go.Proofs.Ytbdgknebimdjoaa
open Go Go.RowKit
set_option linter.unusedVariables false
set_option linter.unusedSimpArgs false
set_option maxRecDepth 100000
def dF (k : Nat) (g : Int) (p : List Int) : Nat × SBlk := (k, .cells 24 [.v (.int .i64 g), .dat (.ints .i64 p)])
/-! ### contracts -/
def sNoDc : Spec where
  ι := Int × Int × List Int
  dec l H := match l with
    | [.v (.int .i64 x), .p l0 0 0] => match H l0 with
      | some (.cells 24 [.v (.int .i64 g), .dat (.ints .i64 p)]) => some ((x, g, p), [l0])
      | _ => none
    | _ => none
  args := fun (x, g, p) => [.v (.int .i64 x), .p 0 0 0]
  hp := fun (x, g, p) => [(0, .cells 24 [.v (.int .i64 g), .dat (.ints .i64 p)])]
  pre := fun (x, g, p) => [⟨p.length ≤ 4294967296, inferInstance⟩]
  out := fun (x, g, p) => .leaf (.v (.bool (noD p x))) [(0, .cells 24 [.v (.int .i64 g), .dat (.ints .i64 p)])]
theorem sNoDc_enc : ∀ l H n i ls, sNoDc.dec l H = some (i, ls) → l = renL (rho ls n) (sNoDc.args i) ∧ givenHp H ls = renH (rho ls n) (sNoDc.hp i) := by
  intro l H n i ls h
  simp only [sNoDc] at h
  repeat' split at h
  all_goals first
    | (cases h; done)
    | (cases h; exact ⟨rfl, rfl⟩)
    | (cases h; refine ⟨rfl, ?_⟩; simp only [givenHp, List.filterMap_cons, List.filterMap_nil, Option.map, *]; rfl)
def sIdxD : Spec where
  ι := List Int × Int × List Int
  dec l H := match l with
    | [.dat (.ints .i64 l), .fn (.func 111) [] [.p l0 0 0]] => match H l0 with
      | some (.cells 24 [.v (.int .i64 g), .dat (.ints .i64 p)]) => some ((l, g, p), [l0])
      | _ => none
    | _ => none
  args := fun (l, g, p) => [.dat (.ints .i64 l), .fn (.func 111) [] [.p 0 0 0]]
  hp := fun (l, g, p) => [(0, .cells 24 [.v (.int .i64 g), .dat (.ints .i64 p)])]
  pre := fun (l, g, p) => [⟨l.length ≤ 4294967296, inferInstance⟩, ⟨p.length ≤ 4294967296, inferInstance⟩]
  out := fun (l, g, p) => .leaf (.v (.int .i64 (cond (l.any (noD p)) ((l.findIdx (noD p) : Nat) : Int) (-1)))) [(0, .cells 24 [.v (.int .i64 g), .dat (.ints .i64 p)])]
theorem sIdxD_enc : ∀ l H n i ls, sIdxD.dec l H = some (i, ls) → l = renL (rho ls n) (sIdxD.args i) ∧ givenHp H ls = renH (rho ls n) (sIdxD.hp i) := by
  intro l H n i ls h
  simp only [sIdxD] at h
  repeat' split at h
  all_goals first
    | (cases h; done)
    | (cases h; exact ⟨rfl, rfl⟩)
    | (cases h; refine ⟨rfl, ?_⟩; simp only [givenHp, List.filterMap_cons, List.filterMap_nil, Option.map, *]; rfl)
def sHasD : Spec where
  ι := List Int × Int × List Int
  dec l H := match l with
    | [.dat (.ints .i64 l), .fn (.func 111) [] [.p l0 0 0]] => match H l0 with
      | some (.cells 24 [.v (.int .i64 g), .dat (.ints .i64 p)]) => some ((l, g, p), [l0])
      | _ => none
    | _ => none
  args := fun (l, g, p) => [.dat (.ints .i64 l), .fn (.func 111) [] [.p 0 0 0]]
  hp := fun (l, g, p) => [(0, .cells 24 [.v (.int .i64 g), .dat (.ints .i64 p)])]
  pre := fun (l, g, p) => [⟨l.length ≤ 4294967296, inferInstance⟩, ⟨p.length ≤ 4294967296, inferInstance⟩]
  out := fun (l, g, p) => .leaf (.v (.bool (l.any (noD p)))) [(0, .cells 24 [.v (.int .i64 g), .dat (.ints .i64 p)])]
theorem sHasD_enc : ∀ l H n i ls, sHasD.dec l H = some (i, ls) → l = renL (rho ls n) (sHasD.args i) ∧ givenHp H ls = renH (rho ls n) (sHasD.hp i) := by
  intro l H n i ls h
  simp only [sHasD] at h
  repeat' split at h
  all_goals first
    | (cases h; done)
    | (cases h; exact ⟨rfl, rfl⟩)
    | (cases h; refine ⟨rfl, ?_⟩; simp only [givenHp, List.filterMap_cons, List.filterMap_nil, Option.map, *]; rfl)
def sCovD : Spec where
  ι := Int × List Int × List Int
  dec l H := match l with
    | [.ag [.v (.int .i64 g), .dat (.ints .i64 p)], .dat (.ints .i64 l)] => some ((g, p, l), [])
    | _ => none
  args := fun (g, p, l) => [.ag [.v (.int .i64 g), .dat (.ints .i64 p)], .dat (.ints .i64 l)]
  pre := fun (g, p, l) => [⟨p.length ≤ 4294967296, inferInstance⟩, ⟨l.length ≤ 4294967296, inferInstance⟩]
  out := fun (g, p, l) => .leaf (.v (.bool (!l.any (noD p)))) []
theorem sCovD_enc : ∀ l H n i ls, sCovD.dec l H = some (i, ls) → l = renL (rho ls n) (sCovD.args i) ∧ givenHp H ls = renH (rho ls n) (sCovD.hp i) := by
  intro l H n i ls h
  simp only [sCovD] at h
  repeat' split at h
  all_goals first
    | (cases h; done)
    | (cases h; exact ⟨rfl, rfl⟩)
def sAsk : Spec where
  ι := Int × List Int × List Int × Int
  dec l H := match l with
    | [.ag [.v (.int .i64 g), .dat (.ints .i64 p)], .dat (.ints .i64 l), .v (.int .i64 c)] => some ((g, p, l, c), [])
    | _ => none
  args := fun (g, p, l, c) => [.ag [.v (.int .i64 g), .dat (.ints .i64 p)], .dat (.ints .i64 l), .v (.int .i64 c)]
  pre := fun (g, p, l, c) => [⟨p.length ≤ 4294967296, inferInstance⟩, ⟨l.length ≤ 4294967296, inferInstance⟩]
  out := fun (g, p, l, c) => .leaf (.v (.int .i64 (askE g p l c))) []
theorem sAsk_enc : ∀ l H n i ls, sAsk.dec l H = some (i, ls) → l = renL (rho ls n) (sAsk.args i) ∧ givenHp H ls = renH (rho ls n) (sAsk.hp i) := by
  intro l H n i ls h
  simp only [sAsk] at h
  repeat' split at h
  all_goals first
    | (cases h; done)
    | (cases h; exact ⟨rfl, rfl⟩)
def sCovE : Spec where
  ι := Int × List Int × List Int
  dec l H := match l with
    | [.ag [.v (.int .i64 g), .dat (.ints .i64 p)], .dat (.ints .i64 l)] => some ((g, p, l), [])
    | _ => none
  args := fun (g, p, l) => [.ag [.v (.int .i64 g), .dat (.ints .i64 p)], .dat (.ints .i64 l)]
  pre := fun (g, p, l) => [⟨p.length ≤ 4294967296, inferInstance⟩, ⟨l.length ≤ 4294967296, inferInstance⟩]
  out := fun (g, p, l) => .leaf (.tu [.v (.bool (covB g p l)), .v (.int .i64 (dchk g p))]) []
theorem sCovE_enc : ∀ l H n i ls, sCovE.dec l H = some (i, ls) → l = renL (rho ls n) (sCovE.args i) ∧ givenHp H ls = renH (rho ls n) (sCovE.hp i) := by
  intro l H n i ls h
  simp only [sCovE] at h
  repeat' split at h
  all_goals first
    | (cases h; done)
    | (cases h; exact ⟨rfl, rfl⟩)
def sFwr : Spec where
  ι := Int × List Int × List Int × Int
  dec l H := match l with
    | [.ag [.v (.int .i64 g), .dat (.ints .i64 p)], .dat (.ints .i64 l), .v (.int .i64 c)] => some ((g, p, l, c), [])
    | _ => none
  args := fun (g, p, l, c) => [.ag [.v (.int .i64 g), .dat (.ints .i64 p)], .dat (.ints .i64 l), .v (.int .i64 c)]
  pre := fun (g, p, l, c) => [⟨askE g p l c = 0, inferInstance⟩, ⟨c = 1 ∨ c = 2, inferInstance⟩]
  out := fun (g, p, l, c) => .leaf (.ag [.v (.string (ffS g (encL g p) l c.toNat c.toNat)), .v (.int .i64 (ffP g (encL g p) l c.toNat c.toNat)), .v (.int .i64 (ffN g (encL g p) l c.toNat c.toNat))]) []
theorem sFwr_enc : ∀ l H n i ls, sFwr.dec l H = some (i, ls) → l = renL (rho ls n) (sFwr.args i) ∧ givenHp H ls = renH (rho ls n) (sFwr.hp i) := by
  intro l H n i ls h
  simp only [sFwr] at h
  repeat' split at h
  all_goals first
    | (cases h; done)
    | (cases h; exact ⟨rfl, rfl⟩)
def sWrt1 : Spec where
  ι := Int × List Int × List Int
  dec l H := match l with
    | [.ag [.v (.int .i64 g), .dat (.ints .i64 p)], .dat (.ints .i64 l)] => some ((g, p, l), [])
    | _ => none
  args := fun (g, p, l) => [.ag [.v (.int .i64 g), .dat (.ints .i64 p)], .dat (.ints .i64 l)]
  pre := fun (g, p, l) => [⟨p.length ≤ 4294967296, inferInstance⟩, ⟨l.length ≤ 4294967296, inferInstance⟩]
  out := fun (g, p, l) => .leaf (.tu [.v (.string (wrtS g p l 1)), .v (.int .i64 (askE g p l 1))]) []
theorem sWrt1_enc : ∀ l H n i ls, sWrt1.dec l H = some (i, ls) → l = renL (rho ls n) (sWrt1.args i) ∧ givenHp H ls = renH (rho ls n) (sWrt1.hp i) := by
  intro l H n i ls h
  simp only [sWrt1] at h
  repeat' split at h
  all_goals first
    | (cases h; done)
    | (cases h; exact ⟨rfl, rfl⟩)
def sWrt2 : Spec where
  ι := Int × List Int × List Int
  dec l H := match l with
    | [.ag [.v (.int .i64 g), .dat (.ints .i64 p)], .dat (.ints .i64 l)] => some ((g, p, l), [])
    | _ => none
  args := fun (g, p, l) => [.ag [.v (.int .i64 g), .dat (.ints .i64 p)], .dat (.ints .i64 l)]
  pre := fun (g, p, l) => [⟨p.length ≤ 4294967296, inferInstance⟩, ⟨l.length ≤ 4294967296, inferInstance⟩]
  out := fun (g, p, l) => .leaf (.tu [.v (.string (wrtS g p l 2)), .v (.int .i64 (askE g p l 2))]) []
theorem sWrt2_enc : ∀ l H n i ls, sWrt2.dec l H = some (i, ls) → l = renL (rho ls n) (sWrt2.args i) ∧ givenHp H ls = renH (rho ls n) (sWrt2.hp i) := by
  intro l H n i ls h
  simp only [sWrt2] at h
  repeat' split at h
  all_goals first
    | (cases h; done)
    | (cases h; exact ⟨rfl, rfl⟩)
def sCos : Spec where
  ι := Int × List Int × List Int
  dec l H := match l with
    | [.ag [.v (.int .i64 g), .dat (.ints .i64 p)], .dat (.ints .i64 l)] => some ((g, p, l), [])
    | _ => none
  args := fun (g, p, l) => [.ag [.v (.int .i64 g), .dat (.ints .i64 p)], .dat (.ints .i64 l)]
  pre := fun (g, p, l) => [⟨p.length ≤ 4294967296, inferInstance⟩, ⟨l.length ≤ 4294967296, inferInstance⟩]
  out := fun (g, p, l) => .leaf (.tu [.v (.int .i64 (cosN g p l)), .v (.int .i64 (askE g p l 1))]) []
theorem sCos_enc : ∀ l H n i ls, sCos.dec l H = some (i, ls) → l = renL (rho ls n) (sCos.args i) ∧ givenHp H ls = renH (rho ls n) (sCos.hp i) := by
  intro l H n i ls h
  simp only [sCos] at h
  repeat' split at h
  all_goals first
    | (cases h; done)
    | (cases h; exact ⟨rfl, rfl⟩)
/-! ### loops -/
def wF (k : Nat) (s : ByteArray) (p n : Int) : Nat × SBlk := (k, .cells 101 [.v (.string s), .v (.int .i64 p), .v (.int .i64 n)])
def tF (k : Nat) (g : Int) (t : List (List Int)) : Nat × SBlk := (k, .cells 28 [.v (.int .i64 g), .dat (.lists t)])
def oIdxD (g : Int) (p l : List Int) : LoopInv := { ι := Nat, p := fun i => i ≤ l.length ∧ (l.take i).any (noD p) = false, tm := fun i => [(0, .dat (.ints .i64 l)), (1, .fn (.func 111) [] [.p 0 0 0]), (7, .v (.int .i64 l.length)), (8, .v (.int .i64 (i : Nat)))], hp := fun i => [(0, .cells 24 [.v (.int .i64 g), .dat (.ints .i64 p)])], μ := fun i => l.length - i }
def oCovD (g : Int) (p l : List Int) : LoopInv := { ι := Nat, p := fun i => i ≤ l.length ∧ (l.take i).any (noD p) = false, tm := fun i => [(1, .dat (.ints .i64 l)), (2, .p 1000 0 0), (5, .v (.int .i64 (i : Nat)))], hp := fun i => [dF 1000 g p], μ := fun i => l.length - i }
def rFw (g : Int) (p l : List Int) (c : Nat) : RngInv := { f := 139, cap := [.p 600008 0 0], hpI := [(600008, .cells 22 [.dat (.ints .i64 l)])], xs := itBk l, it := fun k => [.int .i64 (nthI l k : Nat), .int .i64 (nthS l k)], tm := [(3, .p 1001 0 0), (5, .p 1002 0 0), (6, .p 1003 0 0), (7, .p 1004 0 0), (9, .p 1005 0 0), (10, .p 1006 0 0), (11, .p 1007 0 0)], hp := fun k => [dF 1001 g p, (1002, .cells 3 [.v (.int .i64 (c : Nat))]), wF 1003 ByteArray.empty 0 0, tF 1004 g (encL g p), wF 1005 (fwS g (encL g p) l c k) (fwP g (encL g p) l c k) (fwN g (encL g p) l c k), (1006, .arr 107 (.ints .i64 (fwX g (encL g p) l c k))), (1007, .arr 136 (.bools (fwG l c k)))] }
def oFwE (g : Int) (p l : List Int) (c : Nat) : LoopInv := { ι := Nat, p := fun m => m ≤ c, tm := fun m => [(3, .p 1001 0 0), (6, .p 1003 0 0), (9, .p 1005 0 0), (10, .p 1006 0 0), (19, .v (.int .i64 ((c : Int) - 1 - (m : Nat))))], hp := fun m => [dF 1001 g p, wF 1003 ByteArray.empty 0 0, wF 1005 (ffS g (encL g p) l c m) (ffP g (encL g p) l c m) (ffN g (encL g p) l c m), (1006, .arr 107 (.ints .i64 (fwX g (encL g p) l c l.length)))], μ := fun m => c - m }
def oFw (g : Int) (p l : List Int) (c : Nat) : Nat → Option LoopFam := fun k => cond (Nat.beq k 0) (some (.rng Unit fun _ => rFw g p l c)) (cond (Nat.beq k 1) (some (.one (oFwE g p l c))) none)
def oRw1 (g : Int) (p l : List Int) : LoopInv := { ι := Nat, p := fun k => 1 ≤ k ∧ k ≤ l.length ∧ askE g p l 1 = 0, tm := fun k => [(1, .dat (.ints .i64 l)), (2, .p 1000 0 0), (7, .p 1001 0 0), (9, .v (.int .i64 ((fwX g (encL g p) l 1 k).getD 0 0))), (11, .p 1002 0 0), (12, .v (.int .i64 ((l.length : Int) - 1 - (k : Nat))))], hp := fun k => [dF 1000 g p, tF 1001 g (encL g p), wF 1002 (fwS g (encL g p) l 1 k) (fwP g (encL g p) l 1 k) (fwN g (encL g p) l 1 k)], μ := fun k => l.length - k }
def oRw2 (g : Int) (p l : List Int) : LoopInv := { ι := Nat, p := fun k => 2 ≤ k ∧ k ≤ l.length ∧ askE g p l 2 = 0, tm := fun k => [(1, .dat (.ints .i64 l)), (2, .p 1000 0 0), (7, .p 1001 0 0), (10, .p 1002 0 0), (11, .p 1003 0 0), (12, .v (.int .i64 ((l.length : Int) - 1 - (k : Nat))))], hp := fun k => [dF 1000 g p, tF 1001 g (encL g p), (1002, .arr 107 (.ints .i64 (fwX g (encL g p) l 2 k))), wF 1003 (fwS g (encL g p) l 2 k) (fwP g (encL g p) l 2 k) (fwN g (encL g p) l 2 k)], μ := fun k => l.length - k }
/-! ### tables -/
def GFd : List (Nat × Ctr) := (111, sNoDc.ctr) :: (82, sCovD.ctr) :: (GFc ++ GEk)
def GFe : List (Nat × Ctr) := (98, sIdxD.ctr) :: (78, sAsk.ctr) :: (48, sCovE.ctr) :: GFd
def GFf : List (Nat × Ctr) := (63, sHasD.ctr) :: GFe
def GFg : List (Nat × Ctr) := (81, sCovD.ctr) :: (76, sFwr.ctr) :: GFf
def GFh : List (Nat × Ctr) := (75, sAsk.ctr) :: (47, sCovE.ctr) :: GFg
/-! ### conditions
--%VC noDF ;; (x g : Int) (p : List Int) ;; [] ;; fun _ => none ;; fse.covers$1 ;; [.v (.int .i64 x), .p 0 0 0] ;; [(0, .cells 24 [.v (.int .i64 g), .dat (.ints .i64 p)])] ;; (.v (.bool (noD p x))) ;; [(0, .cells 24 [.v (.int .i64 g), .dat (.ints .i64 p)])]
--%VC rcovF ;; (g : Int) (p l : List Int) ;; [] ;; one (oCovD g p l) ;; ref12.covers ;; [.ag [.v (.int .i64 g), .dat (.ints .i64 p)], .dat (.ints .i64 l)] ;; [] ;; (.v (.bool (!l.any (noD p)))) ;; []
--%VC idxD ;; (l : List Int) (g : Int) (p : List Int) ;; GFd ;; one (oIdxD g p l) ;; slices.IndexFunc[[]int,int] ;; [.dat (.ints .i64 l), .fn (.func 111) [] [.p 0 0 0]] ;; [(0, .cells 24 [.v (.int .i64 g), .dat (.ints .i64 p)])] ;; (.v (.int .i64 (cond (l.any (noD p)) ((l.findIdx (noD p) : Nat) : Int) (-1)))) ;; [(0, .cells 24 [.v (.int .i64 g), .dat (.ints .i64 p)])]
--%VC raskF ;; (g : Int) (p l : List Int) (c : Int) ;; GFd ;; fun _ => none ;; ref12.asked ;; [.ag [.v (.int .i64 g), .dat (.ints .i64 p)], .dat (.ints .i64 l), .v (.int .i64 c)] ;; [] ;; (.v (.int .i64 (askE g p l c))) ;; []
--%VC rcovE ;; (g : Int) (p l : List Int) ;; GFd ;; fun _ => none ;; ref12.Covers ;; [.ag [.v (.int .i64 g), .dat (.ints .i64 p)], .dat (.ints .i64 l)] ;; [] ;; (.tu [.v (.bool (covB g p l)), .v (.int .i64 (dchk g p))]) ;; []
--%VC hasD ;; (l : List Int) (g : Int) (p : List Int) ;; GFe ;; fun _ => none ;; slices.ContainsFunc[[]int,int] ;; [.dat (.ints .i64 l), .fn (.func 111) [] [.p 0 0 0]] ;; [(0, .cells 24 [.v (.int .i64 g), .dat (.ints .i64 p)])] ;; (.v (.bool (l.any (noD p)))) ;; [(0, .cells 24 [.v (.int .i64 g), .dat (.ints .i64 p)])]
--%VC covF ;; (g : Int) (p l : List Int) ;; GFf ;; fun _ => none ;; fse.covers ;; [.ag [.v (.int .i64 g), .dat (.ints .i64 p)], .dat (.ints .i64 l)] ;; [] ;; (.v (.bool (!l.any (noD p)))) ;; []
--%VC fwrF ;; (g : Int) (p l : List Int) (c : Nat) ;; GFf ;; oFw g p l c ;; fse.write ;; [.ag [.v (.int .i64 g), .dat (.ints .i64 p)], .dat (.ints .i64 l), .v (.int .i64 (c : Nat))] ;; [] ;; (.ag [.v (.string (ffS g (encL g p) l c c)), .v (.int .i64 (ffP g (encL g p) l c c)), .v (.int .i64 (ffN g (encL g p) l c c))]) ;; []
--%VC askF ;; (g : Int) (p l : List Int) (c : Int) ;; GFg ;; fun _ => none ;; fse.checked ;; [.ag [.v (.int .i64 g), .dat (.ints .i64 p)], .dat (.ints .i64 l), .v (.int .i64 c)] ;; [] ;; (.v (.int .i64 (askE g p l c))) ;; []
--%VC covE ;; (g : Int) (p l : List Int) ;; GFg ;; fun _ => none ;; fse.Covers ;; [.ag [.v (.int .i64 g), .dat (.ints .i64 p)], .dat (.ints .i64 l)] ;; [] ;; (.tu [.v (.bool (covB g p l)), .v (.int .i64 (dchk g p))]) ;; []
--%VC wrt1F ;; (g : Int) (p l : List Int) ;; GFh ;; fun _ => none ;; fse.Write ;; [.ag [.v (.int .i64 g), .dat (.ints .i64 p)], .dat (.ints .i64 l)] ;; [] ;; (.tu [.v (.string (wrtS g p l 1)), .v (.int .i64 (askE g p l 1))]) ;; []
--%VC wrt2F ;; (g : Int) (p l : List Int) ;; GFh ;; fun _ => none ;; fse.WriteTwo ;; [.ag [.v (.int .i64 g), .dat (.ints .i64 p)], .dat (.ints .i64 l)] ;; [] ;; (.tu [.v (.string (wrtS g p l 2)), .v (.int .i64 (askE g p l 2))]) ;; []
--%VC cosF ;; (g : Int) (p l : List Int) ;; GFh ;; fun _ => none ;; fse.Cost ;; [.ag [.v (.int .i64 g), .dat (.ints .i64 p)], .dat (.ints .i64 l)] ;; [] ;; (.tu [.v (.int .i64 (cosN g p l)), .v (.int .i64 (askE g p l 1))]) ;; []
--%VC rwrt1F ;; (g : Int) (p l : List Int) ;; GFe ;; one (oRw1 g p l) ;; ref12.Write ;; [.ag [.v (.int .i64 g), .dat (.ints .i64 p)], .dat (.ints .i64 l)] ;; [] ;; (.tu [.v (.string (wrtS g p l 1)), .v (.int .i64 (askE g p l 1))]) ;; []
--%VC rwrt2F ;; (g : Int) (p l : List Int) ;; GFe ;; one (oRw2 g p l) ;; ref12.WriteTwo ;; [.ag [.v (.int .i64 g), .dat (.ints .i64 p)], .dat (.ints .i64 l)] ;; [] ;; (.tu [.v (.string (wrtS g p l 2)), .v (.int .i64 (askE g p l 2))]) ;; []
--%VC rcosF ;; (g : Int) (p l : List Int) ;; GFe ;; fun _ => none ;; ref12.Cost ;; [.ag [.v (.int .i64 g), .dat (.ints .i64 p)], .dat (.ints .i64 l)] ;; [] ;; (.tu [.v (.int .i64 (cosN g p l)), .v (.int .i64 (askE g p l 1))]) ;; []
-/
end Go.Proofs.Ytbdgknebimdjoaa
/-
  The conditions of the functions told in the text before, and that they are the executor's. Conditions: none.
-/
namespace Go.Proofs.Ytbdgknebimdjoaa
open Go Go.RowKit
set_option linter.unusedVariables false
set_option maxRecDepth 100000
def noDF_t (x g : Int) (p : List Int) : Prop :=
 (decide (x < (0 : Int)) = true → true = noD p x ∧ g = g ∧ p = p) ∧
 (decide (x < (0 : Int)) = false →
 (decide (x ≥ (↑(List.length p) : Int)) = true → true = noD p x ∧ g = g ∧ p = p) ∧
 (decide (x ≥ (↑(List.length p) : Int)) = false → (0 : Int) ≤ x ∧ x < (↑(List.length p) : Int) ∧ (List.getD p (Int.toNat x) (0 : Int) == (0 : Int)) = noD p x ∧ g = g ∧ p = p))
--end
theorem noDF_e (x g : Int) (p : List Int) : noDF_t x g p = vcG Try.prog (Gof []) (fun _ => none) Try.f111 [.v (.int .i64 x), .p 0 0 0] [(0, .cells 24 [.v (.int .i64 g), .dat (.ints .i64 p)])] (.leaf ((.v (.bool (noD p x)))) ([(0, .cells 24 [.v (.int .i64 g), .dat (.ints .i64 p)])])) := by kernel_rfl
def rcovF_t (g : Int) (p l : List Int) : Prop :=
 (∃ (x0 : Nat), (x0 ≤ List.length l ∧ List.any (List.take x0 l) (noD p) = false) ∧ l = l ∧ (0 : Int) = (↑x0 : Int) ∧ g = g ∧ p = p) ∧
 ∀ (x1 : Nat),
 x1 ≤ List.length l ∧ List.any (List.take x1 l) (noD p) = false →
 (decide ((↑x1 : Int) < (↑(List.length l) : Int)) = true →
 (0 : Int) ≤ (↑x1 : Int) ∧
 (↑x1 : Int) < (↑(List.length l) : Int) ∧
 (decide (List.getD l (Int.toNat (↑x1 : Int)) (0 : Int) < (0 : Int)) = true → false = !List.any l (noD p)) ∧
 (decide (List.getD l (Int.toNat (↑x1 : Int)) (0 : Int) < (0 : Int)) = false →
 (0 : Int) ≤ (↑x1 : Int) ∧
 (↑x1 : Int) < (↑(List.length l) : Int) ∧
 (decide (List.getD l (Int.toNat (↑x1 : Int)) (0 : Int) ≥ (↑(List.length p) : Int)) = true → false = !List.any l (noD p)) ∧
 (decide (List.getD l (Int.toNat (↑x1 : Int)) (0 : Int) ≥ (↑(List.length p) : Int)) = false →
 (0 : Int) ≤ (↑x1 : Int) ∧
 (↑x1 : Int) < (↑(List.length l) : Int) ∧
 (0 : Int) ≤ List.getD l (Int.toNat (↑x1 : Int)) (0 : Int) ∧
 List.getD l (Int.toNat (↑x1 : Int)) (0 : Int) < (↑(List.length p) : Int) ∧
 ((List.getD p (Int.toNat (List.getD l (Int.toNat (↑x1 : Int)) (0 : Int))) (0 : Int) == (0 : Int)) = true → false = !List.any l (noD p)) ∧
 ((List.getD p (Int.toNat (List.getD l (Int.toNat (↑x1 : Int)) (0 : Int))) (0 : Int) == (0 : Int)) = false →
 ∃ (y2 : Nat),
 (y2 ≤ List.length l ∧ List.any (List.take y2 l) (noD p) = false) ∧
 Nat.sub (List.length l) y2 < Nat.sub (List.length l) x1 ∧ l = l ∧ IntKind.wrap IntKind.i64 ((↑x1 : Int) + (1 : Int)) = (↑y2 : Int) ∧ g = g ∧ p = p)))) ∧
 (decide ((↑x1 : Int) < (↑(List.length l) : Int)) = false → true = !List.any l (noD p))
--end
theorem rcovF_e (g : Int) (p l : List Int) : rcovF_t g p l = vcG Try.prog (Gof []) (one (oCovD g p l)) Try.f82 [.ag [.v (.int .i64 g), .dat (.ints .i64 p)], .dat (.ints .i64 l)] [] (.leaf ((.v (.bool (!l.any (noD p))))) ([])) := by kernel_rfl
def idxD_t (l : List Int) (g : Int) (p : List Int) : Prop :=
 (∃ (x0 : Nat), (x0 ≤ List.length l ∧ List.any (List.take x0 l) (noD p) = false) ∧ l = l ∧ (↑(List.length l) : Int) = (↑(List.length l) : Int) ∧ (0 : Int) = (↑x0 : Int) ∧ g = g ∧ p = p) ∧
 ∀ (x1 : Nat),
 x1 ≤ List.length l ∧ List.any (List.take x1 l) (noD p) = false →
 (decide ((↑x1 : Int) < (↑(List.length l) : Int)) = true →
 (0 : Int) ≤ (↑x1 : Int) ∧
 (↑x1 : Int) < (↑(List.length l) : Int) ∧
 List.length p ≤ (4294967296 : Nat) ∧
 (noD p (List.getD l (Int.toNat (↑x1 : Int)) (0 : Int)) = true → ((↑x1 : Int) = bif List.any l (noD p) then (↑(List.findIdx (noD p) l) : Int) else (-1 : Int)) ∧ g = g ∧ p = p) ∧
 (noD p (List.getD l (Int.toNat (↑x1 : Int)) (0 : Int)) = false →
 ∃ (y2 : Nat),
 (y2 ≤ List.length l ∧ List.any (List.take y2 l) (noD p) = false) ∧
 Nat.sub (List.length l) y2 < Nat.sub (List.length l) x1 ∧
 l = l ∧ (↑(List.length l) : Int) = (↑(List.length l) : Int) ∧ IntKind.wrap IntKind.i64 ((↑x1 : Int) + (1 : Int)) = (↑y2 : Int) ∧ g = g ∧ p = p)) ∧
 (decide ((↑x1 : Int) < (↑(List.length l) : Int)) = false → ((-1 : Int) = bif List.any l (noD p) then (↑(List.findIdx (noD p) l) : Int) else (-1 : Int)) ∧ g = g ∧ p = p)
--end
theorem idxD_e (l : List Int) (g : Int) (p : List Int) : idxD_t l g p = vcG Try.prog (Gof GFd) (one (oIdxD g p l)) Try.f98 [.dat (.ints .i64 l), .fn (.func 111) [] [.p 0 0 0]] [(0, .cells 24 [.v (.int .i64 g), .dat (.ints .i64 p)])] (.leaf ((.v (.int .i64 (cond (l.any (noD p)) ((l.findIdx (noD p) : Nat) : Int) (-1))))) ([(0, .cells 24 [.v (.int .i64 g), .dat (.ints .i64 p)])])) := by kernel_rfl
def raskF_t (g : Int) (p l : List Int) (c : Int) : Prop :=
 List.length p ≤ (4294967296 : Nat) ∧
 ((dchk g p != (0 : Int)) = true → dchk g p = askE g p l c) ∧
 ((dchk g p != (0 : Int)) = false →
 (decide ((↑(List.length l) : Int) > (100000 : Int)) = true → (4 : Int) = askE g p l c) ∧
 (decide ((↑(List.length l) : Int) > (100000 : Int)) = false →
 (decide ((↑(List.length l) : Int) < c) = true → (5 : Int) = askE g p l c) ∧
 (decide ((↑(List.length l) : Int) < c) = false →
 List.length p ≤ (4294967296 : Nat) ∧
 List.length l ≤ (4294967296 : Nat) ∧ ((!!List.any l (noD p)) = true → (7 : Int) = askE g p l c) ∧ ((!!List.any l (noD p)) = false → (0 : Int) = askE g p l c))))
--end
theorem raskF_e (g : Int) (p l : List Int) (c : Int) : raskF_t g p l c = vcG Try.prog (Gof GFd) (fun _ => none) Try.f78 [.ag [.v (.int .i64 g), .dat (.ints .i64 p)], .dat (.ints .i64 l), .v (.int .i64 c)] [] (.leaf ((.v (.int .i64 (askE g p l c)))) ([])) := by kernel_rfl
def rcovE_t (g : Int) (p l : List Int) : Prop :=
 List.length p ≤ (4294967296 : Nat) ∧
 ((dchk g p != (0 : Int)) = true → false = covB g p l ∧ dchk g p = dchk g p) ∧
 ((dchk g p != (0 : Int)) = false → List.length p ≤ (4294967296 : Nat) ∧ List.length l ≤ (4294967296 : Nat) ∧ (!List.any l (noD p)) = covB g p l ∧ (0 : Int) = dchk g p)
--end
theorem rcovE_e (g : Int) (p l : List Int) : rcovE_t g p l = vcG Try.prog (Gof GFd) (fun _ => none) Try.f48 [.ag [.v (.int .i64 g), .dat (.ints .i64 p)], .dat (.ints .i64 l)] [] (.leaf ((.tu [.v (.bool (covB g p l)), .v (.int .i64 (dchk g p))])) ([])) := by kernel_rfl
def hasD_t (l : List Int) (g : Int) (p : List Int) : Prop :=
 List.length l ≤ (4294967296 : Nat) ∧
 List.length p ≤ (4294967296 : Nat) ∧ decide ((bif List.any l (noD p) then (↑(List.findIdx (noD p) l) : Int) else (-1 : Int)) ≥ (0 : Int)) = List.any l (noD p) ∧ g = g ∧ p = p
--end
theorem hasD_e (l : List Int) (g : Int) (p : List Int) : hasD_t l g p = vcG Try.prog (Gof GFe) (fun _ => none) Try.f63 [.dat (.ints .i64 l), .fn (.func 111) [] [.p 0 0 0]] [(0, .cells 24 [.v (.int .i64 g), .dat (.ints .i64 p)])] (.leaf ((.v (.bool (l.any (noD p))))) ([(0, .cells 24 [.v (.int .i64 g), .dat (.ints .i64 p)])])) := by kernel_rfl
def covF_t (g : Int) (p l : List Int) : Prop :=
 List.length l ≤ (4294967296 : Nat) ∧ List.length p ≤ (4294967296 : Nat) ∧ (!List.any l (noD p)) = !List.any l (noD p)
--end
theorem covF_e (g : Int) (p l : List Int) : covF_t g p l = vcG Try.prog (Gof GFf) (fun _ => none) Try.f81 [.ag [.v (.int .i64 g), .dat (.ints .i64 p)], .dat (.ints .i64 l)] [] (.leaf ((.v (.bool (!l.any (noD p))))) ([])) := by kernel_rfl
def fwrF_t (g : Int) (p l : List Int) (c : Nat) : Prop :=
 List.length p ≤ (4294967296 : Nat) ∧
 ∃ (y0 : Unit),
 ISat Try.prog ((139 : Nat)) [SV.p (600008 : Nat) (0 : Nat) (0 : Nat)] [((600008 : Nat), SBlk.cells (22 : TypeId) [SV.dat (Dat.ints IntKind.i64 l)])]
 (List.map (fun (k : Nat) => [Value.int IntKind.i64 (↑(nthI l k) : Int), Value.int IntKind.i64 (nthS l k)]) (List.range (List.length l))) ∧
 l = l ∧
 True ∧
 (g = g ∧
 p = p ∧
 (↑c : Int) = (↑c : Int) ∧
 ByteArray.empty = ByteArray.empty ∧
 (0 : Int) = (0 : Int) ∧
 (0 : Int) = (0 : Int) ∧
 encG g p = g ∧
 encL g p = encL g p ∧
 ByteArray.empty = fwS g (encL g p) l c (0 : Nat) ∧
 (0 : Int) = fwP g (encL g p) l c (0 : Nat) ∧
 (0 : Int) = fwN g (encL g p) l c (0 : Nat) ∧ List.replicate (2 : Nat) (0 : Int) = fwX g (encL g p) l c (0 : Nat) ∧ List.replicate (2 : Nat) false = fwG l c (0 : Nat)) ∧
 (∀ (i1 : Nat),
 i1 < List.length (List.map (fun (k : Nat) => [Value.int IntKind.i64 (↑(nthI l k) : Int), Value.int IntKind.i64 (nthS l k)]) (List.range (List.length l))) →
 True →
 (List.map (fun (k : Nat) => [Value.int IntKind.i64 (↑(nthI l k) : Int), Value.int IntKind.i64 (nthS l k)]) (List.range (List.length l)))[i1]? =
 some [Value.int IntKind.i64 (↑(nthI l i1) : Int), Value.int IntKind.i64 (nthS l i1)] ∧
 List.length [Value.int IntKind.i64 (↑(nthI l i1) : Int), Value.int IntKind.i64 (nthS l i1)] = List.length #[(27 : Nat), (28 : Nat)].toList ∧
 (↑c : Int) ≠ (0 : Int) ∧
 (0 : Int) ≤ Int.tmod (↑(nthI l i1) : Int) (↑c : Int) ∧
 Int.tmod (↑(nthI l i1) : Int) (↑c : Int) < (↑(2 : Nat) : Int) ∧
 Int.toNat (Int.tmod (↑(nthI l i1) : Int) (↑c : Int)) < List.length (fwG l c i1) ∧
 ((!List.getD (fwG l c i1) (Int.toNat (Int.tmod (↑(nthI l i1) : Int) (↑c : Int))) false) = true →
 List.length (encL g p) ≤ (4294967296 : Nat) ∧
 litT g (encL g p) = true ∧
 (0 : Int) ≤ Int.tmod (↑(nthI l i1) : Int) (↑c : Int) ∧
 Int.tmod (↑(nthI l i1) : Int) (↑c : Int) < (↑(2 : Nat) : Int) ∧
 Int.toNat (Int.tmod (↑(nthI l i1) : Int) (↑c : Int)) < List.length (fwX g (encL g p) l c i1) ∧
 (0 : Int) ≤ Int.tmod (↑(nthI l i1) : Int) (↑c : Int) ∧
 Int.tmod (↑(nthI l i1) : Int) (↑c : Int) < (↑(2 : Nat) : Int) ∧
 Int.toNat (Int.tmod (↑(nthI l i1) : Int) (↑c : Int)) < List.length (fwG l c i1) ∧
 True ∧
 g = g ∧
 p = p ∧
 (↑c : Int) = (↑c : Int) ∧
 ByteArray.empty = ByteArray.empty ∧
 (0 : Int) = (0 : Int) ∧
 (0 : Int) = (0 : Int) ∧
 g = g ∧
 encL g p = encL g p ∧
 fwS g (encL g p) l c i1 = fwS g (encL g p) l c (i1 + (1 : Nat)) ∧
 fwP g (encL g p) l c i1 = fwP g (encL g p) l c (i1 + (1 : Nat)) ∧
 fwN g (encL g p) l c i1 = fwN g (encL g p) l c (i1 + (1 : Nat)) ∧
 List.set (fwX g (encL g p) l c i1) (Int.toNat (Int.tmod (↑(nthI l i1) : Int) (↑c : Int))) (frI g (encL g p) (nthS l i1)) =
 fwX g (encL g p) l c (i1 + (1 : Nat)) ∧
 List.set (fwG l c i1) (Int.toNat (Int.tmod (↑(nthI l i1) : Int) (↑c : Int))) true = fwG l c (i1 + (1 : Nat))) ∧
 ((!List.getD (fwG l c i1) (Int.toNat (Int.tmod (↑(nthI l i1) : Int) (↑c : Int))) false) = false →
 (0 : Int) ≤ Int.tmod (↑(nthI l i1) : Int) (↑c : Int) ∧
 Int.tmod (↑(nthI l i1) : Int) (↑c : Int) < (↑(2 : Nat) : Int) ∧
 Int.toNat (Int.tmod (↑(nthI l i1) : Int) (↑c : Int)) < List.length (fwX g (encL g p) l c i1) ∧
 List.length (encL g p) ≤ (4294967296 : Nat) ∧
 litT g (encL g p) = true ∧
 (0 : Int) ≤ fwN g (encL g p) l c i1 ∧
 fwN g (encL g p) l c i1 ≤ (7 : Int) ∧
 (0 : Int) ≤ fwP g (encL g p) l c i1 ∧
 fwP g (encL g p) l c i1 < (2 : Int) ^ Int.toNat (fwN g (encL g p) l c i1) ∧
 (0 : Int) ≤ puB g (encL g p) (List.getD (fwX g (encL g p) l c i1) (Int.toNat (Int.tmod (↑(nthI l i1) : Int) (↑c : Int))) (0 : Int)) (nthS l i1) ∧
 puB g (encL g p) (List.getD (fwX g (encL g p) l c i1) (Int.toNat (Int.tmod (↑(nthI l i1) : Int) (↑c : Int))) (0 : Int)) (nthS l i1) ≤
 (32 : Int) ∧
 (0 : Int) ≤
 IntKind.wrap IntKind.u64
 (puV g (encL g p) (List.getD (fwX g (encL g p) l c i1) (Int.toNat (Int.tmod (↑(nthI l i1) : Int) (↑c : Int))) (0 : Int)) (nthS l i1)) ∧
 IntKind.wrap IntKind.u64
 (puV g (encL g p) (List.getD (fwX g (encL g p) l c i1) (Int.toNat (Int.tmod (↑(nthI l i1) : Int) (↑c : Int))) (0 : Int))
 (nthS l i1)) <
 (2 : Int) ^
 Int.toNat
 (puB g (encL g p) (List.getD (fwX g (encL g p) l c i1) (Int.toNat (Int.tmod (↑(nthI l i1) : Int) (↑c : Int))) (0 : Int))
 (nthS l i1)) ∧
 ByteArray.size (fwS g (encL g p) l c i1) ≤ (1000000 : Nat) ∧
 (0 : Int) ≤ Int.tmod (↑(nthI l i1) : Int) (↑c : Int) ∧
 Int.tmod (↑(nthI l i1) : Int) (↑c : Int) < (↑(2 : Nat) : Int) ∧
 Int.toNat (Int.tmod (↑(nthI l i1) : Int) (↑c : Int)) < List.length (fwX g (encL g p) l c i1) ∧
 True ∧
 g = g ∧
 p = p ∧
 (↑c : Int) = (↑c : Int) ∧
 ByteArray.empty = ByteArray.empty ∧
 (0 : Int) = (0 : Int) ∧
 (0 : Int) = (0 : Int) ∧
 g = g ∧
 encL g p = encL g p ∧
 wS (fwS g (encL g p) l c i1) (fwP g (encL g p) l c i1) (fwN g (encL g p) l c i1)
 (puB g (encL g p)
 (List.getD (fwX g (encL g p) l c i1) (Int.toNat (Int.tmod (↑(nthI l i1) : Int) (↑c : Int))) (0 : Int))
 (nthS l i1))
 (IntKind.wrap IntKind.u64
 (puV g (encL g p)
 (List.getD (fwX g (encL g p) l c i1) (Int.toNat (Int.tmod (↑(nthI l i1) : Int) (↑c : Int))) (0 : Int))
 (nthS l i1))) =
 fwS g (encL g p) l c (i1 + (1 : Nat)) ∧
 wP (fwP g (encL g p) l c i1) (fwN g (encL g p) l c i1)
 (puB g (encL g p)
 (List.getD (fwX g (encL g p) l c i1) (Int.toNat (Int.tmod (↑(nthI l i1) : Int) (↑c : Int))) (0 : Int))
 (nthS l i1))
 (IntKind.wrap IntKind.u64
 (puV g (encL g p)
 (List.getD (fwX g (encL g p) l c i1) (Int.toNat (Int.tmod (↑(nthI l i1) : Int) (↑c : Int)))
 (0 : Int))
 (nthS l i1))) =
 fwP g (encL g p) l c (i1 + (1 : Nat)) ∧
 wN (fwN g (encL g p) l c i1)
 (puB g (encL g p)
 (List.getD (fwX g (encL g p) l c i1) (Int.toNat (Int.tmod (↑(nthI l i1) : Int) (↑c : Int)))
 (0 : Int))
 (nthS l i1)) =
 fwN g (encL g p) l c (i1 + (1 : Nat)) ∧
 List.set (fwX g (encL g p) l c i1) (Int.toNat (Int.tmod (↑(nthI l i1) : Int) (↑c : Int)))
 (puS g (encL g p)
 (List.getD (fwX g (encL g p) l c i1) (Int.toNat (Int.tmod (↑(nthI l i1) : Int) (↑c : Int)))
 (0 : Int))
 (nthS l i1)) =
 fwX g (encL g p) l c (i1 + (1 : Nat)) ∧
 fwG l c i1 = fwG l c (i1 + (1 : Nat)))) ∧
 (True →
 (∃ (x2 : Nat),
 Nat.le x2 c ∧
 IntKind.wrap IntKind.i64 ((↑c : Int) - (1 : Int)) = (↑c : Int) - (1 : Int) - (↑x2 : Int) ∧
 g = g ∧
 p = p ∧
 ByteArray.empty = ByteArray.empty ∧
 (0 : Int) = (0 : Int) ∧
 (0 : Int) = (0 : Int) ∧
 fwS g (encL g p) l c
 (List.length (List.map (fun (k : Nat) => [Value.int IntKind.i64 (↑(nthI l k) : Int), Value.int IntKind.i64 (nthS l k)]) (List.range (List.length l)))) =
 ffS g (encL g p) l c x2 ∧
 fwP g (encL g p) l c
 (List.length (List.map (fun (k : Nat) => [Value.int IntKind.i64 (↑(nthI l k) : Int), Value.int IntKind.i64 (nthS l k)]) (List.range (List.length l)))) =
 ffP g (encL g p) l c x2 ∧
 fwN g (encL g p) l c
 (List.length (List.map (fun (k : Nat) => [Value.int IntKind.i64 (↑(nthI l k) : Int), Value.int IntKind.i64 (nthS l k)]) (List.range (List.length l)))) =
 ffN g (encL g p) l c x2 ∧
 fwX g (encL g p) l c
 (List.length (List.map (fun (k : Nat) => [Value.int IntKind.i64 (↑(nthI l k) : Int), Value.int IntKind.i64 (nthS l k)]) (List.range (List.length l)))) =
 fwX g (encL g p) l c (List.length l)) ∧
 ∀ (x3 : Nat),
 Nat.le x3 c →
 (decide ((↑c : Int) - (1 : Int) - (↑x3 : Int) ≥ (0 : Int)) = true →
 (0 : Int) ≤ (↑c : Int) - (1 : Int) - (↑x3 : Int) ∧
 (↑c : Int) - (1 : Int) - (↑x3 : Int) < (↑(2 : Nat) : Int) ∧
 Int.toNat ((↑c : Int) - (1 : Int) - (↑x3 : Int)) < List.length (fwX g (encL g p) l c (List.length l)) ∧
 (0 : Int) ≤ ffN g (encL g p) l c x3 ∧
 ffN g (encL g p) l c x3 ≤ (7 : Int) ∧
 (0 : Int) ≤ ffP g (encL g p) l c x3 ∧
 ffP g (encL g p) l c x3 < (2 : Int) ^ Int.toNat (ffN g (encL g p) l c x3) ∧
 (0 : Int) ≤ g ∧
 g ≤ (32 : Int) ∧
 (0 : Int) ≤ IntKind.wrap IntKind.u64 (List.getD (fwX g (encL g p) l c (List.length l)) (Int.toNat ((↑c : Int) - (1 : Int) - (↑x3 : Int))) (0 : Int)) ∧
 IntKind.wrap IntKind.u64 (List.getD (fwX g (encL g p) l c (List.length l)) (Int.toNat ((↑c : Int) - (1 : Int) - (↑x3 : Int))) (0 : Int)) <
 (2 : Int) ^ Int.toNat g ∧
 ByteArray.size (ffS g (encL g p) l c x3) ≤ (1000000 : Nat) ∧
 ∃ (y4 : Nat),
 Nat.le y4 c ∧
 Nat.sub c y4 < Nat.sub c x3 ∧
 IntKind.wrap IntKind.i64 ((↑c : Int) - (1 : Int) - (↑x3 : Int) - (1 : Int)) = (↑c : Int) - (1 : Int) - (↑y4 : Int) ∧
 g = g ∧
 p = p ∧
 ByteArray.empty = ByteArray.empty ∧
 (0 : Int) = (0 : Int) ∧
 (0 : Int) = (0 : Int) ∧
 wS (ffS g (encL g p) l c x3) (ffP g (encL g p) l c x3) (ffN g (encL g p) l c x3) g
 (IntKind.wrap IntKind.u64
 (List.getD (fwX g (encL g p) l c (List.length l)) (Int.toNat ((↑c : Int) - (1 : Int) - (↑x3 : Int))) (0 : Int))) =
 ffS g (encL g p) l c y4 ∧
 wP (ffP g (encL g p) l c x3) (ffN g (encL g p) l c x3) g
 (IntKind.wrap IntKind.u64
 (List.getD (fwX g (encL g p) l c (List.length l)) (Int.toNat ((↑c : Int) - (1 : Int) - (↑x3 : Int))) (0 : Int))) =
 ffP g (encL g p) l c y4 ∧
 wN (ffN g (encL g p) l c x3) g = ffN g (encL g p) l c y4 ∧
 fwX g (encL g p) l c (List.length l) = fwX g (encL g p) l c (List.length l)) ∧
 (decide ((↑c : Int) - (1 : Int) - (↑x3 : Int) ≥ (0 : Int)) = false →
 ffS g (encL g p) l c x3 = ffS g (encL g p) l c c ∧ ffP g (encL g p) l c x3 = ffP g (encL g p) l c c ∧ ffN g (encL g p) l c x3 = ffN g (encL g p) l c c))
--end
theorem fwrF_e (g : Int) (p l : List Int) (c : Nat) : fwrF_t g p l c = vcG Try.prog (Gof GFf) (oFw g p l c) Try.f76 [.ag [.v (.int .i64 g), .dat (.ints .i64 p)], .dat (.ints .i64 l), .v (.int .i64 (c : Nat))] [] (.leaf ((.ag [.v (.string (ffS g (encL g p) l c c)), .v (.int .i64 (ffP g (encL g p) l c c)), .v (.int .i64 (ffN g (encL g p) l c c))])) ([])) := by kernel_rfl
def askF_t (g : Int) (p l : List Int) (c : Int) : Prop :=
 List.length p ≤ (4294967296 : Nat) ∧
 ((dchk g p != (0 : Int)) = true → dchk g p = askE g p l c) ∧
 ((dchk g p != (0 : Int)) = false →
 (decide ((↑(List.length l) : Int) > (100000 : Int)) = true → (4 : Int) = askE g p l c) ∧
 (decide ((↑(List.length l) : Int) > (100000 : Int)) = false →
 (decide ((↑(List.length l) : Int) < c) = true → (5 : Int) = askE g p l c) ∧
 (decide ((↑(List.length l) : Int) < c) = false →
 List.length p ≤ (4294967296 : Nat) ∧
 List.length l ≤ (4294967296 : Nat) ∧ ((!!List.any l (noD p)) = true → (7 : Int) = askE g p l c) ∧ ((!!List.any l (noD p)) = false → (0 : Int) = askE g p l c))))
--end
theorem askF_e (g : Int) (p l : List Int) (c : Int) : askF_t g p l c = vcG Try.prog (Gof GFg) (fun _ => none) Try.f75 [.ag [.v (.int .i64 g), .dat (.ints .i64 p)], .dat (.ints .i64 l), .v (.int .i64 c)] [] (.leaf ((.v (.int .i64 (askE g p l c)))) ([])) := by kernel_rfl
def covE_t (g : Int) (p l : List Int) : Prop :=
 List.length p ≤ (4294967296 : Nat) ∧
 ((dchk g p != (0 : Int)) = true → false = covB g p l ∧ dchk g p = dchk g p) ∧
 ((dchk g p != (0 : Int)) = false → List.length p ≤ (4294967296 : Nat) ∧ List.length l ≤ (4294967296 : Nat) ∧ (!List.any l (noD p)) = covB g p l ∧ (0 : Int) = dchk g p)
--end
theorem covE_e (g : Int) (p l : List Int) : covE_t g p l = vcG Try.prog (Gof GFg) (fun _ => none) Try.f47 [.ag [.v (.int .i64 g), .dat (.ints .i64 p)], .dat (.ints .i64 l)] [] (.leaf ((.tu [.v (.bool (covB g p l)), .v (.int .i64 (dchk g p))])) ([])) := by kernel_rfl
def wrt1F_t (g : Int) (p l : List Int) : Prop :=
 List.length p ≤ (4294967296 : Nat) ∧
 List.length l ≤ (4294967296 : Nat) ∧
 ((askE g p l (1 : Int) != (0 : Int)) = true → ByteArray.empty = wrtS g p l (1 : Nat) ∧ askE g p l (1 : Int) = askE g p l (1 : Int)) ∧
 ((askE g p l (1 : Int) != (0 : Int)) = false →
 askE g p l (1 : Int) = (0 : Int) ∧
 ((1 : Int) = (1 : Int) ∨ (1 : Int) = (2 : Int)) ∧
 (0 : Int) ≤ ffN g (encL g p) l (Int.toNat (1 : Int)) (Int.toNat (1 : Int)) ∧
 ffN g (encL g p) l (Int.toNat (1 : Int)) (Int.toNat (1 : Int)) ≤ (7 : Int) ∧
 (0 : Int) ≤ ffP g (encL g p) l (Int.toNat (1 : Int)) (Int.toNat (1 : Int)) ∧
 ffP g (encL g p) l (Int.toNat (1 : Int)) (Int.toNat (1 : Int)) < (2 : Int) ^ Int.toNat (ffN g (encL g p) l (Int.toNat (1 : Int)) (Int.toNat (1 : Int))) ∧
 ByteArray.size (ffS g (encL g p) l (Int.toNat (1 : Int)) (Int.toNat (1 : Int))) ≤ (1000000 : Nat) ∧
 dS (ffS g (encL g p) l (Int.toNat (1 : Int)) (Int.toNat (1 : Int))) (ffP g (encL g p) l (Int.toNat (1 : Int)) (Int.toNat (1 : Int)))
 (ffN g (encL g p) l (Int.toNat (1 : Int)) (Int.toNat (1 : Int))) =
 wrtS g p l (1 : Nat) ∧
 (0 : Int) = askE g p l (1 : Int))
--end
theorem wrt1F_e (g : Int) (p l : List Int) : wrt1F_t g p l = vcG Try.prog (Gof GFh) (fun _ => none) Try.f40 [.ag [.v (.int .i64 g), .dat (.ints .i64 p)], .dat (.ints .i64 l)] [] (.leaf ((.tu [.v (.string (wrtS g p l 1)), .v (.int .i64 (askE g p l 1))])) ([])) := by kernel_rfl
def wrt2F_t (g : Int) (p l : List Int) : Prop :=
 List.length p ≤ (4294967296 : Nat) ∧
 List.length l ≤ (4294967296 : Nat) ∧
 ((askE g p l (2 : Int) != (0 : Int)) = true → ByteArray.empty = wrtS g p l (2 : Nat) ∧ askE g p l (2 : Int) = askE g p l (2 : Int)) ∧
 ((askE g p l (2 : Int) != (0 : Int)) = false →
 askE g p l (2 : Int) = (0 : Int) ∧
 ((2 : Int) = (1 : Int) ∨ (2 : Int) = (2 : Int)) ∧
 (0 : Int) ≤ ffN g (encL g p) l (Int.toNat (2 : Int)) (Int.toNat (2 : Int)) ∧
 ffN g (encL g p) l (Int.toNat (2 : Int)) (Int.toNat (2 : Int)) ≤ (7 : Int) ∧
 (0 : Int) ≤ ffP g (encL g p) l (Int.toNat (2 : Int)) (Int.toNat (2 : Int)) ∧
 ffP g (encL g p) l (Int.toNat (2 : Int)) (Int.toNat (2 : Int)) < (2 : Int) ^ Int.toNat (ffN g (encL g p) l (Int.toNat (2 : Int)) (Int.toNat (2 : Int))) ∧
 ByteArray.size (ffS g (encL g p) l (Int.toNat (2 : Int)) (Int.toNat (2 : Int))) ≤ (1000000 : Nat) ∧
 dS (ffS g (encL g p) l (Int.toNat (2 : Int)) (Int.toNat (2 : Int))) (ffP g (encL g p) l (Int.toNat (2 : Int)) (Int.toNat (2 : Int)))
 (ffN g (encL g p) l (Int.toNat (2 : Int)) (Int.toNat (2 : Int))) =
 wrtS g p l (2 : Nat) ∧
 (0 : Int) = askE g p l (2 : Int))
--end
theorem wrt2F_e (g : Int) (p l : List Int) : wrt2F_t g p l = vcG Try.prog (Gof GFh) (fun _ => none) Try.f44 [.ag [.v (.int .i64 g), .dat (.ints .i64 p)], .dat (.ints .i64 l)] [] (.leaf ((.tu [.v (.string (wrtS g p l 2)), .v (.int .i64 (askE g p l 2))])) ([])) := by kernel_rfl
def cosF_t (g : Int) (p l : List Int) : Prop :=
 List.length p ≤ (4294967296 : Nat) ∧
 List.length l ≤ (4294967296 : Nat) ∧
 ((askE g p l (1 : Int) != (0 : Int)) = true → (0 : Int) = cosN g p l ∧ askE g p l (1 : Int) = askE g p l (1 : Int)) ∧
 ((askE g p l (1 : Int) != (0 : Int)) = false →
 askE g p l (1 : Int) = (0 : Int) ∧
 ((1 : Int) = (1 : Int) ∨ (1 : Int) = (2 : Int)) ∧
 IntKind.wrap IntKind.i64
 (IntKind.wrap IntKind.i64 ((8 : Int) * (↑(ByteArray.size (ffS g (encL g p) l (Int.toNat (1 : Int)) (Int.toNat (1 : Int)))) : Int)) +
 ffN g (encL g p) l (Int.toNat (1 : Int)) (Int.toNat (1 : Int))) =
 cosN g p l ∧
 (0 : Int) = askE g p l (1 : Int))
--end
theorem cosF_e (g : Int) (p l : List Int) : cosF_t g p l = vcG Try.prog (Gof GFh) (fun _ => none) Try.f37 [.ag [.v (.int .i64 g), .dat (.ints .i64 p)], .dat (.ints .i64 l)] [] (.leaf ((.tu [.v (.int .i64 (cosN g p l)), .v (.int .i64 (askE g p l 1))])) ([])) := by kernel_rfl
def rwrt1F_t (g : Int) (p l : List Int) : Prop :=
 List.length p ≤ (4294967296 : Nat) ∧
 List.length l ≤ (4294967296 : Nat) ∧
 ((askE g p l (1 : Int) != (0 : Int)) = true → ByteArray.empty = wrtS g p l (1 : Nat) ∧ askE g p l (1 : Int) = askE g p l (1 : Int)) ∧
 ((askE g p l (1 : Int) != (0 : Int)) = false →
 List.length p ≤ (4294967296 : Nat) ∧
 (0 : Int) ≤ IntKind.wrap IntKind.i64 ((↑(List.length l) : Int) - (1 : Int)) ∧
 IntKind.wrap IntKind.i64 ((↑(List.length l) : Int) - (1 : Int)) < (↑(List.length l) : Int) ∧
 List.length (encL g p) ≤ (4294967296 : Nat) ∧
 litT (encG g p) (encL g p) = true ∧
 (∃ (x0 : Nat),
 ((1 : Nat) ≤ x0 ∧ x0 ≤ List.length l ∧ askE g p l (1 : Int) = (0 : Int)) ∧
 l = l ∧
 frI (encG g p) (encL g p) (List.getD l (Int.toNat (IntKind.wrap IntKind.i64 ((↑(List.length l) : Int) - (1 : Int)))) (0 : Int)) =
 List.getD (fwX g (encL g p) l (1 : Nat) x0) (0 : Nat) (0 : Int) ∧
 IntKind.wrap IntKind.i64 ((↑(List.length l) : Int) - (2 : Int)) = (↑(List.length l) : Int) - (1 : Int) - (↑x0 : Int) ∧
 g = g ∧
 p = p ∧
 encG g p = g ∧
 encL g p = encL g p ∧
 ByteArray.empty = fwS g (encL g p) l (1 : Nat) x0 ∧ (0 : Int) = fwP g (encL g p) l (1 : Nat) x0 ∧ (0 : Int) = fwN g (encL g p) l (1 : Nat) x0) ∧
 ∀ (x1 : Nat),
 (1 : Nat) ≤ x1 ∧ x1 ≤ List.length l ∧ askE g p l (1 : Int) = (0 : Int) →
 (decide ((↑(List.length l) : Int) - (1 : Int) - (↑x1 : Int) ≥ (0 : Int)) = true →
 (0 : Int) ≤ (↑(List.length l) : Int) - (1 : Int) - (↑x1 : Int) ∧
 (↑(List.length l) : Int) - (1 : Int) - (↑x1 : Int) < (↑(List.length l) : Int) ∧
 List.length (encL g p) ≤ (4294967296 : Nat) ∧
 litT g (encL g p) = true ∧
 (0 : Int) ≤ fwN g (encL g p) l (1 : Nat) x1 ∧
 fwN g (encL g p) l (1 : Nat) x1 ≤ (7 : Int) ∧
 (0 : Int) ≤ fwP g (encL g p) l (1 : Nat) x1 ∧
 fwP g (encL g p) l (1 : Nat) x1 < (2 : Int) ^ Int.toNat (fwN g (encL g p) l (1 : Nat) x1) ∧
 (0 : Int) ≤
 puB g (encL g p) (List.getD (fwX g (encL g p) l (1 : Nat) x1) (0 : Nat) (0 : Int))
 (List.getD l (Int.toNat ((↑(List.length l) : Int) - (1 : Int) - (↑x1 : Int))) (0 : Int)) ∧
 puB g (encL g p) (List.getD (fwX g (encL g p) l (1 : Nat) x1) (0 : Nat) (0 : Int))
 (List.getD l (Int.toNat ((↑(List.length l) : Int) - (1 : Int) - (↑x1 : Int))) (0 : Int)) ≤
 (32 : Int) ∧
 (0 : Int) ≤
 IntKind.wrap IntKind.u64
 (puV g (encL g p) (List.getD (fwX g (encL g p) l (1 : Nat) x1) (0 : Nat) (0 : Int))
 (List.getD l (Int.toNat ((↑(List.length l) : Int) - (1 : Int) - (↑x1 : Int))) (0 : Int))) ∧
 IntKind.wrap IntKind.u64
 (puV g (encL g p) (List.getD (fwX g (encL g p) l (1 : Nat) x1) (0 : Nat) (0 : Int))
 (List.getD l (Int.toNat ((↑(List.length l) : Int) - (1 : Int) - (↑x1 : Int))) (0 : Int))) <
 (2 : Int) ^
 Int.toNat
 (puB g (encL g p) (List.getD (fwX g (encL g p) l (1 : Nat) x1) (0 : Nat) (0 : Int))
 (List.getD l (Int.toNat ((↑(List.length l) : Int) - (1 : Int) - (↑x1 : Int))) (0 : Int))) ∧
 ByteArray.size (fwS g (encL g p) l (1 : Nat) x1) ≤ (1000000 : Nat) ∧
 ∃ (y2 : Nat),
 ((1 : Nat) ≤ y2 ∧ y2 ≤ List.length l ∧ askE g p l (1 : Int) = (0 : Int)) ∧
 Nat.sub (List.length l) y2 < Nat.sub (List.length l) x1 ∧
 l = l ∧
 puS g (encL g p) (List.getD (fwX g (encL g p) l (1 : Nat) x1) (0 : Nat) (0 : Int))
 (List.getD l (Int.toNat ((↑(List.length l) : Int) - (1 : Int) - (↑x1 : Int))) (0 : Int)) =
 List.getD (fwX g (encL g p) l (1 : Nat) y2) (0 : Nat) (0 : Int) ∧
 IntKind.wrap IntKind.i64 ((↑(List.length l) : Int) - (1 : Int) - (↑x1 : Int) - (1 : Int)) =
 (↑(List.length l) : Int) - (1 : Int) - (↑y2 : Int) ∧
 g = g ∧
 p = p ∧
 g = g ∧
 encL g p = encL g p ∧
 wS (fwS g (encL g p) l (1 : Nat) x1) (fwP g (encL g p) l (1 : Nat) x1) (fwN g (encL g p) l (1 : Nat) x1)
 (puB g (encL g p) (List.getD (fwX g (encL g p) l (1 : Nat) x1) (0 : Nat) (0 : Int))
 (List.getD l (Int.toNat ((↑(List.length l) : Int) - (1 : Int) - (↑x1 : Int))) (0 : Int)))
 (IntKind.wrap IntKind.u64
 (puV g (encL g p) (List.getD (fwX g (encL g p) l (1 : Nat) x1) (0 : Nat) (0 : Int))
 (List.getD l (Int.toNat ((↑(List.length l) : Int) - (1 : Int) - (↑x1 : Int))) (0 : Int)))) =
 fwS g (encL g p) l (1 : Nat) y2 ∧
 wP (fwP g (encL g p) l (1 : Nat) x1) (fwN g (encL g p) l (1 : Nat) x1)
 (puB g (encL g p) (List.getD (fwX g (encL g p) l (1 : Nat) x1) (0 : Nat) (0 : Int))
 (List.getD l (Int.toNat ((↑(List.length l) : Int) - (1 : Int) - (↑x1 : Int))) (0 : Int)))
 (IntKind.wrap IntKind.u64
 (puV g (encL g p) (List.getD (fwX g (encL g p) l (1 : Nat) x1) (0 : Nat) (0 : Int))
 (List.getD l (Int.toNat ((↑(List.length l) : Int) - (1 : Int) - (↑x1 : Int))) (0 : Int)))) =
 fwP g (encL g p) l (1 : Nat) y2 ∧
 wN (fwN g (encL g p) l (1 : Nat) x1)
 (puB g (encL g p) (List.getD (fwX g (encL g p) l (1 : Nat) x1) (0 : Nat) (0 : Int))
 (List.getD l (Int.toNat ((↑(List.length l) : Int) - (1 : Int) - (↑x1 : Int))) (0 : Int))) =
 fwN g (encL g p) l (1 : Nat) y2) ∧
 (decide ((↑(List.length l) : Int) - (1 : Int) - (↑x1 : Int) ≥ (0 : Int)) = false →
 (0 : Int) ≤ fwN g (encL g p) l (1 : Nat) x1 ∧
 fwN g (encL g p) l (1 : Nat) x1 ≤ (7 : Int) ∧
 (0 : Int) ≤ fwP g (encL g p) l (1 : Nat) x1 ∧
 fwP g (encL g p) l (1 : Nat) x1 < (2 : Int) ^ Int.toNat (fwN g (encL g p) l (1 : Nat) x1) ∧
 (0 : Int) ≤ g ∧
 g ≤ (32 : Int) ∧
 (0 : Int) ≤ IntKind.wrap IntKind.u64 (List.getD (fwX g (encL g p) l (1 : Nat) x1) (0 : Nat) (0 : Int)) ∧
 IntKind.wrap IntKind.u64 (List.getD (fwX g (encL g p) l (1 : Nat) x1) (0 : Nat) (0 : Int)) < (2 : Int) ^ Int.toNat g ∧
 ByteArray.size (fwS g (encL g p) l (1 : Nat) x1) ≤ (1000000 : Nat) ∧
 (0 : Int) ≤ wN (fwN g (encL g p) l (1 : Nat) x1) g ∧
 wN (fwN g (encL g p) l (1 : Nat) x1) g ≤ (7 : Int) ∧
 (0 : Int) ≤
 wP (fwP g (encL g p) l (1 : Nat) x1) (fwN g (encL g p) l (1 : Nat) x1) g
 (IntKind.wrap IntKind.u64 (List.getD (fwX g (encL g p) l (1 : Nat) x1) (0 : Nat) (0 : Int))) ∧
 wP (fwP g (encL g p) l (1 : Nat) x1) (fwN g (encL g p) l (1 : Nat) x1) g
 (IntKind.wrap IntKind.u64 (List.getD (fwX g (encL g p) l (1 : Nat) x1) (0 : Nat) (0 : Int))) <
 (2 : Int) ^ Int.toNat (wN (fwN g (encL g p) l (1 : Nat) x1) g) ∧
 ByteArray.size
 (wS (fwS g (encL g p) l (1 : Nat) x1) (fwP g (encL g p) l (1 : Nat) x1) (fwN g (encL g p) l (1 : Nat) x1) g
 (IntKind.wrap IntKind.u64 (List.getD (fwX g (encL g p) l (1 : Nat) x1) (0 : Nat) (0 : Int)))) ≤
 (1000000 : Nat) ∧
 dS
 (wS (fwS g (encL g p) l (1 : Nat) x1) (fwP g (encL g p) l (1 : Nat) x1) (fwN g (encL g p) l (1 : Nat) x1) g
 (IntKind.wrap IntKind.u64 (List.getD (fwX g (encL g p) l (1 : Nat) x1) (0 : Nat) (0 : Int))))
 (wP (fwP g (encL g p) l (1 : Nat) x1) (fwN g (encL g p) l (1 : Nat) x1) g
 (IntKind.wrap IntKind.u64 (List.getD (fwX g (encL g p) l (1 : Nat) x1) (0 : Nat) (0 : Int))))
 (wN (fwN g (encL g p) l (1 : Nat) x1) g) =
 wrtS g p l (1 : Nat) ∧
 (0 : Int) = askE g p l (1 : Int)))
--end
theorem rwrt1F_e (g : Int) (p l : List Int) : rwrt1F_t g p l = vcG Try.prog (Gof GFe) (one (oRw1 g p l)) Try.f43 [.ag [.v (.int .i64 g), .dat (.ints .i64 p)], .dat (.ints .i64 l)] [] (.leaf ((.tu [.v (.string (wrtS g p l 1)), .v (.int .i64 (askE g p l 1))])) ([])) := by kernel_rfl
def rwrt2F_t (g : Int) (p l : List Int) : Prop :=
 List.length p ≤ (4294967296 : Nat) ∧
 List.length l ≤ (4294967296 : Nat) ∧
 ((askE g p l (2 : Int) != (0 : Int)) = true → ByteArray.empty = wrtS g p l (2 : Nat) ∧ askE g p l (2 : Int) = askE g p l (2 : Int)) ∧
 ((askE g p l (2 : Int) != (0 : Int)) = false →
 List.length p ≤ (4294967296 : Nat) ∧
 (2 : Int) ≠ (0 : Int) ∧
 (0 : Int) ≤ IntKind.wrap IntKind.i64 ((↑(List.length l) : Int) - (1 : Int)) ∧
 IntKind.wrap IntKind.i64 ((↑(List.length l) : Int) - (1 : Int)) < (↑(List.length l) : Int) ∧
 List.length (encL g p) ≤ (4294967296 : Nat) ∧
 litT (encG g p) (encL g p) = true ∧
 (0 : Int) ≤ Int.tmod (IntKind.wrap IntKind.i64 ((↑(List.length l) : Int) - (1 : Int))) (2 : Int) ∧
 Int.tmod (IntKind.wrap IntKind.i64 ((↑(List.length l) : Int) - (1 : Int))) (2 : Int) < (↑(2 : Nat) : Int) ∧
 Int.toNat (Int.tmod (IntKind.wrap IntKind.i64 ((↑(List.length l) : Int) - (1 : Int))) (2 : Int)) < (2 : Nat) ∧
 (2 : Int) ≠ (0 : Int) ∧
 (0 : Int) ≤ IntKind.wrap IntKind.i64 ((↑(List.length l) : Int) - (2 : Int)) ∧
 IntKind.wrap IntKind.i64 ((↑(List.length l) : Int) - (2 : Int)) < (↑(List.length l) : Int) ∧
 List.length (encL g p) ≤ (4294967296 : Nat) ∧
 litT (encG g p) (encL g p) = true ∧
 (0 : Int) ≤ Int.tmod (IntKind.wrap IntKind.i64 ((↑(List.length l) : Int) - (2 : Int))) (2 : Int) ∧
 Int.tmod (IntKind.wrap IntKind.i64 ((↑(List.length l) : Int) - (2 : Int))) (2 : Int) < (↑(2 : Nat) : Int) ∧
 Int.toNat (Int.tmod (IntKind.wrap IntKind.i64 ((↑(List.length l) : Int) - (2 : Int))) (2 : Int)) <
 List.length
 (List.set (List.replicate (2 : Nat) (0 : Int)) (Int.toNat (Int.tmod (IntKind.wrap IntKind.i64 ((↑(List.length l) : Int) - (1 : Int))) (2 : Int)))
 (frI (encG g p) (encL g p) (List.getD l (Int.toNat (IntKind.wrap IntKind.i64 ((↑(List.length l) : Int) - (1 : Int)))) (0 : Int)))) ∧
 (∃ (x0 : Nat),
 ((2 : Nat) ≤ x0 ∧ x0 ≤ List.length l ∧ askE g p l (2 : Int) = (0 : Int)) ∧
 l = l ∧
 IntKind.wrap IntKind.i64 ((↑(List.length l) : Int) - (3 : Int)) = (↑(List.length l) : Int) - (1 : Int) - (↑x0 : Int) ∧
 g = g ∧
 p = p ∧
 encG g p = g ∧
 encL g p = encL g p ∧
 List.set
 (List.set (List.replicate (2 : Nat) (0 : Int))
 (Int.toNat (Int.tmod (IntKind.wrap IntKind.i64 ((↑(List.length l) : Int) - (1 : Int))) (2 : Int)))
 (frI (encG g p) (encL g p) (List.getD l (Int.toNat (IntKind.wrap IntKind.i64 ((↑(List.length l) : Int) - (1 : Int)))) (0 : Int))))
 (Int.toNat (Int.tmod (IntKind.wrap IntKind.i64 ((↑(List.length l) : Int) - (2 : Int))) (2 : Int)))
 (frI (encG g p) (encL g p) (List.getD l (Int.toNat (IntKind.wrap IntKind.i64 ((↑(List.length l) : Int) - (2 : Int)))) (0 : Int))) =
 fwX g (encL g p) l (2 : Nat) x0 ∧
 ByteArray.empty = fwS g (encL g p) l (2 : Nat) x0 ∧
 (0 : Int) = fwP g (encL g p) l (2 : Nat) x0 ∧ (0 : Int) = fwN g (encL g p) l (2 : Nat) x0) ∧
 ∀ (x1 : Nat),
 (2 : Nat) ≤ x1 ∧ x1 ≤ List.length l ∧ askE g p l (2 : Int) = (0 : Int) →
 (decide ((↑(List.length l) : Int) - (1 : Int) - (↑x1 : Int) ≥ (0 : Int)) = true →
 (2 : Int) ≠ (0 : Int) ∧
 (0 : Int) ≤ Int.tmod ((↑(List.length l) : Int) - (1 : Int) - (↑x1 : Int)) (2 : Int) ∧
 Int.tmod ((↑(List.length l) : Int) - (1 : Int) - (↑x1 : Int)) (2 : Int) < (↑(2 : Nat) : Int) ∧
 Int.toNat (Int.tmod ((↑(List.length l) : Int) - (1 : Int) - (↑x1 : Int)) (2 : Int)) < List.length (fwX g (encL g p) l (2 : Nat) x1) ∧
 (0 : Int) ≤ (↑(List.length l) : Int) - (1 : Int) - (↑x1 : Int) ∧
 (↑(List.length l) : Int) - (1 : Int) - (↑x1 : Int) < (↑(List.length l) : Int) ∧
 List.length (encL g p) ≤ (4294967296 : Nat) ∧
 litT g (encL g p) = true ∧
 (0 : Int) ≤ fwN g (encL g p) l (2 : Nat) x1 ∧
 fwN g (encL g p) l (2 : Nat) x1 ≤ (7 : Int) ∧
 (0 : Int) ≤ fwP g (encL g p) l (2 : Nat) x1 ∧
 fwP g (encL g p) l (2 : Nat) x1 < (2 : Int) ^ Int.toNat (fwN g (encL g p) l (2 : Nat) x1) ∧
 (0 : Int) ≤
 puB g (encL g p)
 (List.getD (fwX g (encL g p) l (2 : Nat) x1)
 (Int.toNat (Int.tmod ((↑(List.length l) : Int) - (1 : Int) - (↑x1 : Int)) (2 : Int))) (0 : Int))
 (List.getD l (Int.toNat ((↑(List.length l) : Int) - (1 : Int) - (↑x1 : Int))) (0 : Int)) ∧
 puB g (encL g p)
 (List.getD (fwX g (encL g p) l (2 : Nat) x1)
 (Int.toNat (Int.tmod ((↑(List.length l) : Int) - (1 : Int) - (↑x1 : Int)) (2 : Int))) (0 : Int))
 (List.getD l (Int.toNat ((↑(List.length l) : Int) - (1 : Int) - (↑x1 : Int))) (0 : Int)) ≤
 (32 : Int) ∧
 (0 : Int) ≤
 IntKind.wrap IntKind.u64
 (puV g (encL g p)
 (List.getD (fwX g (encL g p) l (2 : Nat) x1)
 (Int.toNat (Int.tmod ((↑(List.length l) : Int) - (1 : Int) - (↑x1 : Int)) (2 : Int))) (0 : Int))
 (List.getD l (Int.toNat ((↑(List.length l) : Int) - (1 : Int) - (↑x1 : Int))) (0 : Int))) ∧
 IntKind.wrap IntKind.u64
 (puV g (encL g p)
 (List.getD (fwX g (encL g p) l (2 : Nat) x1)
 (Int.toNat (Int.tmod ((↑(List.length l) : Int) - (1 : Int) - (↑x1 : Int)) (2 : Int))) (0 : Int))
 (List.getD l (Int.toNat ((↑(List.length l) : Int) - (1 : Int) - (↑x1 : Int))) (0 : Int))) <
 (2 : Int) ^
 Int.toNat
 (puB g (encL g p)
 (List.getD (fwX g (encL g p) l (2 : Nat) x1)
 (Int.toNat (Int.tmod ((↑(List.length l) : Int) - (1 : Int) - (↑x1 : Int)) (2 : Int))) (0 : Int))
 (List.getD l (Int.toNat ((↑(List.length l) : Int) - (1 : Int) - (↑x1 : Int))) (0 : Int))) ∧
 ByteArray.size (fwS g (encL g p) l (2 : Nat) x1) ≤ (1000000 : Nat) ∧
 (2 : Int) ≠ (0 : Int) ∧
 (0 : Int) ≤ Int.tmod ((↑(List.length l) : Int) - (1 : Int) - (↑x1 : Int)) (2 : Int) ∧
 Int.tmod ((↑(List.length l) : Int) - (1 : Int) - (↑x1 : Int)) (2 : Int) < (↑(2 : Nat) : Int) ∧
 Int.toNat (Int.tmod ((↑(List.length l) : Int) - (1 : Int) - (↑x1 : Int)) (2 : Int)) <
 List.length (fwX g (encL g p) l (2 : Nat) x1) ∧
 ∃ (y2 : Nat),
 ((2 : Nat) ≤ y2 ∧ y2 ≤ List.length l ∧ askE g p l (2 : Int) = (0 : Int)) ∧
 Nat.sub (List.length l) y2 < Nat.sub (List.length l) x1 ∧
 l = l ∧
 IntKind.wrap IntKind.i64 ((↑(List.length l) : Int) - (1 : Int) - (↑x1 : Int) - (1 : Int)) =
 (↑(List.length l) : Int) - (1 : Int) - (↑y2 : Int) ∧
 g = g ∧
 p = p ∧
 g = g ∧
 encL g p = encL g p ∧
 List.set (fwX g (encL g p) l (2 : Nat) x1)
 (Int.toNat
 (Int.tmod ((↑(List.length l) : Int) - (1 : Int) - (↑x1 : Int)) (2 : Int)))
 (puS g (encL g p)
 (List.getD (fwX g (encL g p) l (2 : Nat) x1)
 (Int.toNat
 (Int.tmod ((↑(List.length l) : Int) - (1 : Int) - (↑x1 : Int)) (2 : Int)))
 (0 : Int))
 (List.getD l (Int.toNat ((↑(List.length l) : Int) - (1 : Int) - (↑x1 : Int)))
 (0 : Int))) =
 fwX g (encL g p) l (2 : Nat) y2 ∧
 wS (fwS g (encL g p) l (2 : Nat) x1) (fwP g (encL g p) l (2 : Nat) x1)
 (fwN g (encL g p) l (2 : Nat) x1)
 (puB g (encL g p)
 (List.getD (fwX g (encL g p) l (2 : Nat) x1)
 (Int.toNat
 (Int.tmod ((↑(List.length l) : Int) - (1 : Int) - (↑x1 : Int)) (2 : Int)))
 (0 : Int))
 (List.getD l (Int.toNat ((↑(List.length l) : Int) - (1 : Int) - (↑x1 : Int)))
 (0 : Int)))
 (IntKind.wrap IntKind.u64
 (puV g (encL g p)
 (List.getD (fwX g (encL g p) l (2 : Nat) x1)
 (Int.toNat
 (Int.tmod ((↑(List.length l) : Int) - (1 : Int) - (↑x1 : Int))
 (2 : Int)))
 (0 : Int))
 (List.getD l
 (Int.toNat ((↑(List.length l) : Int) - (1 : Int) - (↑x1 : Int)))
 (0 : Int)))) =
 fwS g (encL g p) l (2 : Nat) y2 ∧
 wP (fwP g (encL g p) l (2 : Nat) x1) (fwN g (encL g p) l (2 : Nat) x1)
 (puB g (encL g p)
 (List.getD (fwX g (encL g p) l (2 : Nat) x1)
 (Int.toNat
 (Int.tmod ((↑(List.length l) : Int) - (1 : Int) - (↑x1 : Int))
 (2 : Int)))
 (0 : Int))
 (List.getD l
 (Int.toNat ((↑(List.length l) : Int) - (1 : Int) - (↑x1 : Int)))
 (0 : Int)))
 (IntKind.wrap IntKind.u64
 (puV g (encL g p)
 (List.getD (fwX g (encL g p) l (2 : Nat) x1)
 (Int.toNat
 (Int.tmod ((↑(List.length l) : Int) - (1 : Int) - (↑x1 : Int))
 (2 : Int)))
 (0 : Int))
 (List.getD l
 (Int.toNat ((↑(List.length l) : Int) - (1 : Int) - (↑x1 : Int)))
 (0 : Int)))) =
 fwP g (encL g p) l (2 : Nat) y2 ∧
 wN (fwN g (encL g p) l (2 : Nat) x1)
 (puB g (encL g p)
 (List.getD (fwX g (encL g p) l (2 : Nat) x1)
 (Int.toNat
 (Int.tmod ((↑(List.length l) : Int) - (1 : Int) - (↑x1 : Int))
 (2 : Int)))
 (0 : Int))
 (List.getD l
 (Int.toNat ((↑(List.length l) : Int) - (1 : Int) - (↑x1 : Int)))
 (0 : Int))) =
 fwN g (encL g p) l (2 : Nat) y2) ∧
 (decide ((↑(List.length l) : Int) - (1 : Int) - (↑x1 : Int) ≥ (0 : Int)) = false →
 (0 : Int) ≤ (1 : Int) ∧
 (1 : Int) < (↑(2 : Nat) : Int) ∧
 Int.toNat (1 : Int) < List.length (fwX g (encL g p) l (2 : Nat) x1) ∧
 (0 : Int) ≤ fwN g (encL g p) l (2 : Nat) x1 ∧
 fwN g (encL g p) l (2 : Nat) x1 ≤ (7 : Int) ∧
 (0 : Int) ≤ fwP g (encL g p) l (2 : Nat) x1 ∧
 fwP g (encL g p) l (2 : Nat) x1 < (2 : Int) ^ Int.toNat (fwN g (encL g p) l (2 : Nat) x1) ∧
 (0 : Int) ≤ g ∧
 g ≤ (32 : Int) ∧
 (0 : Int) ≤ IntKind.wrap IntKind.u64 (List.getD (fwX g (encL g p) l (2 : Nat) x1) (Int.toNat (1 : Int)) (0 : Int)) ∧
 IntKind.wrap IntKind.u64 (List.getD (fwX g (encL g p) l (2 : Nat) x1) (Int.toNat (1 : Int)) (0 : Int)) <
 (2 : Int) ^ Int.toNat g ∧
 ByteArray.size (fwS g (encL g p) l (2 : Nat) x1) ≤ (1000000 : Nat) ∧
 (0 : Int) ≤ (0 : Int) ∧
 (0 : Int) < (↑(2 : Nat) : Int) ∧
 Int.toNat (0 : Int) < List.length (fwX g (encL g p) l (2 : Nat) x1) ∧
 (0 : Int) ≤ wN (fwN g (encL g p) l (2 : Nat) x1) g ∧
 wN (fwN g (encL g p) l (2 : Nat) x1) g ≤ (7 : Int) ∧
 (0 : Int) ≤
 wP (fwP g (encL g p) l (2 : Nat) x1) (fwN g (encL g p) l (2 : Nat) x1) g
 (IntKind.wrap IntKind.u64 (List.getD (fwX g (encL g p) l (2 : Nat) x1) (Int.toNat (1 : Int)) (0 : Int))) ∧
 wP (fwP g (encL g p) l (2 : Nat) x1) (fwN g (encL g p) l (2 : Nat) x1) g
 (IntKind.wrap IntKind.u64 (List.getD (fwX g (encL g p) l (2 : Nat) x1) (Int.toNat (1 : Int)) (0 : Int))) <
 (2 : Int) ^ Int.toNat (wN (fwN g (encL g p) l (2 : Nat) x1) g) ∧
 (0 : Int) ≤ g ∧
 g ≤ (32 : Int) ∧
 (0 : Int) ≤
 IntKind.wrap IntKind.u64
 (List.getD (fwX g (encL g p) l (2 : Nat) x1) (Int.toNat (0 : Int)) (0 : Int)) ∧
 IntKind.wrap IntKind.u64 (List.getD (fwX g (encL g p) l (2 : Nat) x1) (Int.toNat (0 : Int)) (0 : Int)) <
 (2 : Int) ^ Int.toNat g ∧
 ByteArray.size
 (wS (fwS g (encL g p) l (2 : Nat) x1) (fwP g (encL g p) l (2 : Nat) x1)
 (fwN g (encL g p) l (2 : Nat) x1) g
 (IntKind.wrap IntKind.u64
 (List.getD (fwX g (encL g p) l (2 : Nat) x1) (Int.toNat (1 : Int)) (0 : Int)))) ≤
 (1000000 : Nat) ∧
 (0 : Int) ≤ wN (wN (fwN g (encL g p) l (2 : Nat) x1) g) g ∧
 wN (wN (fwN g (encL g p) l (2 : Nat) x1) g) g ≤ (7 : Int) ∧
 (0 : Int) ≤
 wP
 (wP (fwP g (encL g p) l (2 : Nat) x1) (fwN g (encL g p) l (2 : Nat) x1) g
 (IntKind.wrap IntKind.u64
 (List.getD (fwX g (encL g p) l (2 : Nat) x1) (Int.toNat (1 : Int)) (0 : Int))))
 (wN (fwN g (encL g p) l (2 : Nat) x1) g) g
 (IntKind.wrap IntKind.u64
 (List.getD (fwX g (encL g p) l (2 : Nat) x1) (Int.toNat (0 : Int)) (0 : Int))) ∧
 wP
 (wP (fwP g (encL g p) l (2 : Nat) x1) (fwN g (encL g p) l (2 : Nat) x1) g
 (IntKind.wrap IntKind.u64
 (List.getD (fwX g (encL g p) l (2 : Nat) x1) (Int.toNat (1 : Int)) (0 : Int))))
 (wN (fwN g (encL g p) l (2 : Nat) x1) g) g
 (IntKind.wrap IntKind.u64
 (List.getD (fwX g (encL g p) l (2 : Nat) x1) (Int.toNat (0 : Int)) (0 : Int))) <
 (2 : Int) ^ Int.toNat (wN (wN (fwN g (encL g p) l (2 : Nat) x1) g) g) ∧
 ByteArray.size
 (wS
 (wS (fwS g (encL g p) l (2 : Nat) x1) (fwP g (encL g p) l (2 : Nat) x1)
 (fwN g (encL g p) l (2 : Nat) x1) g
 (IntKind.wrap IntKind.u64
 (List.getD (fwX g (encL g p) l (2 : Nat) x1) (Int.toNat (1 : Int)) (0 : Int))))
 (wP (fwP g (encL g p) l (2 : Nat) x1) (fwN g (encL g p) l (2 : Nat) x1) g
 (IntKind.wrap IntKind.u64
 (List.getD (fwX g (encL g p) l (2 : Nat) x1) (Int.toNat (1 : Int)) (0 : Int))))
 (wN (fwN g (encL g p) l (2 : Nat) x1) g) g
 (IntKind.wrap IntKind.u64
 (List.getD (fwX g (encL g p) l (2 : Nat) x1) (Int.toNat (0 : Int)) (0 : Int)))) ≤
 (1000000 : Nat) ∧
 dS
 (wS
 (wS (fwS g (encL g p) l (2 : Nat) x1) (fwP g (encL g p) l (2 : Nat) x1)
 (fwN g (encL g p) l (2 : Nat) x1) g
 (IntKind.wrap IntKind.u64
 (List.getD (fwX g (encL g p) l (2 : Nat) x1) (Int.toNat (1 : Int))
 (0 : Int))))
 (wP (fwP g (encL g p) l (2 : Nat) x1) (fwN g (encL g p) l (2 : Nat) x1) g
 (IntKind.wrap IntKind.u64
 (List.getD (fwX g (encL g p) l (2 : Nat) x1) (Int.toNat (1 : Int))
 (0 : Int))))
 (wN (fwN g (encL g p) l (2 : Nat) x1) g) g
 (IntKind.wrap IntKind.u64
 (List.getD (fwX g (encL g p) l (2 : Nat) x1) (Int.toNat (0 : Int)) (0 : Int))))
 (wP
 (wP (fwP g (encL g p) l (2 : Nat) x1) (fwN g (encL g p) l (2 : Nat) x1) g
 (IntKind.wrap IntKind.u64
 (List.getD (fwX g (encL g p) l (2 : Nat) x1) (Int.toNat (1 : Int))
 (0 : Int))))
 (wN (fwN g (encL g p) l (2 : Nat) x1) g) g
 (IntKind.wrap IntKind.u64
 (List.getD (fwX g (encL g p) l (2 : Nat) x1) (Int.toNat (0 : Int)) (0 : Int))))
 (wN (wN (fwN g (encL g p) l (2 : Nat) x1) g) g) =
 wrtS g p l (2 : Nat) ∧
 (0 : Int) = askE g p l (2 : Int)))
--end
theorem rwrt2F_e (g : Int) (p l : List Int) : rwrt2F_t g p l = vcG Try.prog (Gof GFe) (one (oRw2 g p l)) Try.f45 [.ag [.v (.int .i64 g), .dat (.ints .i64 p)], .dat (.ints .i64 l)] [] (.leaf ((.tu [.v (.string (wrtS g p l 2)), .v (.int .i64 (askE g p l 2))])) ([])) := by kernel_rfl
def rcosF_t (g : Int) (p l : List Int) : Prop :=
 List.length p ≤ (4294967296 : Nat) ∧
 List.length l ≤ (4294967296 : Nat) ∧
 ((askE g p l (1 : Int) != (0 : Int)) = true → (0 : Int) = cosN g p l ∧ askE g p l (1 : Int) = askE g p l (1 : Int)) ∧
 ((askE g p l (1 : Int) != (0 : Int)) = false →
 List.length p ≤ (4294967296 : Nat) ∧
 List.length (encL g p) ≤ (4294967296 : Nat) ∧
 litT (encG g p) (encL g p) = true ∧
 List.length l ≤ (4294967296 : Nat) ∧ IntKind.wrap IntKind.i64 (ruN (encG g p) (encL g p) l + g) = cosN g p l ∧ ruE (encG g p) (encL g p) l = askE g p l (1 : Int))
--end
theorem rcosF_e (g : Int) (p l : List Int) : rcosF_t g p l = vcG Try.prog (Gof GFe) (fun _ => none) Try.f46 [.ag [.v (.int .i64 g), .dat (.ints .i64 p)], .dat (.ints .i64 l)] [] (.leaf ((.tu [.v (.int .i64 (cosN g p l)), .v (.int .i64 (askE g p l 1))])) ([])) := by kernel_rfl
end Go.Proofs.Ytbdgknebimdjoaa
