/-
  Texts joined: D8H, In, Mod, Mul, Repeat, D8J, Br, D8L. Conditions: each theorem's own.
-/
import Derived.Test.YtafabheehkmfhaaK3
import Derived.Test.YtafabheehkmfhaaK2
import Derived.Lib.SmallJoins
import Derived.Laws.CopyOwn
import Derived.Deep.RegionLaw
/-
  Chapter 8: what is written has as many bits as are told; Write and Bits by contract. Conditions: each theorem's own.
-/
namespace Go.Proofs.Ytafabheehkmfhaa
open Go Go.RowKit
set_option linter.unusedVariables false
set_option linter.unusedSimpArgs false
set_option maxRecDepth 100000
/-- a writer with so many bits, and the number that they are -/
def wOf (L W : Nat) : W3 := (wS L W, ((wP L W : Nat) : Int), ((L % 8 : Nat) : Int))
theorem wOf_zero : zW = wOf 0 0 := rfl
def okKV (kv : Int × Int) : Prop := 0 ≤ kv.1 ∧ kv.1 ≤ 32 ∧ 0 ≤ kv.2 ∧ kv.2 < 2 ^ kv.1.toNat
theorem wOf_len (L W : Nat) : 8 * (wOf L W).1.size + (wOf L W).2.2.toNat = L := by
  unfold wOf
  simp only [wS_size, Int.toNat_natCast]
  omega
theorem wOf_num {L W : Nat} (h : W < 2 ^ L) : leN (wOf L W).1.data.toList + (wOf L W).2.1.toNat * 2 ^ (8 * (wOf L W).1.size) = W := by
  unfold wOf
  simp only [wS_size, Int.toNat_natCast]
  rw [wP_eq L W h]
  unfold wS
  simp only []
  rw [leN_toLE, pow256]
  have := Nat.div_add_mod W (2 ^ (8 * (L / 8)))
  rw [Nat.mul_comm] at this
  omega
theorem wOf_is {L W : Nat} (h : W < 2 ^ L) (hL : L ≤ 8388608) : IsW (wOf L W).1 (wOf L W).2.1 (wOf L W).2.2 L W := ⟨rfl, rfl, rfl, h, by omega⟩
theorem put_next_lt {L W k v : Nat} (hW : W < 2 ^ L) (hv : v < 2 ^ k) : W + v * 2 ^ L < 2 ^ (L + k) := by
  have := put_lt L W v k hW
  rwa [Nat.mod_eq_of_lt hv] at this
theorem put_ok {L W : Nat} {kv : Int × Int} (hW : W < 2 ^ L) (hL : L + 32 ≤ 8388600) (h : okKV kv) : putT (wOf L W) kv.1 kv.2 = (wOf (L + kv.1.toNat) (W + kv.2.toNat * 2 ^ L), 0) ∧ W + kv.2.toNat * 2 ^ L < 2 ^ (L + kv.1.toNat) := by
  obtain ⟨k, v⟩ := kv
  obtain ⟨h1, h2, h3, h4⟩ := h
  simp only at h1 h2 h3 h4 ⊢
  have hv : v.toNat < 2 ^ k.toNat := by
    rw [pow_cast] at h4
    omega
  refine ⟨?_, put_next_lt hW hv⟩
  unfold putT
  rw [if_pos (wOf_is hW (by omega)).chk, if_pos ⟨h1, h2, h3, h4⟩, wOf_len, wOf_num hW, if_neg (by omega)]
  rfl
def accKV (s : Nat × Nat) (l : List (Int × Int)) : Nat × Nat := l.foldl (fun s kv => (s.1 + kv.1.toNat, s.2 + kv.2.toNat * 2 ^ s.1)) s
theorem putAll_ok (l : List (Int × Int)) : ∀ (L W : Nat), W < 2 ^ L → (∀ kv ∈ l, okKV kv) → L + 32 * l.length ≤ 8388000 → putAll (wOf L W) l = wOf (accKV (L, W) l).1 (accKV (L, W) l).2 ∧ (accKV (L, W) l).2 < 2 ^ (accKV (L, W) l).1 ∧ ((accKV (L, W) l).1 : Int) = L + bsum l := by
  induction l with
  | nil => intro L W h _ _; exact ⟨rfl, h, by simp [accKV, bsum]⟩
  | cons kv r ih =>
    intro L W h hl hb
    simp only [List.length_cons] at hb
    have hkv := hl kv (by simp)
    obtain ⟨h1, h2⟩ := put_ok h (by omega) hkv
    have hk := hkv.1
    have hk2 := hkv.2.1
    obtain ⟨h3, h4, h5⟩ := ih _ _ h2 (fun x hx => hl x (by simp [hx])) (by omega)
    rw [putAll_cons, h1]
    refine ⟨h3, h4, ?_⟩
    have e : accKV (L, W) (kv :: r) = accKV (L + kv.1.toNat, W + kv.2.toNat * 2 ^ L) r := rfl
    rw [e, h5, bsum]
    omega
theorem valP_ok {left p : Int} (h : ShB left) (h1 : -1 ≤ p) (h2 : p ≤ left) : okKV (valP left p) := by
  have b1 := h.b1
  have b2 := h.b2
  have lo := h.lo
  have hi := h.hi
  have db := h.dbl
  have e := shT_eq left
  unfold valP okKV
  cases c : decide (p + 1 < shT left)
  · simp only [decide_eq_false_iff_not] at c
    cases c2 : decide (p + 1 < 2 ^ (shB left - 1).toNat)
    · simp only [cond_false]; omega
    · simp only [decide_eq_true_eq] at c2
      simp only [cond_false, cond_true]; omega
  · simp only [decide_eq_true_eq] at c
    simp only [cond_true]; omega
theorem zeros_ok (z : Nat) : ∀ kv ∈ zerosP z, okKV kv := by
  intro kv h
  unfold zerosP at h
  simp only [List.mem_append, List.mem_replicate, List.mem_singleton] at h
  rcases h with ⟨_, rfl⟩ | rfl
  · refine ⟨by decide, by decide, by decide, by decide⟩
  · refine ⟨by (try dsimp only); omega, by (try dsimp only); omega, by (try dsimp only); omega, ?_⟩
    show ((z % 3 : Nat) : Int) < 2 ^ 2
    omega
theorem zeros_len (z : Nat) : (zerosP z).length = z / 3 + 1 := by simp [zerosP]
theorem de_ok (l : List Int) : ∀ o : Option Nat, (∀ x ∈ l, -1 ≤ x) → pts l ≤ 4096 → (∀ kv ∈ de o l (pts l), okKV kv) ∧ (de o l (pts l)).length ≤ (match o with | none => 0 | some z => z + 1) + 3 * l.length := by
  induction l with
  | nil =>
    intro o _ _
    cases o with
    | none => exact ⟨fun kv h => by simp [de] at h, by simp [de]⟩
    | some z => exact ⟨fun kv h => zeros_ok z kv h, by simp only [de, zeros_len, List.length_nil]; omega⟩
  | cons p r ih =>
    intro o hl hp
    have hs : ShB (pts (p :: r)) := shB_ok (pts_nonneg _) hp
    have hc := pts_cons p r
    have hp1 := hl p (by simp)
    have hpn := (pt_ge p hp1).1
    have hp0 := pt_nonneg p
    have hr := pts_nonneg r
    have hv := valP_ok (p := p) hs hp1 (by omega)
    have hl' : ∀ x ∈ r, -1 ≤ x := fun x hx => hl x (by simp [hx])
    cases hz : (p == 0)
    · have e : pts (p :: r) - pt p = pts r := by omega
      obtain ⟨i1, i2⟩ := ih none hl' (by omega)
      simp only at i2
      cases o with
      | none =>
        simp only [de, hz, cond_false, e, List.length_cons]
        refine ⟨fun kv h => ?_, by omega⟩
        rcases List.mem_cons.1 h with rfl | h
        · exact hv
        · exact i1 kv h
      | some z =>
        simp only [de, hz, cond_false, e, List.length_cons, List.length_append, zeros_len]
        refine ⟨fun kv h => ?_, by omega⟩
        rcases List.mem_append.1 h with h | h
        · exact zeros_ok z kv h
        · rcases List.mem_cons.1 h with rfl | h
          · exact hv
          · exact i1 kv h
    · have hpz : p = 0 := by simpa using hz
      have e : pts (p :: r) = pts r := by rw [hc, hpz]; simp [pt]
      cases o with
      | none =>
        obtain ⟨i1, i2⟩ := ih (some 0) hl' (by omega)
        simp only at i2
        simp only [de, hz, cond_true, List.length_cons]
        rw [e] at hv ⊢
        refine ⟨fun kv h => ?_, by omega⟩
        rcases List.mem_cons.1 h with rfl | h
        · exact hv
        · exact i1 kv h
      | some z =>
        obtain ⟨i1, i2⟩ := ih (some (z + 1)) hl' (by omega)
        simp only at i2
        simp only [de, hz, cond_true, List.length_cons]
        rw [e]
        exact ⟨i1, by omega⟩
/-- all that is written: the accuracy, and the values -/
def deAll (g : Int) (l : List Int) : List (Int × Int) := (4, g - 5) :: de none l (2 ^ g.toNat)
theorem wrT_all (g : Int) (l : List Int) : wrT g l = putAll (wOf 0 0) (deAll g l) := rfl
theorem wrN_all (g : Int) (l : List Int) : wrN g l = bsum (deAll g l) := rfl
theorem Valid.all_ok {g : Int} {l : List Int} (V : Valid g l) : (∀ kv ∈ deAll g l, okKV kv) ∧ (deAll g l).length ≤ 1000 := by
  have h4096 : pts l ≤ 4096 := by rw [V.sum]; exact pow12 V.g12
  obtain ⟨h1, h2⟩ := de_ok l none V.low h4096
  rw [V.sum] at h1 h2
  have g5 := V.g5
  have g12 := V.g12
  have hl := V.len2
  unfold deAll
  refine ⟨fun kv h => ?_, by simp only at h2; simp only [List.length_cons]; omega⟩
  rcases List.mem_cons.1 h with rfl | h
  · refine ⟨by (try dsimp only); omega, by (try dsimp only); omega, by (try dsimp only); omega, ?_⟩
    show g - 5 < 2 ^ 4
    omega
  · exact h1 kv h
def accD (g : Int) (l : List Int) : Nat × Nat := accKV (0, 0) (deAll g l)
theorem Valid.form {g : Int} {l : List Int} (V : Valid g l) : wrT g l = wOf (accD g l).1 (accD g l).2 ∧ (accD g l).2 < 2 ^ (accD g l).1 ∧ ((accD g l).1 : Int) = Proofs.Ytafabheehkmfhaa.wrN g l := by
  obtain ⟨h1, h2⟩ := V.all_ok
  have := putAll_ok (deAll g l) 0 0 (by decide) h1 (by omega)
  rw [wrT_all, wrN_all]
  refine ⟨this.1, this.2.1, ?_⟩
  have h3 := this.2.2
  unfold accD
  omega
theorem write_v (g : Int) (l : List Int) (h : l.length ≤ 4294967296) : write_t g l := by
  unfold write_t
  refine ⟨h, fun e => ?_, fun e => ?_⟩
  · have hb : (dchk g l == 0) = false := by simpa [bne] using e
    unfold writeF; rw [hb]; exact ⟨rfl, rfl⟩
  · have hb : (dchk g l == 0) = true := by simpa [bne] using e
    unfold writeF; rw [hb]; exact ⟨by simpa using hb, rfl, rfl⟩
theorem rwrite_v (g : Int) (l : List Int) (h : l.length ≤ 4294967296) : rwrite_t g l := write_v g l h
theorem bitsD_v (g : Int) (l : List Int) (h : l.length ≤ 4294967296) : bitsD_t g l := by
  unfold bitsD_t
  refine ⟨h, fun e => ?_, fun e => ?_⟩
  · have hb : (dchk g l == 0) = false := by simpa [bne] using e
    unfold bitsF; rw [hb]; exact ⟨rfl, rfl⟩
  · have hb : (dchk g l == 0) = true := by simpa [bne] using e
    have h0 : dchk g l = 0 := by simpa using hb
    unfold bitsF; rw [hb]
    have V := Valid.of h0
    obtain ⟨h1, h2, h3⟩ := V.form
    have hN := V.wrN
    have hlen := wOf_len (accD g l).1 (accD g l).2
    rw [← h1] at hlen
    have hn : 0 ≤ (wrT g l).2.2 := by rw [h1]; unfold wOf; simp only; omega
    refine ⟨h0, ?_, h0.symm⟩
    rw [wr (n := 8 * _) (by omega) (by omega), wr (by omega) (by omega)]
    show _ = Proofs.Ytafabheehkmfhaa.wrN g l
    omega
theorem rbitsD_v (g : Int) (l : List Int) (h : l.length ≤ 4294967296) : rbitsD_t g l := by
  unfold rbitsD_t
  refine ⟨h, fun e => ?_, fun e => ?_⟩
  · have hb : (dchk g l == 0) = false := by simpa [bne] using e
    unfold bitsF; rw [hb]; exact ⟨rfl, rfl⟩
  · have hb : (dchk g l == 0) = true := by simpa [bne] using e
    have h0 : dchk g l = 0 := by simpa using hb
    unfold bitsF; rw [hb]
    exact ⟨h0, rfl, h0.symm⟩
/-! ### tables -/
theorem put1_sound : Sound Try.prog 83 sPut1.ctr := sPut1.sound (by kernel_rfl) sPut1_enc fun ⟨k, v, s, p, m⟩ hc => by
  exact satG G8c_ok mixed Try.func83 (put1_e k v s p m) (⟨rfl, rfl, rfl⟩)
theorem G8d_ok : AllOk Try.prog G8d := .cons put1_sound G8c_ok
theorem written_sound : Sound Try.prog 71 sWritten.ctr := sWritten.sound (by kernel_rfl) sWritten_enc fun ⟨g, l⟩ hc => by
  have h0 := hc _ (.head _)
  exact satG G8d_ok mixed Try.func71 (written_e g l) (written_v g l h0)
theorem rwritten_sound : Sound Try.prog 72 sRwritten.ctr := sRwritten.sound (by kernel_rfl) sRwritten_enc fun ⟨g, l⟩ hc => by
  have h0 := hc _ (.head _)
  exact satG G8d_ok mixed Try.func72 (rwritten_e g l) (rwritten_v g l h0)
theorem G8e_ok : AllOk Try.prog G8e := .cons written_sound <| .cons rwritten_sound G8d_ok
theorem write_sound : Sound Try.prog 47 sWrite.ctr := sWrite.sound (by kernel_rfl) sWrite_enc fun ⟨g, l⟩ hc => by
  have h0 := hc _ (.head _)
  exact satG G8e_ok mixed Try.func47 (write_e g l) (write_v g l h0)
theorem rwrite_sound : Sound Try.prog 48 sWrite.ctr := sWrite.sound (by kernel_rfl) sWrite_enc fun ⟨g, l⟩ hc => by
  have h0 := hc _ (.head _)
  exact satG G8e_ok mixed Try.func48 (rwrite_e g l) (rwrite_v g l h0)
theorem bitsD_sound : Sound Try.prog 49 sBitsD.ctr := sBitsD.sound (by kernel_rfl) sBitsD_enc fun ⟨g, l⟩ hc => by
  have h0 := hc _ (.head _)
  exact satG G8e_ok mixed Try.func49 (bitsD_e g l) (bitsD_v g l h0)
theorem rbitsD_sound : Sound Try.prog 50 sBitsD.ctr := sBitsD.sound (by kernel_rfl) sBitsD_enc fun ⟨g, l⟩ hc => by
  have h0 := hc _ (.head _)
  exact satG G8e_ok mixed Try.func50 (rbitsD_e g l) (rbitsD_v g l h0)
theorem G8f_ok : AllOk Try.prog G8f := .cons write_sound <| .cons rwrite_sound <| .cons bitsD_sound <| .cons rbitsD_sound G8e_ok
end Go.Proofs.Ytafabheehkmfhaa
/-
  What a slice of ints that came in is, for the walks. Conditions: none.
-/
namespace Go.Proofs.Ytafabheehkmfhaa
open Go.ChangeShapes Go.WideShapes Go.ChangeAt Go.RowKit
set_option linter.unusedVariables false

/-- A slice of ints that came in: the numbers zs up to its capacity, the first n of which are its elements. -/
structure IntsIn (w : World) (A : Option Addr) (n cap : Nat) (zs : List Int) : Prop where
  le : n ≤ cap
  max : cap ≤ 9223372036854775807
  len : zs.length = cap
  nil : A = none → cap = 0
  at_ : 0 < cap → ∃ b off, A = some ⟨b, off, none⟩ ∧ b < w.heap.size ∧ ∀ i, i < zs.length → w.cell? ⟨b, off + i, none⟩ = some (.int .i64 (zs.getD i 0))
  rng : ∀ z ∈ zs, -9223372036854775808 ≤ z ∧ z ≤ 9223372036854775807

theorem IntsIn.opens1 {H : Type} {enc : TypeId × Value → H} {w : World} {held : Bool} {fuel : Nat} {v : Value} {x : DataW H × List MemPlace}
    (h : DataW.trod enc Try.prog w 0 (fun _ => true) held fuel 44 [v] = some x) :
    ∃ A n cap zs, [v] = [.slice A n cap] ∧ IntsIn w A n cap zs := by
  rcases open_ints Try.underlying44 Try.underlying3 (by kernel_rfl) h with ⟨hcs, _⟩ | ⟨a, l, c, zs, hcs, _, hl, hm, hz, _, hcell, hwz⟩
  · exact ⟨none, 0, 0, [], hcs, ⟨Nat.le_refl _, by omega, rfl, fun _ => rfl, fun h => by omega, fun z hz => by cases hz⟩⟩
  · refine ⟨some a, l, c, zs, hcs, ⟨hl, hm, by simpa using hz, (fun h => by cases h), fun hpos => ?_, fun z hz => Go.bounds_i64 (hwz z hz)⟩⟩
    obtain ⟨b, off, rfl, hc⟩ := ints_at hcell (by have : zs.length = c := by simpa using hz
                                                  omega)
    refine ⟨b, off, rfl, ?_, hc⟩
    exact World.block_lt_of_cell? w _ (hc 0 (by have : zs.length = c := by simpa using hz
                                                omega))
theorem IntsIn.opens {H : Type} {enc : TypeId × Value → H} {w : World} {held : Bool} {fuel : Nat} {A : Option Addr} {n cap : Nat} {x : DataW H × List MemPlace}
    (h : DataW.trod enc Try.prog w 0 (fun _ => true) held fuel 44 [.slice A n cap] = some x) : ∃ zs, IntsIn w A n cap zs := by
  obtain ⟨A', n', cap', zs, e, hI⟩ := IntsIn.opens1 h
  simp only [List.cons.injEq, Value.slice.injEq, and_true] at e
  obtain ⟨rfl, rfl, rfl⟩ := e
  exact ⟨zs, hI⟩
/-- the slice as my walks read it: its elements as a list of values -/
theorem IntsIn.reads {w : World} {A : Option Addr} {n cap : Nat} {zs : List Int} (h : IntsIn w A n cap zs) : Reads w w.heap.size 1 A n ((zs.take n).map fun z => Value.int .i64 z) := by
  have hl := h.len
  have hle := h.le
  refine ⟨by simp; omega, fun hn => ?_⟩
  obtain ⟨b, off, rfl, hb, hc⟩ := h.at_ (by omega)
  refine ⟨_, rfl, hb, fun j u hu => ?_⟩
  simp only [List.getElem?_map, List.getElem?_take, Option.map_eq_some_iff] at hu
  obtain ⟨z, hz, rfl⟩ := hu
  split at hz
  · rw [show (⟨b, off, none⟩ : Addr).add j = ⟨b, off + j, none⟩ from by unfold Addr.add; split <;> simp_all]
    rw [hc j (by have := (List.getElem?_eq_some_iff.1 hz).1; omega)]
    simp [List.getD, hz]
  · cases hz
end Go.Proofs.Ytafabheehkmfhaa
/-
  cheesepresskit.Mod: the remainder from 0 on. Conditions: numbers of int's range.
-/
namespace Go.Proofs.Ytafabheehkmfhaa
open Go.RowKit
set_option linter.unusedVariables false
theorem ret_int' {k : IntKind} {a b : Int} (h : a = b) : Ending.returned (.int k a) = .returned (.int k b) := by rw [h]
theorem tmod_emod (n m : Int) : n.tmod m % m = n % m := by
  have h := Int.tmod_add_mul_tdiv n m
  have h2 := Int.add_mul_emod_self_left (n.tmod m) m (n.tdiv m)
  rw [h] at h2
  exact h2.symm
theorem tmod_neg_fix (n m : Int) (hm : 1 ≤ m) (h : n.tmod m < 0) : n.tmod m + m = n % m := by
  rw [← tmod_emod n m, ← Int.add_emod_right]
  have := Int.lt_tmod_of_pos n (show 0 < m by omega)
  exact (Int.emod_eq_of_lt (by omega) (by omega)).symm
theorem tmod_pos_fix (n m : Int) (hm : 1 ≤ m) (h : 0 ≤ n.tmod m) : n.tmod m = n % m := by
  rw [← tmod_emod n m]
  have := Int.tmod_lt_of_pos n (show 0 < m by omega)
  exact (Int.emod_eq_of_lt h (by omega)).symm
set_option maxHeartbeats 400000 in
theorem mod_pos (n m : Int) (hn : -9223372036854775808 ≤ n ∧ n ≤ 9223372036854775807) (hm : 1 ≤ m ∧ m ≤ 9223372036854775807) (w : World) :
    Calls Try.prog 37 #[.int .i64 n, .int .i64 m] w fun e w' => e = .returned (.int .i64 (n % m)) ∧ w = w' := by
  obtain ⟨h1, h2⟩ := hn
  obtain ⟨h3, h4⟩ := hm
  have hlo := Int.lt_tmod_of_pos n (show 0 < m by omega)
  have hhi := Int.tmod_lt_of_pos n (show 0 < m by omega)
  go_enter Try.func37, Try.ntmps37
  go_wp2
  all_goals
    go_ret
    refine ⟨?_, rfl⟩
    first
      | exact ret_int' (tmod_pos_fix n m h3 (by assumption))
      | exact ret_int' ((IntWalk.wrap64_in _ ⟨by omega, by omega⟩).trans (tmod_neg_fix n m h3 (by assumption)))
      | exact ret_int' (tmod_neg_fix n m h3 (by assumption))
end Go.Proofs.Ytafabheehkmfhaa
/-
  math/bits.Mul at 1. Conditions: a number of at most 65,536.
-/
namespace Go.Proofs.Ytafabheehkmfhaa
open Go.RowKit
set_option linter.unusedVariables false
set_option linter.unusedSimpArgs false
theorem u64_and_mask (c : Nat) (hc : c ≤ 65536) : bits .and .u64 (c : Int) 4294967295 = (c : Int) := by
  have hx : ∀ a : Nat, a ≤ 4294967295 → (BitVec.ofInt 64 (a : Int)).toNat = a := fun a ha => by
    rw [BitVec.ofInt_natCast, BitVec.toNat_ofNat]; exact Nat.mod_eq_of_lt (by omega)
  show IntKind.u64.wrap ((BitVec.ofInt 64 (c : Int) &&& BitVec.ofInt 64 ((4294967295 : Nat) : Int)).toNat : Int) = _
  rw [BitVec.toNat_and, hx c (by omega), hx 4294967295 (by omega), show (4294967295 : Nat) = 2 ^ 32 - 1 from rfl, Nat.and_two_pow_sub_one_eq_mod, IntKind.wrap_u64]
  omega
set_option maxHeartbeats 1000000 in
theorem mul1 (c : Nat) (hc : c ≤ 65536) (w : World) :
    Calls Try.prog 90 #[.int .u64 1, .int .u64 c] w fun e w' => e = .returned (.tuple #[.int .u64 0, .int .u64 c]) ∧ w = w' := by
  have h1 : bits .and .u64 1 4294967295 = 1 := u64_and_mask 1 (by omega)
  have h0 : bits .and .u64 0 4294967295 = 0 := u64_and_mask 0 (by omega)
  have hw : IntKind.u64.wrap (c : Int) = c := IntWalk.u64_in _ ⟨by omega, by omega⟩
  have hw0 : IntKind.u64.wrap 0 = 0 := IntWalk.u64_in _ ⟨by omega, by omega⟩
  have h2 := u64_and_mask c hc
  have h3 : (c : Int) / 4294967296 = 0 := by omega
  go_enter Try.func90, Try.ntmps90
  go_wp2
  go_ret2
  exact ⟨rfl, rfl⟩
end Go.Proofs.Ytafabheehkmfhaa
/-
  slices.Repeat at a slice of one int. Conditions: at most 65,536 times.
-/
namespace Go.Proofs.Ytafabheehkmfhaa
open Go.RowKit
set_option linter.unusedVariables false
set_option linter.unusedSimpArgs false

def RepRel (w : World) (v : Int) (c : Nat) (nv : Value) (wr : World) : Prop :=
  ∃ (k : Nat) (rest : List Value), 1 ≤ k ∧ k ≤ c ∧ nv = .int .i64 k ∧ rest.length = c - k ∧ wr.heap[w.heap.size]? = some (.cells (List.replicate k (Value.int .i64 v) ++ rest).toArray 3 (0, 0)) ∧ Below w.heap.size w wr
theorem cells_info3 : (Try.prog.info? 3).map (·.size) = some 1 := by kernel_rfl
/-- the copy of a row onto its own rest -/
theorem copy_rep (w : World) (g k c : Nat) (v : Int) (rest : List Value) (hk : k < c) (hr : rest.length = c - k)
    (hg : w.heap[g]? = some (.cells (List.replicate k (Value.int .i64 v) ++ rest).toArray 3 (0, 0))) :
    ∃ w3, (Builtin.copy_ #[44, 44] 3 #[.slice (some ⟨g, k, none⟩) (c - k) (c - k), .slice (some ⟨g, 0, none⟩) k c]).run Try.prog w = .ok (.int .i64 ((min k (c - k) : Nat) : Int)) w3 ∧
      w3.heap[g]? = some (.cells (List.replicate (k + min k (c - k)) (Value.int .i64 v) ++ rest.drop (min k (c - k))).toArray 3 (0, 0)) ∧ ∀ B w0, Below B w0 w → B ≤ g → Below B w0 w3 := by
  have hB : Blk w g 3 (List.replicate k (Value.int .i64 v) ++ rest).toArray := hg
  have hsrc : ∀ j u, (List.replicate (min k (c - k)) (Value.int .i64 v))[j]? = some u → w.cell? ((⟨g, 0, none⟩ : Addr).add j) = some u := by
    intro j u hj
    rw [List.getElem?_replicate] at hj
    split at hj
    · rename_i hjk
      have e : (⟨g, 0, none⟩ : Addr).add j = ⟨g, j, none⟩ := by unfold Addr.add; split <;> simp_all
      rw [e]
      have := hB.cell j
      rw [List.getElem?_toArray, List.getElem?_append_left (by simp; omega), List.getElem?_replicate, if_pos (by omega)] at this
      rw [← hj]
      exact this
    · cases hj
  have hrun := run_copy_row (P := Try.prog) w 44 44 3 3 g k (c - k) (c - k) ⟨g, 0, none⟩ k c (List.replicate k (Value.int .i64 v) ++ rest).toArray 3 (List.replicate (min k (c - k)) (Value.int .i64 v)) Try.underlying44 cells_info3 hg (by rw [List.length_replicate]; try rfl) hsrc (by first | (simp; done) | (simp; omega)) (fun u hu => by obtain ⟨_, rfl⟩ := List.mem_replicate.1 hu; rfl)
  have hL : List.take k (List.replicate k (Value.int .i64 v) ++ rest).toArray.toList ++ List.replicate (min k (c - k)) (Value.int .i64 v) ++ List.drop (k + (List.replicate (min k (c - k)) (Value.int .i64 v)).length) (List.replicate k (Value.int .i64 v) ++ rest).toArray.toList = List.replicate (k + min k (c - k)) (Value.int .i64 v) ++ rest.drop (min k (c - k)) := by
    simp only [List.length_replicate]
    have h1 : List.take k (List.replicate k (Value.int IntKind.i64 v) ++ rest) = List.replicate k (Value.int IntKind.i64 v) := by
      rw [List.take_append_of_le_length (by simp), List.take_of_length_le (by simp)]
    have h2 : List.drop (k + min k (c - k)) (List.replicate k (Value.int IntKind.i64 v) ++ rest) = rest.drop (min k (c - k)) := by
      rw [List.drop_append, List.length_replicate, List.drop_eq_nil_of_le (by simp), List.nil_append, Nat.add_sub_cancel_left]
    show List.take k (List.replicate k (Value.int IntKind.i64 v) ++ rest) ++ _ ++ List.drop (k + min k (c - k)) (List.replicate k (Value.int IntKind.i64 v) ++ rest) = _
    rw [h1, h2, List.replicate_append_replicate]
  rw [hL] at hrun
  refine ⟨w.setRow g (List.replicate (k + min k (c - k)) (Value.int .i64 v) ++ rest.drop (min k (c - k))).toArray, ?_, ?_, ?_⟩
  · rw [hrun]
    simp [goInt]
  · exact setRow_heap w g _ _ 3 _ hg
  · intro B w0 hb hle
    exact below_setRow hb hle _
set_option maxHeartbeats 2000000 in
theorem repeat_pos (bx capx c : Nat) (v : Int) (w : World) (hc : c ≤ 65536) (hc1 : 1 ≤ c) (hb : bx < w.heap.size) (hx : w.cell? ⟨bx, 0, none⟩ = some (.int .i64 v)) :
    Calls Try.prog 81 #[.slice (some ⟨bx, 0, none⟩) 1 capx, .int .i64 c] w fun e w' => e = .returned (.slice (some ⟨w.heap.size, 0, none⟩) c c) ∧
      w'.heap[w.heap.size]? = some (.cells (List.replicate c (Value.int .i64 v)).toArray 3 (0, 0)) ∧ Below w.heap.size w w' := by
  have hmk := mk_ints c (by omega)
  have hu : IntKind.u64.wrap (c : Int) = c := IntWalk.u64_in _ ⟨by omega, by omega⟩
  go_enter Try.func81, Try.ntmps81
  go_wp2_with fail
  refine (mul1 c hc _).mono ?_
  rintro e w' ⟨rfl, rfl⟩
  have hz0 : (w.alloc (.cells (zcells c) 3)).heap[w.heap.size]? = some (.cells (List.replicate c (Value.int .i64 0)).toArray 3 (0, 0)) := by
    have := Blk.new w 3 (zcells c)
    unfold Blk at this
    rw [this]
    congr 2
    rw [← toList_madeCells_one]
    simp [zcells]
  have hb0 : Below w.heap.size w (w.alloc (.cells (zcells c) 3)) := by go_grown
  have hxx : (w.alloc (.cells (zcells c) 3)).cell? ⟨bx, 0, none⟩ = some (.int .i64 v) := (World.cell?_alloc_lt w _ ⟨bx, 0, none⟩ hb).trans hx
  have Hz0 := Lib.hid hz0
  have Hb0 := Lib.hid hb0
  have Hxx := Lib.hid hxx
  clear hz0 hb0 hxx
  go_wp2_with (refine wpList_copy_splice rfl (.tmp 31) (.tmp 32) 44 44 rfl 3 Try.underlying44 cells_info3 (some ⟨w.heap.size, 0, none⟩) (some ⟨bx, 0, none⟩) c c 1 capx rfl rfl w.heap.size 0 (List.replicate c (.int .i64 0)) 3 Hz0.out [.int .i64 v] ?c1 ?c2 ?c3 ?c4 w.heap.size w Hb0.out (Nat.le_refl _) ?c5)
  case c1 => exact (Nat.min_eq_left hc1).symm
  case c2 =>
    intro j u hj
    match j, hj with
    | 0, hj =>
      simp at hj
      subst hj
      exact hx
  case c3 => simp; omega
  case c4 => simp [Value.oneCell']
  case c5 =>
    intro w2 hw2 hb2
    have hw3 : w2.heap[w.heap.size]? = some (.cells (List.replicate 1 (Value.int .i64 v) ++ List.replicate (c - 1) (Value.int .i64 0)).toArray 3 (0, 0)) := by
      rw [hw2.out]
      simp [splice]
    have Hw3 := Lib.hid hw3
    have HW2 := Lib.hid hb2
    clear hw2 hb2 hw3 hmk hu
    go_wp2
    go_loopw [8] (fun nv wr => RepRel w v c nv wr) (fun nv _ => c - (intOf nv).toNat)
    case atStart => exact ⟨1, _, Nat.le_refl _, hc1, rfl, by simp, Hw3.out, HW2.out⟩
    case round =>
      obtain ⟨k, rest, hk1, hk, rfl, hr, hh, hW⟩ := hrel
      have Hh := Lib.hid hh
      have HW := Lib.hid hW
      have Hr := Lib.hid hr
      clear hh hW hr
      by_cases hlt : k < c
      · have hk0 : (0 : Int) ≤ (k : Int) := by omega
        have hkc : (k : Int) ≤ (c : Int) := by omega
        have hcc : ¬ c = k := by omega
        have hws : IntKind.i64.wrap ((k : Int) + ((min k (c - k) : Nat) : Int)) = ((k + min k (c - k) : Nat) : Int) := by
          rw [show (k : Int) + ((min k (c - k) : Nat) : Int) = ((k + min k (c - k) : Nat) : Int) by simp]
          exact IntWalk.i64_in _ (by omega)
        go_wp2_with fail
        obtain ⟨w3, hrun, hset, hbel⟩ := copy_rep wr.drew w.heap.size k c v rest hlt Hr.out Hh.out
        obtain ⟨m, hm⟩ : ∃ m, min k (c - k) = m := ⟨_, rfl⟩
        rw [hm] at hrun hws hset
        have Hm := Lib.hid hm
        have Hset := Lib.hid hset
        have Hbel := Lib.hid (hbel _ _ HW.out.drew (Nat.le_refl _))
        clear hm hset hbel
        go_region
        go_wp2
        go_roundw
        case rel =>
          have hm1 := Hm.out
          refine ⟨k + m, rest.drop m, by omega, by omega, by first | go_num | rw [hws], by rw [List.length_drop, Hr.out]; omega, Hset.out, Hbel.out⟩
        case measure =>
          have hm1 := Hm.out
          try rw [hws]
          simp [intOf]
          omega
      · have hkc : k = c := by omega
        subst hkc
        go_wp2
        go_ret
        refine ⟨rfl, ?_, HW.out⟩
        have h0 : rest = [] := List.eq_nil_of_length_eq_zero (by rw [Hr.out]; omega)
        have := Hh.out
        rw [h0, List.append_nil] at this
        exact this
end Go.Proofs.Ytafabheehkmfhaa
/-
  Chapter 8: the predefined distributions. Conditions: each theorem's own.
-/
namespace Go.Proofs.Ytafabheehkmfhaa
open Go Go.RowKit
set_option linter.unusedVariables false
set_option linter.unusedSimpArgs false
set_option maxRecDepth 100000
theorem repeat_sat (v c : Int) (h1 : 1 ≤ c) (h2 : c ≤ 65536) : Sat Try.prog 81 [.o 0, .v (.int .i64 c)] [(0, .row 3 (.ints .i64 [v]))] (.dat (.ints .i64 (List.replicate c.toNat v))) [(0, .row 3 (.ints .i64 [v]))] := by
  intro D β w us hargs hhp hD hβ
  simp only [Reps, Rep] at hargs
  obtain ⟨_, _, rfl, ⟨L, hL, rfl⟩, _, _, rfl, rfl, rfl⟩ := hargs
  obtain ⟨L', hL', hB, hO⟩ := hhp.1 0 _ (List.mem_singleton.2 rfl)
  rw [hL] at hL'
  cases hL'
  obtain ⟨hw, hlen, hB⟩ := hB
  simp only [Dat.len, Dat.wd, List.length_singleton] at hw hlen hB
  rcases hB with ⟨_, h0⟩ | ⟨hnil, hcap, hmax, cs, hg, hcl, hcs⟩
  · omega
  obtain ⟨hnD, hlt⟩ := hO hnil
  obtain ⟨x, hx, hok⟩ := hcs 0 0 (by omega) (by omega)
  simp only [Dat.ok] at hok
  subst hok
  have hcell : w.cell? ⟨L.g, 0, none⟩ = some (.int .i64 v) := by
    rw [cell_of_row w L.g 0 cs.toArray _ _ hg, List.getElem?_toArray]
    simpa using hx
  obtain ⟨C, hC⟩ : ∃ C : Nat, c = C := ⟨c.toNat, by omega⟩
  subst hC
  have hval : L.val = .slice (some ⟨L.g, 0, none⟩) 1 L.cap := by unfold Loc.val; rw [hnil, hlen]; rfl
  rw [hval]
  refine (repeat_pos L.g L.cap C v w (by omega) (by omega) hlt hcell).mono ?_
  rintro e w' ⟨rfl, hnew, hb⟩
  have hsz : w.heap.size < w'.heap.size := by
    rcases Nat.lt_or_ge w.heap.size w'.heap.size with h | h
    · exact h
    · rw [Array.getElem?_eq_none h] at hnew; cases hnew
  refine ⟨_, fun g => D g ∨ g = w.heap.size, β, rfl, ?_⟩
  exact {
    grows := ⟨fun _ h => .inl h, fun g hg => hb.block g (hD g hg), fun _ _ h => h⟩
    ret := by
      simp only [Rep, RepDat, SliceAt, Dat.len, Dat.wd, List.length_replicate, Int.toNat_natCast]
      refine ⟨_, _, rfl, Nat.le_refl _, fun _ => ⟨w.heap.size, 0, rfl, .inr rfl, fun i j hi hj => ?_⟩⟩
      have j0 : j = 0 := by omega
      subst j0
      refine ⟨.int .i64 v, ?_, ?_⟩
      · rw [cell_of_row w' w.heap.size _ _ _ _ hnew, List.getElem?_toArray, List.getElem?_replicate, if_pos (by omega)]
      · simp [Dat.ok, List.getD_eq_getElem?_getD, List.getElem?_replicate, hi]
    hps := by
      refine ⟨fun l b hl => ?_, fun l l' b b' L1 L2 hl hl' _ _ _ _ _ => ?_⟩
      · obtain ⟨rfl, rfl⟩ := Prod.mk.inj (List.mem_singleton.1 hl)
        refine ⟨L, hL, ⟨hw, hlen, .inr ⟨hnil, hcap, hmax, cs, (hb.block L.g hlt).trans hg, hcl, fun i j hi hj => ?_⟩⟩, fun _ => ⟨fun h => ?_, by have := hb.size; omega⟩⟩
        · simp only [Dat.len, Dat.wd, List.length_singleton] at hi hj ⊢
          have i0 : i = 0 := by omega
          have j0 : j = 0 := by omega
          subst i0 j0
          exact ⟨_, hx, rfl⟩
        · rcases h with h | h
          · exact hnD h
          · omega
      · obtain ⟨rfl, rfl⟩ := Prod.mk.inj (List.mem_singleton.1 hl)
        obtain ⟨rfl, rfl⟩ := Prod.mk.inj (List.mem_singleton.1 hl')
        rfl
    d := fun g hg => by
      rcases hg with hg | rfl
      · exact ⟨.inl hg, by have := hD g hg; omega⟩
      · exact ⟨.inr (.inl (Nat.le_refl _)), hsz⟩
    dom := fun l L hL => .inl hL
    own := fun l b L1 hl hL1 hni => by
      obtain ⟨rfl, rfl⟩ := Prod.mk.inj (List.mem_singleton.1 hl)
      exact .inr ⟨0, _, L1, List.mem_singleton.2 rfl, hL1, hni, rfl⟩
    os := hb.os, tape := hb.tape, output := hb.output, size := hb.size
    block := fun g hg _ => hb.block g hg }
theorem repeat_sound : Sound Try.prog 81 sRepeat.ctr := sRepeat.sound (by kernel_rfl) sRepeat_enc fun ⟨v, c⟩ hc => by
  have h0 := hc _ (.head _)
  have h1 := hc _ (.tail _ (.head _))
  exact repeat_sat v c h0 h1
theorem expand_step {l : List Int} {i : Nat} (h : i + 1 < l.length) : expandL (l.drop i) = List.replicate (l.getD i 0).toNat (l.getD (i + 1) 0) ++ expandL (l.drop (i + 2)) := by
  rw [drop_cons (by omega), drop_cons h]
  rfl
theorem okRuns_step {l : List Int} {i : Nat} (h : i + 1 < l.length) (ho : okRuns (l.drop i) = true) : 1 ≤ l.getD i 0 ∧ l.getD i 0 ≤ 64 ∧ okRuns (l.drop (i + 2)) = true := by
  rw [drop_cons (by omega), drop_cons h] at ho
  simp only [okRuns, Bool.and_eq_true, decide_eq_true_eq] at ho
  exact ⟨ho.1.1, ho.1.2, ho.2⟩
theorem expand_end {l : List Int} {i : Nat} (h : ¬ i + 1 < l.length) : expandL (l.drop i) = [] := by
  by_cases h2 : i < l.length
  · rw [drop_cons h2, List.drop_eq_nil_of_le (by omega)]; rfl
  · rw [List.drop_eq_nil_of_le (by omega)]; rfl
theorem runs_v (l : List Int) (h0 : l.length ≤ 64) (h1 : okRuns l = true) : runs_t l := by
  unfold runs_t
  refine ⟨⟨(0, []), ⟨by (try dsimp only); omega, h1, by simp, rfl⟩, by ((repeat' (refine And.intro ?_ ?_)) <;> first | rfl | exact True.intro | omega | (rw [wr (by omega) (by omega)]; done) | (rw [wr (by omega) (by omega)]; first | rfl | omega | (simp; done)))⟩, ?_⟩
  rintro ⟨i, out⟩ ⟨hi, ho, hl, he⟩
  dsimp only at hi ho hl he
  have wi : IntKind.wrap IntKind.i64 ((i : Int) + 1) = ((i + 1 : Nat) : Int) := by rw [wr (by omega) (by omega)]; simp
  simp only [wi, toNat_cast, List.length_replicate]
  refine ⟨fun hlt => ?_, fun hge => ?_⟩
  · simp only [decide_eq_true_eq] at hlt
    have hlt' : i + 1 < l.length := by omega
    obtain ⟨o1, o2, o3⟩ := okRuns_step hlt' ho
    rw [expand_step hlt', ← List.append_assoc] at he
    refine ⟨by omega, by omega, by omega, by omega, o1, by omega, by omega, (i + 2, out ++ List.replicate (l.getD i 0).toNat (l.getD (i + 1) 0)), ⟨by (try dsimp only); omega, o3, ?_, he⟩, by show l.length - (i + 2) < l.length - i; omega, by ((repeat' (refine And.intro ?_ ?_)) <;> first | rfl | exact True.intro | omega | (rw [wr (by omega) (by omega)]; done) | (rw [wr (by omega) (by omega)]; first | rfl | omega | (simp; done)))⟩
    show (out ++ List.replicate (l.getD i 0).toNat (l.getD (i + 1) 0)).length ≤ 64 * (i + 2)
    rw [List.length_append, List.length_replicate]
    omega
  · simp only [decide_eq_false_iff_not] at hge
    rw [expand_end (by omega), List.append_nil] at he
    exact he
theorem preL0 : preL 0 = 6 ∧ preP 0 = pLits ∧ preE 0 = 0 := by decide
theorem preL1 : preL 1 = 5 ∧ preP 1 = pOffset ∧ preE 1 = 0 := by decide
theorem preL2 : preL 2 = 6 ∧ preP 2 = pMatch ∧ preE 2 = 0 := by decide
theorem preLn {k : Int} (h0 : (k == 0) = false) (h1 : (k == 1) = false) (h2 : (k == 2) = false) : preL k = 0 ∧ preP k = [] ∧ preE k = 11 := by
  unfold preL preP preE; rw [h0, h1, h2]; exact ⟨rfl, rfl, rfl⟩
theorem rpredef_v (k : Int) : rpredef_t k := by
  unfold rpredef_t
  refine ⟨fun h => ?_, fun h0 => ⟨fun h => ?_, fun h1 => ⟨fun h => ?_, fun h2 => ?_⟩⟩⟩
  · have e : k = 0 := by simpa using h
    subst e
    decide +kernel
  · have e : k = 1 := by simpa using h
    subst e
    decide +kernel
  · have e : k = 2 := by simpa using h
    subst e
    decide +kernel
  · obtain ⟨e1, e2, e3⟩ := preLn h0 h1 h2
    rw [e1, e2, e3]
    exact ⟨rfl, rfl, rfl⟩
theorem predef_v (k : Int) : predef_t k := by
  unfold predef_t
  refine ⟨by decide, by decide, by decide, by decide, by decide, by decide, by decide, fun h => ?_, fun h1 => ⟨fun h => ?_, fun h2 => ⟨fun h => ?_, fun h0 => ?_⟩⟩⟩
  · have e : k = 1 := by simpa using h
    subst e
    decide +kernel
  · have e : k = 2 := by simpa using h
    subst e
    decide +kernel
  · have e : k = 0 := by simpa using h
    subst e
    decide +kernel
  · obtain ⟨e1, e2, e3⟩ := preLn h0 h1 h2
    rw [e1, e2, e3]
    exact ⟨rfl, rfl, rfl⟩
/-! ### tables -/
theorem times_sound : Sound Try.prog 73 sTimes.ctr := sTimes.sound (by kernel_rfl) sTimes_enc fun ⟨l, n, x⟩ hc => by
  have h0 := hc _ (.head _)
  have h1 := hc _ (.tail _ (.head _))
  exact satG G8a_ok mixed Try.func73 (times_e l n x) (times_v l n x h0 h1)
theorem times0_sound : Sound Try.prog 73 sTimes0.ctr := sTimes0.sound (by kernel_rfl) sTimes0_enc fun ⟨n, x⟩ hc => by
  have h0 := hc _ (.head _)
  exact satG G8a_ok mixed Try.func73 (times0_e n x) (times0_v n x h0)
theorem G8g_ok : AllOk Try.prog G8g := .cons repeat_sound <| .cons (orC_sound times0_sound times_sound) G8f_ok
theorem runs_sound : Sound Try.prog 65 sRuns.ctr := sRuns.sound (by kernel_rfl) sRuns_enc fun l hc => by
  have h0 := hc _ (.head _)
  have h1 := hc _ (.tail _ (.head _))
  exact satG G8g_ok mixed Try.func65 (runs_e l) (runs_v l h0 h1)
theorem G8h_ok : AllOk Try.prog G8h := .cons runs_sound G8g_ok
theorem predef_sound : Sound Try.prog 38 sPredef.ctr := sPredef.sound (by kernel_rfl) sPredef_enc fun k hc => by
  exact satG G8h_ok mixed Try.func38 (predef_e k) (predef_v k)
theorem rpredef_sound : Sound Try.prog 51 sPredef.ctr := sPredef.sound (by kernel_rfl) sPredef_enc fun k hc => by
  exact satG G8h_ok mixed Try.func51 (rpredef_e k) (rpredef_v k)
theorem G8i_ok : AllOk Try.prog G8i := .cons predef_sound <| .cons rpredef_sound G8h_ok
end Go.Proofs.Ytafabheehkmfhaa
/-
  From the executor's word on a law to the row's frame: it returns true and leaves what was there as it was. Conditions: each theorem's own.
-/
namespace Go.Proofs.Ytafabheehkmfhaa
open Go.RowKit
set_option linter.unusedVariables false
set_option linter.unusedSimpArgs false
/-- what was there at the call -/
def Old (W : World) : Nat → Prop := fun g => g < W.heap.size
def NoLoc : Nat → Option Loc := fun _ => none
theorem calls_of_sat {P : Program} {f : FuncId} {args : List SV} {us : List Value} {ret : SV} {hp' : List (Nat × SBlk)} {W : World} (h : Sat P f args [] ret hp') (ha : Reps (Old W) W NoLoc args us) :
    Calls P f us.toArray W fun e w' => ∃ v D' β', e = .returned v ∧ Rep D' w' β' ret v ∧ Below W.heap.size W w' := by
  refine (h (Old W) NoLoc W us ha ⟨fun l b hl => (by cases hl), fun l l' b b' L L' hl => (by cases hl)⟩ (fun g hg => hg) (fun l hl => absurd rfl hl)).mono ?_
  rintro e w' ⟨v, D', β', he, ha⟩
  refine ⟨v, D', β', he, ha.ret, ha.os, ha.tape, ha.output, ha.size, fun k hk => ha.block k hk ?_⟩
  rintro ⟨l, b, L, hl, _⟩
  cases hl
theorem law_true {P : Program} {f : FuncId} {args : List SV} {us : List Value} {ret : SV} {hp' : List (Nat × SBlk)} {W : World} (h : Sat P f args [] ret hp') (hr : ret = .bl true ∨ ret = .v (.bool true)) (ha : Reps (Old W) W NoLoc args us) :
    Calls P f us.toArray W fun e w' => e = .returned (.bool true) ∧ Below W.heap.size W w' := by
  refine (calls_of_sat h ha).mono ?_
  rintro e w' ⟨v, D', β', he, hv, hb⟩
  rcases hr with rfl | rfl <;> (simp only [Rep] at hv; subst hv; exact ⟨he, hb⟩)
theorem runs_true {P : Program} {Γ : FuncId → Option Ctr} (hm : P.follows .mixedOrders = true) {lim k : Nat} (hΓ : ∀ f c, Γ f = some c → Sound P f c) {f : FuncId} (h : runs P Γ lim k f = true) (W : World) :
    Calls P f #[] W fun e w' => e = .returned (.bool true) ∧ Below W.heap.size W w' := by
  obtain ⟨ret, hp', hs, hr⟩ := runs_ok hm hΓ h
  exact law_true (us := []) hs hr (by simp only [Reps])
theorem dat_ints {W : World} {β : Nat → Option Loc} {A : Option Addr} {n cap : Nat} {zs : List Int} (h : IntsIn W A n cap zs) : Rep (Old W) W β (.dat (.ints .i64 (zs.take n))) (.slice A n cap) := by
  have hl := h.len
  have hle := h.le
  have hlen : (zs.take n).length = n := by simp; omega
  simp only [Rep, RepDat, SliceAt, Dat.len, Dat.wd, hlen]
  refine ⟨A, cap, rfl, hle, fun hn => ?_⟩
  obtain ⟨b, off, hA, hb, hc⟩ := h.at_ (by omega)
  refine ⟨b, off, hA, hb, fun i j hi hj => ?_⟩
  obtain rfl : j = 0 := by omega
  refine ⟨_, by simpa using hc i (by omega), ?_⟩
  simp only [Dat.ok, List.getD_eq_getElem?_getD, List.getElem?_take, hi, if_true]
end Go.Proofs.Ytafabheehkmfhaa
/-
  Chapter 8: the laws on what is written and predefined hold. Conditions: each theorem's own.
-/
namespace Go.Proofs.Ytafabheehkmfhaa
open Go Go.RowKit
set_option linter.unusedVariables false
set_option linter.unusedSimpArgs false
set_option maxRecDepth 100000
theorem preP_len (k : Int) : (preP k).length ≤ 256 := by
  unfold preP
  cases k == 0
  · cases k == 1
    · cases k == 2
      · show [].length ≤ 256
        decide
      · show pMatch.length ≤ 256
        decide
    · show pOffset.length ≤ 256
      decide
  · show pLits.length ≤ 256
    decide
theorem awake8_v : awake8_t := by
  unfold awake8_t
  decide +kernel
theorem lawPre_v (k : Int) (hk : inW k = true) : lawPre_t k := by
  unfold lawPre_t
  have h : modI k 3 = 0 ∨ modI k 3 = 1 ∨ modI k 3 = 2 := by
    unfold modI
    have h1 := Int.emod_nonneg k (show (3 : Int) ≠ 0 by omega)
    have h2 := Int.emod_lt_of_pos k (show (0 : Int) < 3 by omega)
    simp only [show decide ((3 : Int) < 1) = false from rfl, cond_false]
    omega
  refine ⟨hk, by decide, ?_⟩
  rcases h with h | h | h <;> (rw [h]; decide +kernel)
theorem eqI_refl (l : List Int) : eqI l l = true := by unfold eqI; simp
theorem lawWr_v (g : Int) (l : List Int) (g2 : Int) (l2 : List Int) (k : Int) : lawWr_t g l g2 l2 k := by
  unfold lawWr_t
  refine ⟨fun _ => rfl, fun h => ⟨fun _ => rfl, fun h2 => ?_⟩⟩
  simp only [gt_iff_lt, decide_eq_false_iff_not] at h h2
  have hl : l.length ≤ 4294967296 := by omega
  have hp : (preP k).length ≤ 4294967296 := by have := preP_len k; omega
  simp [hl, hp, eqI_refl]
/-! ### the laws -/
theorem awake8_sound : Sound Try.prog 40 sAwake.ctr := sAwake.sound (by kernel_rfl) sAwake_enc fun _ hc => satG G8i_ok mixed Try.func40 awake8_e awake8_v
theorem G8j_ok : AllOk Try.prog G8j := .cons awake8_sound G8i_ok
theorem pre_any (k : Int) (W : World) (hk : InR k) : Calls Try.prog 8 #[.int .i64 k] W fun e w' => e = .returned (.bool true) ∧ Below W.heap.size W w' :=
  law_true (us := [.int .i64 k]) (satG G8j_ok mixed Try.func8 (lawPre_e k) (lawPre_v k (by unfold InR at hk; simp [inW]; omega))) (.inr rfl) (by simp [Reps, Rep])
theorem wr_any (g : Int) (A : Option Addr) (n cap : Nat) (zs : List Int) (g2 : Int) (A2 : Option Addr) (n2 cap2 : Nat) (zs2 : List Int) (k : Int) (W : World) (hg : InR g) (hI : IntsIn W A n cap zs) (hg2 : InR g2) (hI2 : IntsIn W A2 n2 cap2 zs2) (hk : InR k) :
    Calls Try.prog 9 #[.agg #[.int .i64 g, .slice A n cap], .agg #[.int .i64 g2, .slice A2 n2 cap2], .int .i64 k] W fun e w' => e = .returned (.bool true) ∧ Below W.heap.size W w' := by
  refine law_true (us := [.agg #[.int .i64 g, .slice A n cap], .agg #[.int .i64 g2, .slice A2 n2 cap2], .int .i64 k]) (satG G8j_ok mixed Try.func9 (lawWr_e g (zs.take n) g2 (zs2.take n2) k) (lawWr_v g _ g2 _ k)) (.inr rfl) ?_
  simp only [Reps]
  exact ⟨_, _, rfl, ⟨[_, _], rfl, _, _, rfl, rfl, _, _, rfl, dat_ints hI, rfl⟩, _, _, rfl, ⟨[_, _], rfl, _, _, rfl, rfl, _, _, rfl, dat_ints hI2, rfl⟩, _, _, rfl, rfl, rfl⟩
end Go.Proofs.Ytafabheehkmfhaa
