/-
  Texts joined: D8B, D8D, D8E, D8H, D8O, D8Q, D8It, Repeat, D8J, D8R, D8T, Err, D8U, VM, VIf, VA, VI, VIt, VIB, VIC, VID, VJB, VJC, VJCt, VJD, VKf, VK, VKt, VL, VN, VO, VPf. Conditions: each theorem's own.
-/
import Derived.Test.YtcoogfifjibkhaaGreatK4
import Derived.Test.YtcoogfifjibkhaaGreatK3
import Derived.Laws.CopyOwn
import Derived.Deep.RegionLaw
import Derived.WalkKit
import Derived.LaidEql
import Derived.Stop.Asserts
import Derived.RowKitTokens
import Derived.Lib.IfaceEq
import Derived.Test.YtcoogfifjibkhaaGreatK1
namespace Go.Proofs.YtcoogfifjibkhaaGreat
open Go Go.RowKit
set_option linter.unusedVariables false
set_option linter.unusedSimpArgs false
set_option maxRecDepth 100000
theorem log2_lt63 {n : Int} (h : n ≤ 9223372036854775807) : Nat.log2 n.toNat ≤ 62 := by
  by_cases h0 : n.toNat = 0
  · rw [h0]; decide
  · have := (Nat.log2_lt h0 (k := 63)).2 (by omega)
    omega
theorem div_pos_iff {n : Int} (h : 0 < n) (i : Nat) : 0 < n / 2 ^ i ↔ i ≤ Nat.log2 n.toNat := by
  rw [Nat.le_log2 (by omega)]
  have h1 : 0 < n / 2 ^ i ↔ 1 * 2 ^ i ≤ n := by
    rw [← Int.le_ediv_iff_mul_le (pow_pos' i)]
    omega
  rw [h1, pow_cast]
  omega
theorem high_v (n : Int) (h0 : n ≤ 9223372036854775807) : high_t n := by
  unfold high_t
  have hl := log2_lt63 h0
  refine ⟨⟨0, by rw [nle]; omega, rfl, by unfold hiM; cases decide (n ≤ 0) <;> simp <;> omega, rfl⟩, fun i hi => ⟨fun hlt => ?_, fun hge => ?_⟩⟩
  · simp only [decide_eq_true_eq] at hlt
    rw [nle] at hi
    rw [b64, toNat_cast, Nat.min_eq_left (by omega), fdivp (by have := pow_pos' i; omega)]
    refine ⟨by omega, fun hp => ⟨i + 1, by rw [nle]; omega, by show 63 - (i+1) < 63 - i; omega, by trivial, ?_, by rw [wr (by omega) (by omega)]; simp⟩, fun hp => ⟨i + 1, by rw [nle]; omega, by show 63 - (i+1) < 63 - i; omega, by trivial, ?_, by rw [wr (by omega) (by omega)]; simp⟩⟩
    · simp only [gt_iff_lt, decide_eq_true_eq] at hp
      have hn : 0 < n := by
        rcases Int.lt_or_le 0 n with h | h
        · exact h
        · have := Int.ediv_nonpos_of_nonpos_of_neg h (pow_pos' i)
          omega
      have := (div_pos_iff hn i).1 hp
      unfold hiM
      rw [decide_eq_false (by omega)]
      simp only [cond_false]
      omega
    · simp only [gt_iff_lt, decide_eq_false_iff_not] at hp
      unfold hiM
      by_cases hn : 0 < n
      · have : ¬ i ≤ Nat.log2 n.toNat := fun h => hp ((div_pos_iff hn i).2 h)
        rw [decide_eq_false (by omega)]
        simp only [cond_false]
        omega
      · rw [decide_eq_true (by omega)]
        rfl
  · simp only [decide_eq_false_iff_not] at hge
    rw [nle] at hi
    unfold hiM hiI
    cases decide (n ≤ 0)
    · simp only [cond_false]; omega
    · rfl
theorem rhigh_v (n : Int) (h0 : n ≤ 9223372036854775807) : rhigh_t n := by
  unfold rhigh_t
  have hl := log2_lt63 h0
  refine ⟨⟨0, ?_, by simp, rfl⟩, fun i hi => ⟨fun hp => ?_, fun hp => ?_⟩⟩
  · by_cases h : n ≤ 0
    · exact .inl ⟨h, rfl⟩
    · exact .inr ⟨by omega, by omega⟩
  · simp only [gt_iff_lt, decide_eq_true_eq] at hp
    have hn : 0 < n := by
      rcases Int.lt_or_le 0 n with h | h
      · exact h
      · have := Int.ediv_nonpos_of_nonpos_of_neg h (pow_pos' i)
        omega
    have h1 := (div_pos_iff hn i).1 hp
    have hle := Int.ediv_le_self (2 ^ i) (Int.le_of_lt hn)
    refine ⟨by omega, i + 1, .inr ⟨hn, by omega⟩, ?_, ?_, ?_⟩
    · show 63 - (i + 1) < 63 - i
      omega
    · rw [tdiv2 (by omega), Int.pow_succ, ← Int.ediv_ediv_of_nonneg (Int.le_of_lt (pow_pos' i))]
      exact wr (by omega) (by omega)
    · rw [wr (by omega) (by omega)]; simp
  · simp only [gt_iff_lt, decide_eq_false_iff_not] at hp
    unfold hiI
    by_cases hn : 0 < n
    · have : ¬ i ≤ Nat.log2 n.toNat := fun h => hp ((div_pos_iff hn i).2 h)
      rw [decide_eq_false (by omega)]
      simp only [cond_false]
      omega
    · rw [decide_eq_true (by omega)]
      simp only [cond_true]
      omega
theorem minL_snoc (l : List Int) (z : Int) (h : l ≠ []) : minL (l ++ [z]) = min (minL l) z := by
  cases l with
  | nil => exact absurd rfl h
  | cons x r => simp [minL, List.foldl_append]
theorem min_v (l : List Int) (h0 : 0 < l.length) (h1 : l.length ≤ 4294967296) : minK_t l := by
  unfold minK_t
  refine ⟨fun h => by simp only [decide_eq_true_eq] at h; omega, fun h => ⟨by omega, by omega, ⟨1, ⟨by omega, by omega⟩, rfl, ?_, rfl⟩, fun i hi => ⟨fun hlt => ?_, fun hge => ?_⟩⟩⟩
  · cases l with
    | nil => simp at h0
    | cons x r => simp [minL]
  · simp only [decide_eq_true_eq] at hlt
    have hlt' : i < l.length := by omega
    refine ⟨by omega, by omega, i + 1, ⟨by omega, by omega⟩, by show l.length - (i+1) < l.length - i; omega, by trivial, ?_, by rw [wr (by omega) (by omega)]; simp⟩
    rw [take_succ l 0 hlt', toNat_cast, minL_snoc]
    intro hn
    have := congrArg List.length hn
    simp only [List.length_take, List.length_nil] at this
    omega
  · simp only [decide_eq_false_iff_not] at hge
    rw [List.take_of_length_le (by omega)]
theorem eq_false_of_getD {a b : List Int} (h : a.length = b.length) {i : Nat} (hi : i < a.length) (hne : a.getD i 0 ≠ b.getD i 0) : eqI a b = false := by
  unfold eqI
  rw [beq_eq_false_iff_ne]
  rintro rfl
  exact hne rfl
theorem take_step {a b : List Int} {i : Nat} (ha : i < a.length) (hb : i < b.length) (h : a.take i = b.take i) (he : a.getD i 0 = b.getD i 0) : a.take (i + 1) = b.take (i + 1) := by
  rw [take_succ a 0 ha, take_succ b 0 hb, h, he]
theorem eq_true_of_take {a b : List Int} (h : a.length = b.length) {i : Nat} (hi : a.length ≤ i) (ht : a.take i = b.take i) : eqI a b = true := by
  rw [List.take_of_length_le hi, List.take_of_length_le (by omega)] at ht
  unfold eqI
  rw [ht]
  simp
theorem eq_len {a b : List Int} (h : ((a.length : Int) != (b.length : Int)) = true) : eqI a b = false := by
  unfold eqI
  rw [beq_eq_false_iff_ne]
  rintro rfl
  simp at h
theorem equal_v (a b : List Int) (h0 : a.length ≤ 4294967296) : equal_t a b := by
  unfold equal_t
  refine ⟨fun h => (eq_len h).symm, fun h => ?_⟩
  have hl : a.length = b.length := by have h' := h; simp at h'; omega
  refine ⟨⟨0, ⟨by omega, rfl⟩, rfl, rfl, rfl, rfl⟩, fun i hi => ⟨fun hlt => ?_, fun hge => ?_⟩⟩
  · simp only [decide_eq_true_eq] at hlt
    simp only [toNat_cast]
    refine ⟨by omega, by omega, by omega, by omega, fun hne => ?_, fun he => ?_⟩
    · exact (eq_false_of_getD hl (i := i) (by omega) (by simpa using hne)).symm
    · exact ⟨i + 1, ⟨by omega, take_step (by omega) (by omega) hi.2 (by simpa using he)⟩, by show a.length - (i+1) < a.length - i; omega, by trivial, by trivial, by rw [wr (by omega) (by omega)]; simp, by trivial⟩
  · simp only [decide_eq_false_iff_not] at hge
    exact (eq_true_of_take hl (by omega) hi.2).symm
theorem sameInts_v (a b : List Int) (h0 : a.length ≤ 4294967296) : sameInts_t a b := by
  unfold sameInts_t
  refine ⟨fun h => (eq_len h).symm, fun h => ?_⟩
  have hl : a.length = b.length := by have h' := h; simp at h'; omega
  refine ⟨⟨0, ⟨by omega, rfl⟩, rfl, rfl, rfl⟩, fun i hi => ⟨fun hlt => ?_, fun hge => ?_⟩⟩
  · simp only [decide_eq_true_eq] at hlt
    simp only [toNat_cast]
    refine ⟨by omega, by omega, by omega, by omega, fun hne => ?_, fun he => ?_⟩
    · exact (eq_false_of_getD hl (i := i) (by omega) (by simpa using hne)).symm
    · exact ⟨i + 1, ⟨by omega, take_step (by omega) (by omega) hi.2 (by simpa using he)⟩, by show a.length - (i+1) < a.length - i; omega, by trivial, by trivial, by rw [wr (by omega) (by omega)]; simp⟩
  · simp only [decide_eq_false_iff_not] at hge
    exact (eq_true_of_take hl (by omega) hi.2).symm
theorem pts_snoc (l : List Int) (p : Int) : pts (l ++ [p]) = pts l + pt p := by simp [pts, List.foldl_append]
theorem pt_nonneg (p : Int) : 0 ≤ pt p := by
  unfold pt
  by_cases h : p < 0
  · rw [decide_eq_true h]; simp
  · rw [decide_eq_false h]; simp only [cond_false]; omega
theorem snoc_ind {P : List Int → Prop} (h0 : P []) (h1 : ∀ l z, P l → P (l ++ [z])) (l : List Int) : P l := by
  have : P l.reverse.reverse := by
    induction l.reverse with
    | nil => exact h0
    | cons x r ih => rw [List.reverse_cons]; exact h1 _ _ ih
  rwa [List.reverse_reverse] at this
theorem pts_nonneg (l : List Int) : 0 ≤ pts l := by
  induction l using snoc_ind with
  | h0 => simp [pts]
  | h1 l z ih => rw [pts_snoc]; have := pt_nonneg z; omega
theorem pts_app (a b : List Int) : pts (a ++ b) = pts a + pts b := by
  induction b using snoc_ind with
  | h0 => simp [pts]
  | h1 b z ih => rw [← List.append_assoc, pts_snoc, ih, pts_snoc]; omega
theorem pts_take_le (l : List Int) (i : Nat) : pts (l.take i) ≤ pts l := by
  have h := pts_app (l.take i) (l.drop i)
  rw [List.take_append_drop] at h
  have := pts_nonneg (l.drop i)
  omega
theorem pts_le (l : List Int) (m : Int) (hm : 1 ≤ m) (h : ∀ x ∈ l, x ≤ m) : pts l ≤ m * l.length := by
  induction l using snoc_ind with
  | h0 => simp [pts]
  | h1 l z ih =>
    have hz : pt z ≤ m := by
      have := h z (by simp)
      unfold pt
      by_cases h : z < 0
      · rw [decide_eq_true h]; simpa using hm
      · rw [decide_eq_false h]; simpa using this
    have := ih (fun x hx => h x (by simp [hx]))
    rw [pts_snoc, List.length_append]
    simp only [List.length_cons, List.length_nil]
    have e : m * ((l.length + (0 + 1) : Nat) : Int) = m * l.length + m := by
      rw [Int.natCast_add, Int.mul_add]; simp
    omega
theorem pt_neg {p : Int} (h : decide (p < 0) = true) : pt p = 1 := by unfold pt; rw [h]; rfl
theorem pt_pos {p : Int} (h : decide (p < 0) = false) : pt p = p := by unfold pt; rw [h]; rfl
theorem rpoints_v (l : List Int) (h0 : l.length ≤ 65536) (h1 : l.all (fun x => decide (x ≤ 65536)) = true) : rpoints_t l := by
  unfold rpoints_t
  have hb : pts l ≤ 65536 * l.length := pts_le l 65536 (by omega) (fun x hx => by simpa using List.all_eq_true.1 h1 x hx)
  refine ⟨⟨0, by rw [nle]; omega, rfl, rfl, rfl⟩, fun i hi => ⟨fun hlt => ?_, fun hge => ?_⟩⟩
  · simp only [decide_eq_true_eq] at hlt
    rw [nle] at hi
    simp only [toNat_cast]
    have hlt' : i < l.length := by omega
    have hs : pts (l.take (i + 1)) = pts (l.take i) + pt (l.getD i 0) := by rw [take_succ l 0 hlt', pts_snoc]
    have b1 := pts_take_le l (i + 1)
    have b2 := pts_nonneg (l.take i)
    have b3 := pt_nonneg (l.getD i 0)
    refine ⟨by omega, by omega, fun hn => ?_, fun hn => ⟨by omega, by omega, ?_⟩⟩
    · have := pt_neg hn
      exact ⟨i + 1, by rw [nle]; omega, by show l.length - (i+1) < l.length - i; omega, by trivial, by rw [wr (by omega) (by omega)]; omega, by rw [wr (by omega) (by omega)]; simp⟩
    · have := pt_pos hn
      exact ⟨i + 1, by rw [nle]; omega, by show l.length - (i+1) < l.length - i; omega, by trivial, by rw [wr (by omega) (by omega)]; omega, by rw [wr (by omega) (by omega)]; simp⟩
  · simp only [decide_eq_false_iff_not] at hge
    rw [List.take_of_length_le (by omega)]
theorem add_v (n s : Int) (h0 : 0 ≤ n) (h1 : n ≤ 1048576) (h2 : 0 ≤ s) (h3 : s ≤ 1048576) : add_t n s := by
  unfold add_t
  rw [wr (by omega) (by omega)]
theorem bits_v (n : Int) (h : n ≤ 9223372036854775807) : bits_t n := by
  have := log2_lt63 h
  refine ⟨h, wr ?_ ?_⟩ <;> (unfold hiI; cases decide (n ≤ 0) <;> simp only [cond_true, cond_false] <;> omega)
theorem points_v (g : Int) (l : List Int) (h : l.length ≤ 4294967296) : points_t g l := by
  unfold points_t
  refine ⟨⟨0, by rw [nle]; omega, rfl, rfl, rfl, rfl⟩, fun i hi => ⟨fun hlt => ?_, fun hge => ?_⟩⟩
  · simp only [decide_eq_true_eq] at hlt
    rw [nle] at hi
    simp only [toNat_cast]
    have hlt' : i < l.length := by omega
    have hs : pts (l.take (i + 1)) = pts (l.take i) + pt (l.getD i 0) := by rw [take_succ l 0 hlt', pts_snoc]
    have b2 := pts_nonneg (l.take i)
    have b3 := pt_nonneg (l.getD i 0)
    refine ⟨by omega, by omega, fun hn => ?_, fun hn => ?_⟩
    · have := pt_neg hn
      exact ⟨by omega, by omega, by omega, by omega, i + 1, by rw [nle]; omega, by show l.length - (i+1) < l.length - i; omega, by trivial, by trivial, by rw [wr (by omega) (by omega)]; simp, by omega⟩
    · have := pt_pos hn
      exact ⟨by omega, by omega, by omega, by omega, i + 1, by rw [nle]; omega, by show l.length - (i+1) < l.length - i; omega, by trivial, by trivial, by rw [wr (by omega) (by omega)]; simp, by omega⟩
  · simp only [decide_eq_false_iff_not] at hge
    rw [List.take_of_length_le (by omega)]
theorem times_v (l : List Int) (n x : Int) (h0 : l.length ≤ 65536) (h1 : n ≤ 65536) : times_t l n x := by
  unfold times_t
  refine ⟨⟨0, by rw [nle]; omega, rfl, rfl, rfl, by simp⟩, fun i hi => ⟨fun hlt => ?_, fun hge => ?_⟩⟩
  · simp only [decide_eq_true_eq] at hlt
    rw [nle] at hi
    refine ⟨by simp; omega, i + 1, by rw [nle]; omega, by show n.toNat - (i+1) < n.toNat - i; omega, by trivial, by trivial, by rw [wr (by omega) (by omega)]; simp, ?_⟩
    rw [List.replicate_succ', List.append_assoc]
  · simp only [decide_eq_false_iff_not] at hge
    rw [nle] at hi
    rw [show i = n.toNat by omega]
theorem times0_v (n x : Int) (h1 : n ≤ 65536) : times0_t n x := by
  unfold times0_t
  refine ⟨⟨0, by rw [nle]; omega, rfl, rfl, rfl, by simp⟩, fun i hi => ⟨fun hlt => ?_, fun hge => ?_⟩⟩
  · simp only [decide_eq_true_eq] at hlt
    rw [nle] at hi
    refine ⟨by simp; omega, i + 1, by rw [nle]; omega, by show n.toNat - (i+1) < n.toNat - i; omega, by trivial, by trivial, by rw [wr (by omega) (by omega)]; simp, ?_⟩
    rw [List.replicate_succ', List.append_assoc]
  · simp only [decide_eq_false_iff_not] at hge
    rw [nle] at hi
    rw [show i = n.toNat by omega]
    simp
theorem shape_v (n : Int) (h0 : 0 ≤ n) (h1 : n ≤ 1073741824) : shape_t n := by
  unfold shape_t
  have hw : IntKind.wrap IntKind.i64 (n + 1) = n + 1 := wr (by omega) (by omega)
  simp only [hw]
  have hn : (n + 1).toNat ≠ 0 := by omega
  have hl := (Nat.log2_lt hn (k := 31)).2 (by omega)
  have hh : hiI (n + 1) = Nat.log2 (n + 1).toNat := by unfold hiI; rw [decide_eq_false (by omega)]; rfl
  have hb : shB n = (Nat.log2 (n + 1).toNat : Nat) + 1 := by unfold shB; rw [hh]
  refine ⟨by omega, by omega, rfl, ?_⟩
  rw [shl1 (by omega) (by omega)]
  unfold shT
  have e : (hiI (n + 1) + 1).toNat = (shB n).toNat := rfl
  rw [e]
  have hp := pow_mono (show (shB n).toNat ≤ 31 by omega)
  have hp2 := pow_pos' (shB n).toNat
  rw [wr (n := (2 : Int) ^ (shB n).toNat - 1) (by omega) (by omega), wr (by omega) (by omega)]
theorem pts_mem {l : List Int} {x : Int} (h : x ∈ l) : pt x ≤ pts l := by
  obtain ⟨a, b, rfl⟩ := List.append_of_mem h
  have h1 := pts_app a (x :: b)
  have h2 := pts_app [x] b
  have h3 := pts_nonneg a
  have h4 := pts_nonneg b
  have h5 : pts [x] = pt x := by simp [pts]
  have e : x :: b = [x] ++ b := rfl
  rw [e] at h1 ⊢
  omega
theorem dchk_out {g : Int} {l : List Int} (h : (decide (g < 5) || decide (12 < g)) = true) : dchk g l = 31 := by unfold dchk; rw [h]; rfl
theorem dchk_in {g : Int} {l : List Int} (h1 : decide (g < 5) = false) (h2 : decide (12 < g) = false) : dchk g l = cond (dbad g l) 23 0 := by unfold dchk; rw [h1, h2]; rfl
theorem dbad_iff (g : Int) (l : List Int) : dbad g l = true ↔ l.length < 1 ∨ 256 < l.length ∨ l.getD (l.length - 1) 0 = 0 ∨ (∃ x ∈ l, x < -1) ∨ pts l ≠ 2 ^ g.toNat := by
  unfold dbad
  simp only [Bool.or_eq_true, decide_eq_true_eq, beq_iff_eq, List.any_eq_true, Bool.not_eq_true', beq_eq_false_iff_ne, ne_eq]
  constructor
  · rintro ((((h | h) | h) | h) | h)
    · exact .inl h
    · exact .inr (.inl h)
    · exact .inr (.inr (.inl h))
    · exact .inr (.inr (.inr (.inl h)))
    · exact .inr (.inr (.inr (.inr h)))
  · rintro (h | h | h | h | h)
    · exact .inl (.inl (.inl (.inl h)))
    · exact .inl (.inl (.inl (.inr h)))
    · exact .inl (.inl (.inr h))
    · exact .inl (.inr h)
    · exact .inr h
theorem bad23 {g : Int} {l : List Int} (h1 : decide (g < 5) = false) (h2 : decide (12 < g) = false) (h : l.length < 1 ∨ 256 < l.length ∨ l.getD (l.length - 1) 0 = 0 ∨ (∃ x ∈ l, x < -1) ∨ pts l ≠ 2 ^ g.toNat) : (23 : Int) = dchk g l := by
  rw [dchk_in h1 h2, (dbad_iff g l).2 h]; rfl
theorem good0 {g : Int} {l : List Int} (h1 : decide (g < 5) = false) (h2 : decide (12 < g) = false) (h : ¬ (l.length < 1 ∨ 256 < l.length ∨ l.getD (l.length - 1) 0 = 0 ∨ (∃ x ∈ l, x < -1) ∨ pts l ≠ 2 ^ g.toNat)) : (0 : Int) = dchk g l := by
  have : dbad g l = false := by
    cases hb : dbad g l
    · rfl
    · exact absurd ((dbad_iff g l).1 hb) h
  rw [dchk_in h1 h2, this]; rfl
theorem minL_lt (l : List Int) (h : l ≠ []) (c : Int) : minL l < c ↔ ∃ x ∈ l, x < c := by
  induction l using snoc_ind with
  | h0 => exact absurd rfl h
  | h1 l z ih =>
    by_cases hl : l = []
    · subst hl; simp [minL]
    · rw [minL_snoc l z hl]
      have := ih hl
      constructor
      · intro h1
        by_cases hz : z < c
        · exact ⟨z, by simp, hz⟩
        · obtain ⟨x, hx, hxc⟩ := this.1 (by omega)
          exact ⟨x, by simp [hx], hxc⟩
      · rintro ⟨x, hx, hxc⟩
        simp only [List.mem_append, List.mem_singleton] at hx
        rcases hx with hx | rfl
        · have := this.2 ⟨x, hx, hxc⟩
          omega
        · omega
theorem pow12 {g : Int} (h2 : g ≤ 12) : (2 : Int) ^ g.toNat ≤ 4096 := by
  have := pow_mono (show g.toNat ≤ 12 by omega)
  omega
theorem rcheck_v (g : Int) (l : List Int) : rcheck_t g l := by
  unfold rcheck_t
  refine ⟨fun h => (dchk_out (by rw [h]; rfl)).symm, fun h5 => ⟨fun h => (dchk_out (by simp only [gt_iff_lt] at h; rw [h, Bool.or_true])).symm, fun h12 => ⟨fun h => bad23 h5 h12 (.inl (by simp only [decide_eq_true_eq] at h; omega)), fun h1 => ⟨fun h => bad23 h5 h12 (.inr (.inl (by simp at h; omega))), fun h2 => ?_⟩⟩⟩⟩
  simp only [decide_eq_false_iff_not, gt_iff_lt] at h1 h2
  have h5' := h5
  have h12' := h12
  simp only [decide_eq_false_iff_not, gt_iff_lt] at h5' h12'
  have hw : IntKind.wrap IntKind.i64 ((l.length : Int) - 1) = (l.length : Int) - 1 := wr (by omega) (by omega)
  have ht : ((l.length : Int) - 1).toNat = l.length - 1 := by omega
  have hg : IntKind.wrap IntKind.u64 g = g := wru (by omega) (by omega)
  simp only [hw, ht, hg, shl1 (show 0 ≤ g by omega) (show g ≤ 62 by omega), toNat_cast]
  have p12 := pow12 (show g ≤ 12 by omega)
  have p0 := pow_pos' g.toNat
  refine ⟨by omega, by omega, fun h => bad23 h5 h12 (.inr (.inr (.inl (by simpa using h)))), fun h3 => ⟨⟨0, ⟨by omega, fun x hx => by simp at hx⟩, by trivial, by trivial, by trivial⟩, fun i hi => ⟨fun hlt => ?_, fun hge => ?_⟩⟩⟩
  · simp only [decide_eq_true_eq] at hlt
    have hlt' : i < l.length := by omega
    refine ⟨by omega, by omega, fun hn => bad23 h5 h12 (.inr (.inr (.inr (.inl ⟨_, getD_mem' hlt', by simpa using hn⟩)))), fun hn => ⟨by omega, by omega, by omega, fun hb => bad23 h5 h12 (.inr (.inr (.inr (.inr ?_)))), fun hb => ?_⟩⟩
    · simp only [gt_iff_lt, decide_eq_true_eq] at hb
      have := pts_mem (getD_mem' hlt')
      have hp : pt (l.getD i 0) = l.getD i 0 := pt_pos (decide_eq_false (by omega))
      omega
    · simp only [gt_iff_lt, decide_eq_false_iff_not] at hn hb
      refine ⟨i + 1, ⟨by omega, fun x hx => ?_⟩, by show l.length - (i + 1) < l.length - i; omega, by rw [wr (by omega) (by omega)]; simp, by trivial, by trivial⟩
      rw [take_succ l 0 hlt', List.mem_append, List.mem_singleton] at hx
      rcases hx with hx | rfl
      · exact hi.2 x hx
      · omega
  · simp only [decide_eq_false_iff_not] at hge
    have hall := hi.2
    rw [List.take_of_length_le (by omega)] at hall
    refine ⟨by omega, List.all_eq_true.2 fun x hx => by have := hall x hx; simp only [decide_eq_true_eq]; omega, by omega, fun hb => bad23 h5 h12 (.inr (.inr (.inr (.inr (by simpa using hb))))), fun hb => good0 h5 h12 ?_⟩
    rintro (c | c | c | ⟨x, hx, hxc⟩ | c)
    · omega
    · omega
    · rw [c] at h3; simp at h3
    · have := hall x hx; omega
    · exact c (by simpa using hb)
theorem check_v (g : Int) (l : List Int) (h0 : l.length ≤ 4294967296) : check_t g l := by
  unfold check_t
  refine ⟨fun h => (dchk_out (by rw [h]; rfl)).symm, fun h5 => ⟨fun h => (dchk_out (by simp only [gt_iff_lt] at h; rw [h, Bool.or_true])).symm, fun h12 => ⟨fun h => bad23 h5 h12 (.inl (by simp only [decide_eq_true_eq] at h; omega)), fun h1 => ⟨fun h => bad23 h5 h12 (.inr (.inl (by simp at h; omega))), fun h2 => ?_⟩⟩⟩⟩
  simp only [decide_eq_false_iff_not, gt_iff_lt] at h1 h2
  have h5' := h5
  have h12' := h12
  simp only [decide_eq_false_iff_not, gt_iff_lt] at h5' h12'
  have hw : IntKind.wrap IntKind.i64 ((l.length : Int) - 1) = (l.length : Int) - 1 := wr (by omega) (by omega)
  have ht : ((l.length : Int) - 1).toNat = l.length - 1 := by omega
  simp only [hw, ht, shl1 (show 0 ≤ g by omega) (show g ≤ 62 by omega), toNat_cast]
  have p12 := pow12 (show g ≤ 12 by omega)
  have p0 := pow_pos' g.toNat
  have hne : l ≠ [] := by rintro rfl; simp at h1
  refine ⟨by omega, by omega, fun h => bad23 h5 h12 (.inr (.inr (.inl (by simpa using h)))), fun h3 => ⟨by omega, h0, fun hm => bad23 h5 h12 (.inr (.inr (.inr (.inl ((minL_lt l hne _).1 (by simpa using hm)))))), fun hm => ⟨h0, by omega, fun hb => bad23 h5 h12 (.inr (.inr (.inr (.inr ?_)))), fun hb => good0 h5 h12 ?_⟩⟩⟩
  · have : min (pts l) 1048576 ≠ 2 ^ g.toNat := by simpa using hb
    omega
  · have hb' : min (pts l) 1048576 = 2 ^ g.toNat := by simpa using hb
    rintro (c | c | c | c | c)
    · omega
    · omega
    · rw [c] at h3; simp at h3
    · have := (minL_lt l hne _).2 c
      simp only [decide_eq_false_iff_not] at hm
      omega
    · omega
theorem ownInts_v (l : List Int) (h : l.length ≤ 4294967296) : ownInts_t l := by
  refine ⟨by omega, rfl⟩
theorem high_sound : Sound Tryz.prog 43 sHigh.ctr := sHigh.sound (by kernel_rfl) sHigh_enc fun n hc => by
  have h0 := hc _ (.head _)
  exact satG G02_ok mixed Tryz.func43 (high_e n) (high_v n h0)
theorem rhigh_sound : Sound Tryz.prog 68 sHigh.ctr := sHigh.sound (by kernel_rfl) sHigh_enc fun n hc => by
  have h0 := hc _ (.head _)
  exact satG G02_ok mixed Tryz.func68 (rhigh_e n) (rhigh_v n h0)
theorem add_sound : Sound Tryz.prog 101 sAdd.ctr := sAdd.sound (by kernel_rfl) sAdd_enc fun ⟨n, s⟩ hc => by
  have h0 := hc _ (.head _)
  have h1 := hc _ (.tail _ (.head _))
  have h2 := hc _ (.tail _ (.tail _ (.head _)))
  have h3 := hc _ (.tail _ (.tail _ (.tail _ (.head _))))
  exact satG G02_ok mixed Tryz.func101 (add_e n s) (add_v n s h0 h1 h2 h3)
theorem minK_sound : Sound Tryz.prog 70 sMin.ctr := sMin.sound (by kernel_rfl) sMin_enc fun l hc => by
  have h0 := hc _ (.head _)
  have h1 := hc _ (.tail _ (.head _))
  exact satG G02_ok mixed Tryz.func70 (minK_e l) (min_v l h0 h1)
theorem equal_sound : Sound Tryz.prog 80 sEq.ctr := sEq.sound (by kernel_rfl) sEq_enc fun ⟨a, b⟩ hc => by
  have h0 := hc _ (.head _)
  exact satG G02_ok mixed Tryz.func80 (equal_e a b) (equal_v a b h0)
theorem sameInts_sound : Sound Tryz.prog 14 sEq.ctr := sEq.sound (by kernel_rfl) sEq_enc fun ⟨a, b⟩ hc => by
  have h0 := hc _ (.head _)
  exact satG G02_ok mixed Tryz.func14 (sameInts_e a b) (sameInts_v a b h0)
theorem ownInts_sound : Sound Tryz.prog 8 sOwn.ctr := sOwn.sound (by kernel_rfl) sOwn_enc fun l hc => by
  have h0 := hc _ (.head _)
  exact satG G02_ok mixed Tryz.func8 (ownInts_e l) (ownInts_v l h0)
theorem rpoints_sound : Sound Tryz.prog 73 sRpoints.ctr := sRpoints.sound (by kernel_rfl) sRpoints_enc fun l hc => by
  have h0 := hc _ (.head _)
  have h1 := hc _ (.tail _ (.head _))
  exact satG G02_ok mixed Tryz.func73 (rpoints_e l) (rpoints_v l h0 h1)
theorem G8a_ok : AllOk Tryz.prog G8a := .cons high_sound <| .cons rhigh_sound <| .cons add_sound <| .cons minK_sound <| .cons equal_sound <| .cons sameInts_sound <| .cons ownInts_sound <| .cons rpoints_sound <| G02_ok
theorem bits_sound : Sound Tryz.prog 84 sBits.ctr := sBits.sound (by kernel_rfl) sBits_enc fun n hc => by
  have h0 := hc _ (.head _)
  exact satG G8a_ok mixed Tryz.func84 (bits_e n) (bits_v n h0)
theorem rbits_sound : Sound Tryz.prog 94 sBits.ctr := sBits.sound (by kernel_rfl) sBits_enc fun n hc => by
  have h0 := hc _ (.head _)
  exact satG G8a_ok mixed Tryz.func94 (rbits_e n) (bits_v n h0)
theorem points_sound : Sound Tryz.prog 71 sPoints.ctr := sPoints.sound (by kernel_rfl) sPoints_enc fun ⟨g, l⟩ hc => by
  have h0 := hc _ (.head _)
  exact satG G8a_ok mixed Tryz.func71 (points_e g l) (points_v g l h0)
theorem rcheck_sound : Sound Tryz.prog 44 sCheck.ctr := sCheck.sound (by kernel_rfl) sCheck_enc fun ⟨g, l⟩ hc => by
  have h0 := hc _ (.head _)
  exact satG G8a_ok mixed Tryz.func44 (rcheck_e g l) (rcheck_v g l)
theorem G8b_ok : AllOk Tryz.prog G8b := .cons bits_sound <| .cons rbits_sound <| .cons points_sound <| .cons rcheck_sound <| G8a_ok
theorem check_sound : Sound Tryz.prog 40 sCheck.ctr := sCheck.sound (by kernel_rfl) sCheck_enc fun ⟨g, l⟩ hc => by
  have h0 := hc _ (.head _)
  exact satG G8b_ok mixed Tryz.func40 (check_e g l) (check_v g l h0)
theorem shape_sound : Sound Tryz.prog 92 sShape.ctr := sShape.sound (by kernel_rfl) sShape_enc fun n hc => by
  have h0 := hc _ (.head _)
  have h1 := hc _ (.tail _ (.head _))
  exact satG G8b_ok mixed Tryz.func92 (shape_e n) (shape_v n h0 h1)
theorem G8c_ok : AllOk Tryz.prog G8c := .cons check_sound <| .cons shape_sound <| G8b_ok
end Go.Proofs.YtcoogfifjibkhaaGreat
namespace Go.Proofs.YtcoogfifjibkhaaGreat
open Go Go.RowKit
set_option linter.unusedVariables false
set_option linter.unusedSimpArgs false
set_option maxRecDepth 100000
structure Valid (g : Int) (l : List Int) : Prop where
  g5 : 5 ≤ g
  g12 : g ≤ 12
  len1 : 1 ≤ l.length
  len2 : l.length ≤ 256
  last : l.getD (l.length - 1) 0 ≠ 0
  low : ∀ x ∈ l, -1 ≤ x
  sum : pts l = 2 ^ g.toNat
theorem Valid.of {g : Int} {l : List Int} (h : dchk g l = 0) : Valid g l := by
  cases h5 : decide (g < 5)
  · cases h12 : decide (12 < g)
    · cases hb : dbad g l
      · have := fun c => Bool.false_ne_true (hb ▸ (dbad_iff g l).2 c)
        simp only [decide_eq_false_iff_not] at h5 h12
        exact ⟨by omega, by omega, by have h1 : ¬ l.length < 1 := fun c => this (.inl c); omega, by have h1 : ¬ 256 < l.length := fun c => this (.inr (.inl c)); omega, fun c => this (.inr (.inr (.inl c))), fun x hx => by
          have h1 : ¬ x < -1 := fun c => this (.inr (.inr (.inr (.inl ⟨x, hx, c⟩))))
          omega, by
          have := fun c => this (.inr (.inr (.inr (.inr c))))
          exact Classical.byContradiction this⟩
      · rw [dchk_in h5 h12, hb] at h; cases h
    · rw [dchk_out (by rw [h12, Bool.or_true])] at h; cases h
  · rw [dchk_out (by rw [h5, Bool.true_or])] at h; cases h
theorem drop_cons {l : List Int} {i : Nat} (h : i < l.length) : l.drop i = l.getD i 0 :: l.drop (i + 1) := by
  rw [List.drop_eq_getElem_cons h, List.getD_eq_getElem?_getD, List.getElem?_eq_getElem h]
  rfl
theorem pts_cons (p : Int) (r : List Int) : pts (p :: r) = pt p + pts r := by
  have := pts_app [p] r
  have h5 : pts [p] = pt p := by simp [pts]
  rw [h5] at this
  exact this
theorem pts_drop_le (l : List Int) (i : Nat) : pts (l.drop i) ≤ pts l := by
  have h := pts_app (l.take i) (l.drop i)
  rw [List.take_append_drop] at h
  have := pts_nonneg (l.take i)
  omega
theorem pt_ge (p : Int) (h : -1 ≤ p) : p ≤ pt p ∧ (p ≠ 0 → pt p = max p 1) ∧ (p = 0 → pt p = 0) := by
  unfold pt
  by_cases h0 : p < 0
  · rw [decide_eq_true h0]; simp only [cond_true]; omega
  · rw [decide_eq_false h0]; simp only [cond_false]; omega
structure ShB (left : Int) : Prop where
  b1 : 1 ≤ shB left
  b2 : shB left ≤ 13
  lo : 2 ^ (shB left - 1).toNat ≤ left + 1
  hi : left + 1 < 2 ^ (shB left).toNat
  dbl : (2 : Int) ^ (shB left).toNat = 2 * 2 ^ (shB left - 1).toNat
theorem shB_ok {left : Int} (h0 : 0 ≤ left) (h1 : left ≤ 4096) : ShB left := by
  have hn : (left + 1).toNat ≠ 0 := by omega
  have hl := (Nat.log2_lt hn (k := 13)).2 (by omega)
  have hh : shB left = (Nat.log2 (left + 1).toNat : Nat) + 1 := by unfold shB hiI; rw [decide_eq_false (by omega)]; rfl
  have e1 : (shB left - 1).toNat = Nat.log2 (left + 1).toNat := by omega
  have e2 : (shB left).toNat = Nat.log2 (left + 1).toNat + 1 := by omega
  have p1 := (Nat.le_log2 hn (k := Nat.log2 (left + 1).toNat)).1 (Nat.le_refl _)
  have p2 := (Nat.log2_lt hn (k := Nat.log2 (left + 1).toNat + 1)).1 (by omega)
  refine ⟨by omega, by omega, ?_, ?_, ?_⟩
  · rw [e1, pow_cast]; omega
  · rw [e2, pow_cast]; omega
  · rw [e1, e2, Int.pow_succ]; omega
theorem shT_eq (left : Int) : shT left = 2 ^ (shB left).toNat - 1 - (left + 1) := rfl
theorem de_step {l : List Int} {i : Nat} (h : i < l.length) : de none (l.drop i) (pts (l.drop i)) = valP (pts (l.drop i)) (l.getD i 0) :: deP l i := by
  have e := drop_cons h
  unfold deP
  generalize hL : pts (l.drop i) = left
  rw [e]
  rfl
theorem putAll_cons (w : W3) (kv : Int × Int) (r : List (Int × Int)) : putAll w (kv :: r) = putAll (putT w kv.1 kv.2).1 r := rfl
theorem zerosP_ge {z : Nat} (h : 3 ≤ z) : zerosP z = (2, 3) :: zerosP (z - 3) := by
  unfold zerosP
  have e1 : z / 3 = (z - 3) / 3 + 1 := by omega
  have e2 : z % 3 = (z - 3) % 3 := by omega
  rw [e1, e2, List.replicate_succ, List.cons_append]
theorem zerosP_lt {z : Nat} (h : z < 3) : zerosP z = [(2, (z : Int))] := by
  unfold zerosP
  have e1 : z / 3 = 0 := by omega
  have e2 : z % 3 = z := by omega
  rw [e1, e2]
  rfl
theorem de_end {l : List Int} {j z : Nat} {left : Int} (h : l.length ≤ j ∨ l.getD j 0 ≠ 0) : de (some z) (l.drop j) left = zerosP z ++ de none (l.drop j) left := by
  by_cases hj : j < l.length
  · have hne : l.getD j 0 ≠ 0 := by
      rcases h with h | h
      · omega
      · exact h
    rw [drop_cons hj]
    have hb : (l.getD j 0 == 0) = false := by simpa using hne
    simp only [de, hb, cond_false]
  · rw [List.drop_eq_nil_of_le (by omega)]
    simp only [de, List.append_nil]
theorem de_zero {l : List Int} {j z : Nat} {left : Int} (hj : j < l.length) (h : l.getD j 0 = 0) : de (some z) (l.drop j) left = de (some (z + 1)) (l.drop (j + 1)) left := by
  rw [drop_cons hj]
  have hb : (l.getD j 0 == 0) = true := by simpa using h
  simp only [de, hb, cond_true]
theorem pts_zero {l : List Int} {j : Nat} (hj : j < l.length) (h : l.getD j 0 = 0) : pts (l.drop j) = pts (l.drop (j + 1)) := by
  rw [drop_cons hj, pts_cons, h]
  have : pt 0 = 0 := rfl
  omega
theorem deP_zero {l : List Int} {i : Nat} (hi : i < l.length) (h : l.getD i 0 = 0) : deP l i = de (some 0) (l.drop (i + 1)) (pts (l.drop (i + 1))) := by
  unfold deP
  rw [h]
  simp only [beq_self_eq_true, cond_true]
  rw [pts_zero hi h]
theorem deP_not {l : List Int} {i : Nat} (hi : i < l.length) (h : l.getD i 0 ≠ 0) : deP l i = de none (l.drop (i + 1)) (pts (l.drop (i + 1))) := by
  unfold deP
  have hb : (l.getD i 0 == 0) = false := by simpa using h
  rw [hb]
  simp only [cond_false]
  have := pts_cons (l.getD i 0) (l.drop (i + 1))
  rw [← drop_cons hi] at this
  congr 1
  omega
structure AtV (l : List Int) (i : Nat) : Prop where
  lt : i < l.length
  p1 : -1 ≤ l.getD i 0
  p2 : l.getD i 0 ≤ pts (l.drop i)
  l0 : 0 ≤ pts (l.drop i)
  l1 : pts (l.drop i) ≤ 4096
  sh : ShB (pts (l.drop i))
  t0 : 0 ≤ shT (pts (l.drop i))
  t1 : shT (pts (l.drop i)) ≤ 8192
  sum : pts (l.drop i) = pt (l.getD i 0) + pts (l.drop (i + 1))
theorem Valid.at_ {g : Int} {l : List Int} (h : Valid g l) {i : Nat} (hi : i < l.length) : AtV l i := by
  have h4096 : pts l ≤ 4096 := by rw [h.sum]; exact pow12 h.g12
  have hle := pts_drop_le l i
  have h0 := pts_nonneg (l.drop i)
  have hs := shB_ok h0 (by omega)
  have hp := h.low _ (getD_mem' hi)
  have hsum : pts (l.drop i) = pt (l.getD i 0) + pts (l.drop (i + 1)) := by
    have := pts_cons (l.getD i 0) (l.drop (i + 1))
    rwa [← drop_cons hi] at this
  have h2 := pts_nonneg (l.drop (i + 1))
  have h3 := (pt_ge _ hp).1
  have e := shT_eq (pts (l.drop i))
  have m := pow_mono (show (shB (pts (l.drop i))).toNat ≤ 13 by have := hs.b2; omega)
  have := hs.hi
  exact ⟨hi, hp, by omega, h0, by omega, hs, by omega, by omega, hsum⟩
theorem written_v (g : Int) (l : List Int) (h : dchk g l = 0) : written_t g l := by
  have V := Valid.of h
  have hw5 : IntKind.wrap IntKind.i64 (g - 5) = g - 5 := wr (by have := V.g5; omega) (by have := V.g12; omega)
  have hg0 : 0 ≤ g := by have := V.g5; omega
  have hg1 : g ≤ 62 := by have := V.g12; omega
  have hlen := V.len2
  unfold written_t
  simp only [hw5, shl1 hg0 hg1, toNat_cast, eq_self, true_and, and_true, gt_iff_lt, ge_iff_le, decide_eq_true_eq, decide_eq_false_iff_not]
  refine ⟨hg0, ⟨(0, (putT zW 4 (g - 5)).1), ⟨by omega, ?_⟩, ?_⟩, ?_⟩
  · show putAll _ (de none l (pts l)) = _
    rw [V.sum]
    rfl
  · refine ⟨V.sum.symm, rfl, rfl, rfl, rfl⟩
  rintro ⟨i, w⟩ ⟨hi, hW⟩
  simp only at hi hW
  refine ⟨fun hlt => ?_, fun hge => ?_⟩
  · have hlt' : i < l.length := by simp only at hlt; omega
    have A := V.at_ hlt'
    rw [de_step hlt', putAll_cons] at hW
    have hA1 := A.p1
    have hA2 := A.p2
    have hA3 := A.l0
    have hA4 := A.l1
    have hA5 := A.sh.b1
    have hA6 := A.sh.b2
    have hA7 := A.t0
    have hA8 := A.t1
    have w1 : IntKind.wrap IntKind.i64 (l.getD i 0 + 1) = l.getD i 0 + 1 := wr (by omega) (by omega)
    have w2 : IntKind.wrap IntKind.i64 (shB (pts (l.drop i)) - 1) = shB (pts (l.drop i)) - 1 := wr (by omega) (by omega)
    have w3 : IntKind.wrap IntKind.i64 (l.getD i 0 + 1 + shT (pts (l.drop i))) = l.getD i 0 + 1 + shT (pts (l.drop i)) := wr (by omega) (by omega)
    simp only [w1, w2, w3, shl1 (show 0 ≤ shB (pts (l.drop i)) - 1 by omega) (show shB (pts (l.drop i)) - 1 ≤ 62 by omega)]
    refine ⟨by omega, by omega, by omega, by omega, i, ⟨fun c1 => ?_, fun c1 => ⟨by omega, fun c2 => ?_, fun c2 => ?_⟩⟩, ?_⟩
    · have e : valP (pts (l.drop i)) (l.getD i 0) = (shB (pts (l.drop i)) - 1, l.getD i 0 + 1) := by unfold valP; rw [decide_eq_true c1]; rfl
      rw [e] at hW
      exact ⟨_, ⟨hlt', hW⟩, rfl, rfl, rfl, rfl, rfl, rfl⟩
    · have e : valP (pts (l.drop i)) (l.getD i 0) = (shB (pts (l.drop i)), l.getD i 0 + 1) := by unfold valP; rw [decide_eq_false c1, decide_eq_true c2]; rfl
      rw [e] at hW
      exact ⟨_, ⟨hlt', hW⟩, rfl, rfl, rfl, rfl, rfl, rfl⟩
    · have e : valP (pts (l.drop i)) (l.getD i 0) = (shB (pts (l.drop i)), l.getD i 0 + 1 + shT (pts (l.drop i))) := by unfold valP; rw [decide_eq_false c1, decide_eq_false c2]; rfl
      rw [e] at hW
      exact ⟨_, ⟨hlt', hW⟩, rfl, rfl, rfl, rfl, rfl, rfl⟩
    · rintro w2 ⟨_, hW2⟩
      refine ⟨fun hne => ?_, fun he => ?_⟩
      · have hne' : l.getD i 0 ≠ 0 := by simpa using hne
        rw [deP_not hlt' hne'] at hW2
        have hm := (pt_ge _ A.p1).2.1 hne'
        have hs := A.sum
        refine ⟨(i + 1, w2), ⟨by omega, hW2⟩, by show l.length - (i + 1) < l.length - i; omega, ?_⟩
        simp only
        ((repeat' (refine And.intro ?_ ?_)) <;> first | rfl | exact True.intro | omega | (rw [wr (by omega) (by omega)]; done) | (rw [wr (by omega) (by omega)]; first | rfl | omega | (simp; done)))
      · have he' : l.getD i 0 = 0 := by simpa using he
        rw [deP_zero hlt' he'] at hW2
        have hz := pts_zero hlt' he'
        refine ⟨i, ⟨i, ⟨(i, 0, w2), ⟨by (try dsimp only); omega, hlt', by (try dsimp only); omega, hW2⟩, rfl, hz, rfl, rfl, rfl, rfl⟩, ?_⟩, ?_⟩
        · rintro ⟨j, z, w3⟩ ⟨j1, j2, j4, hW3⟩
          simp only at j1 j2 j4 hW3
          have wj : IntKind.wrap IntKind.i64 ((j : Int) + 1) = ((j + 1 : Nat) : Int) := by rw [wr (by omega) (by omega)]; simp
          simp only [wj, toNat_cast]
          refine ⟨fun hlt2 => ⟨by omega, by omega, fun h0 => ?_, fun h0 => ?_⟩, fun hge2 => ?_⟩
          · have h0' : l.getD (j + 1) 0 = 0 := by simpa using h0
            have j3 : j + 1 < l.length := by omega
            rw [de_zero j3 h0', pts_zero j3 h0'] at hW3
            have hz3 := pts_zero j3 h0'
            refine ⟨(j + 1, z + 1, w3), ⟨by (try dsimp only); omega, j3, by (try dsimp only); omega, hW3⟩, by show l.length - (j + 1) < l.length - j; omega, by (try dsimp only); first | (rw [wr (by omega) (by omega)]; done) | (rw [wr (by omega) (by omega)]; omega) | (rw [wr (by omega) (by omega)]; simp; done) | (rw [wr (by omega) (by omega)]; simp; omega), hz3, by trivial, rfl, rfl, rfl⟩
          · have h0' : l.getD (j + 1) 0 ≠ 0 := by simpa using h0
            rw [de_end (.inr h0')] at hW3
            exact ⟨(j, z, w3), ⟨by omega, j2, j4, hW3⟩, rfl, rfl, rfl, rfl, rfl, rfl⟩
          · rw [de_end (.inl (by omega))] at hW3
            exact ⟨(j, z, w3), ⟨by omega, j2, j4, hW3⟩, rfl, rfl, rfl, rfl, rfl, rfl⟩
        · rintro ⟨j, z, w3⟩ ⟨j1, j2, j4, hW3⟩
          simp only at j1 j2 j4 hW3
          refine ⟨i, ⟨(j, z, w3), ⟨j1, j2, j4, hW3⟩, rfl, rfl, rfl, rfl, rfl, rfl⟩, ?_⟩
          rintro ⟨j, z, w3⟩ ⟨j1, j2, j4, hW3⟩
          simp only at j1 j2 j4 hW3
          refine ⟨fun h3 => ?_, fun h3 => ?_⟩
          · simp only at h3
            rw [zerosP_ge (by omega), List.cons_append, putAll_cons] at hW3
            exact ⟨(j, z - 3, _), ⟨j1, j2, by (try dsimp only); omega, hW3⟩, by show z - 3 < z; omega, by (try dsimp only); first | (rw [wr (by omega) (by omega)]; done) | (rw [wr (by omega) (by omega)]; omega) | (rw [wr (by omega) (by omega)]; simp; done) | (rw [wr (by omega) (by omega)]; simp; omega), rfl, rfl, rfl, rfl, rfl⟩
          · simp only at h3
            rw [zerosP_lt (by omega), List.singleton_append, putAll_cons] at hW3
            exact ⟨(j + 1, _), ⟨by omega, hW3⟩, by show l.length - (j + 1) < l.length - i; omega, rfl, by rw [wr (by omega) (by omega)]; simp, rfl, rfl, rfl⟩
  · have e : l.drop i = [] := List.drop_eq_nil_of_le (by simp only at hge; omega)
    rw [e] at hW
    have hW' : w = wrT g l := hW
    rw [hW']
    exact ⟨rfl, rfl, rfl⟩
end Go.Proofs.YtcoogfifjibkhaaGreat
namespace Go.Proofs.YtcoogfifjibkhaaGreat
open Go Go.RowKit
set_option linter.unusedVariables false
set_option linter.unusedSimpArgs false
set_option maxRecDepth 100000
theorem bsum_app (a b : List (Int × Int)) : bsum (a ++ b) = bsum a + bsum b := by
  induction a with
  | nil => simp [bsum]
  | cons x r ih => simp only [List.cons_append, bsum, ih]; omega
theorem bsum_zeros (z : Nat) : bsum (zerosP z) = 2 * ((z / 3 : Nat) + 1) := by
  unfold zerosP
  rw [bsum_app]
  have : ∀ n : Nat, bsum (List.replicate n ((2 : Int), (3 : Int))) = 2 * n := by
    intro n
    induction n with
    | zero => rfl
    | succ n ih => rw [List.replicate_succ, bsum, ih]; simp only; omega
  rw [this]
  simp only [bsum]
  omega
theorem valP_b {left p : Int} (h : ShB left) : 0 ≤ (valP left p).1 ∧ (valP left p).1 ≤ 13 := by
  have h1 := h.b1
  have h2 := h.b2
  unfold valP
  cases decide (p + 1 < shT left)
  · cases decide (p + 1 < 2 ^ (shB left - 1).toNat)
    · simp only [cond_false]; omega
    · simp only [cond_false, cond_true]; omega
  · simp only [cond_true]; omega
theorem bsum_de (l : List Int) : ∀ o : Option Nat, (∀ x ∈ l, -1 ≤ x) → pts l ≤ 4096 → 0 ≤ bsum (de o l (pts l)) ∧ bsum (de o l (pts l)) ≤ (match o with | none => 0 | some z => (z : Int) + 2) + 16 * l.length := by
  induction l with
  | nil =>
    intro o _ _
    cases o with
    | none => simp [de, bsum]
    | some z =>
      simp only [de, bsum_zeros, List.length_nil]
      omega
  | cons p r ih =>
    intro o hl hp
    have hs : ShB (pts (p :: r)) := shB_ok (pts_nonneg _) hp
    have hv := valP_b (p := p) hs
    have hc := pts_cons p r
    have hpn := pt_nonneg p
    have hr := pts_nonneg r
    have hl' : ∀ x ∈ r, -1 ≤ x := fun x hx => hl x (by simp [hx])
    cases hz : (p == 0)
    · have e : pts (p :: r) - pt p = pts r := by omega
      have h1 := ih none hl' (by omega)
      simp only at h1
      cases o with
      | none =>
        simp only [de, hz, cond_false, bsum, e, List.length_cons]
        omega
      | some z =>
        simp only [de, hz, cond_false, bsum_app, bsum, bsum_zeros, e, List.length_cons]
        omega
    · have hp0 : p = 0 := by simpa using hz
      have e : pts (p :: r) = pts r := by rw [hc, hp0]; simp [pt]
      cases o with
      | none =>
        have h1 := ih (some 0) hl' (by omega)
        simp only at h1
        simp only [de, hz, cond_true, bsum, List.length_cons]
        rw [e] at hv ⊢
        omega
      | some z =>
        have h1 := ih (some (z + 1)) hl' (by omega)
        simp only at h1
        simp only [de, hz, cond_true, List.length_cons]
        rw [e]
        omega
theorem Valid.drop {g : Int} {l : List Int} (V : Valid g l) (o : Option Nat) (j : Nat) : 0 ≤ bsum (de o (l.drop j) (pts (l.drop j))) := by
  refine (bsum_de (l.drop j) o (fun x hx => V.low x (List.mem_of_mem_drop hx)) ?_).1
  have h4096 : pts l ≤ 4096 := by rw [V.sum]; exact pow12 V.g12
  have := pts_drop_le l j
  omega
theorem pts_one (p : Int) : pts [p] = pt p := by simp [pts]
end Go.Proofs.YtcoogfifjibkhaaGreat
namespace Go.Proofs.YtcoogfifjibkhaaGreat
open Go Go.RowKit
set_option linter.unusedVariables false
set_option linter.unusedSimpArgs false
set_option maxRecDepth 100000
theorem write_v (g : Int) (l : List Int) (h : l.length ≤ 4294967296) : write_t g l := by
  unfold write_t
  refine ⟨h, fun e => ?_, fun e => ?_⟩
  · have hb : (dchk g l == 0) = false := by simpa [bne] using e
    unfold writeF; rw [hb]; exact ⟨rfl, rfl⟩
  · have hb : (dchk g l == 0) = true := by simpa [bne] using e
    unfold writeF; rw [hb]; exact ⟨by simpa using hb, rfl, rfl⟩
theorem put1_sound : Sound Tryz.prog 90 sPut1.ctr := sPut1.sound (by kernel_rfl) sPut1_enc fun ⟨k, v, s, p, m⟩ hc => by
  exact satG G8c_ok mixed Tryz.func90 (put1_e k v s p m) (⟨rfl, rfl, rfl⟩)
theorem G8d_ok : AllOk Tryz.prog G8d := .cons put1_sound <| G8c_ok
theorem written_sound : Sound Tryz.prog 59 sWritten.ctr := sWritten.sound (by kernel_rfl) sWritten_enc fun ⟨g, l⟩ hc => by
  have h0 := hc _ (.head _)
  exact satG G8d_ok mixed Tryz.func59 (written_e g l) (written_v g l h0)
theorem G8e_ok : AllOk Tryz.prog G8e := .cons written_sound <| G8d_ok
theorem write_sound : Sound Tryz.prog 28 sWrite.ctr := sWrite.sound (by kernel_rfl) sWrite_enc fun ⟨g, l⟩ hc => by
  have h0 := hc _ (.head _)
  exact satG G8e_ok mixed Tryz.func28 (write_e g l) (write_v g l h0)
theorem G8f_ok : AllOk Tryz.prog G8f := .cons write_sound <| G8e_ok
end Go.Proofs.YtcoogfifjibkhaaGreat
namespace Go.Proofs.YtcoogfifjibkhaaGreat
open Go Go.RowKit
set_option linter.unusedVariables false
set_option linter.unusedSimpArgs false
set_option maxRecDepth 100000
structure TkOk (r : R2) (n : Int) : Prop where
  rd : (takeT r n).1 = (r.1, r.2 + n)
  vl : (takeT r n).2.1 = ((peekN r.1 r.2.toNat n.toNat : Nat) : Int)
  n0 : 0 ≤ n
  n1 : n ≤ 32
  b0 : 0 ≤ r.2
  b1 : r.2 + n ≤ 8 * (r.1.size : Int)
  sz : r.1.size ≤ 1048576
  v0 : 0 ≤ (takeT r n).2.1
  v1 : (takeT r n).2.1 < 2 ^ n.toNat
theorem tk_ok {r : R2} {n : Int} (h : (takeT r n).2.2 = 0) : TkOk r n := by
  unfold takeT at h
  split at h
  · rename_i he
    have hT : takeT r n = ((r.1, r.2 + n), ((peekN r.1 r.2.toNat n.toNat : Nat) : Int), 0) := by unfold takeT; rw [if_pos he]
    have he' := he
    unfold takeE at he'
    have ha : askE r.1 r.2 n = 0 := by
      split at he'
      · omega
      · exact he'
    have hb : ¬ 8 * (r.1.size : Int) < r.2 + n := fun hc => by
      rw [if_pos ⟨ha, hc⟩] at he'
      omega
    have hr : rchk r.1 r.2 = 0 := by
      unfold askE at ha
      split at ha
      · assumption
      · exact ha
    have hn : ¬ (n < 0 ∨ 32 < n) := fun hc => by
      unfold askE at ha
      rw [if_pos hr, if_pos hc] at ha
      omega
    obtain ⟨q1, q2, q3⟩ := rchk_zero hr
    have hp := peekN_lt r.1 r.2.toNat n.toNat
    refine ⟨by rw [hT], by rw [hT], by omega, by omega, q2, by omega, q1, by rw [hT]; simp, ?_⟩
    rw [hT, pow_cast]
    simp only
    omega
  · rename_i he
    exact absurd h he
theorem val_1 {r : R2} {left : Int} (h : (takeT r (shB left - 1)).2.2 ≠ 0) : valR r left = (r, 0, (takeT r (shB left - 1)).2.2) := by
  have hb : ((takeT r (shB left - 1)).2.2 == 0) = false := by simpa using h
  unfold valR; rw [hb]; rfl
theorem val_2 {r : R2} {left : Int} (h : (takeT r (shB left - 1)).2.2 = 0) (h2 : (takeT r (shB left - 1)).2.1 < shT left) : valR r left = ((takeT r (shB left - 1)).1, (takeT r (shB left - 1)).2.1, 0) := by
  have hb : ((takeT r (shB left - 1)).2.2 == 0) = true := by simpa using h
  unfold valR; rw [hb, decide_eq_true h2]
  simp only [cond_true]
  rw [← h]
theorem val_3 {r : R2} {left : Int} (h : (takeT r (shB left - 1)).2.2 = 0) (h2 : ¬ (takeT r (shB left - 1)).2.1 < shT left) (h3 : (takeT (takeT r (shB left - 1)).1 1).2.2 ≠ 0) : valR r left = (r, 0, (takeT (takeT r (shB left - 1)).1 1).2.2) := by
  have hb : ((takeT r (shB left - 1)).2.2 == 0) = true := by simpa using h
  have hb3 : ((takeT (takeT r (shB left - 1)).1 1).2.2 == 0) = false := by simpa using h3
  unfold valR; rw [hb, decide_eq_false h2, hb3]; rfl
theorem val_4 {r : R2} {left : Int} (h : (takeT r (shB left - 1)).2.2 = 0) (h2 : ¬ (takeT r (shB left - 1)).2.1 < shT left) (h3 : (takeT (takeT r (shB left - 1)).1 1).2.2 = 0) : valR r left = ((takeT (takeT r (shB left - 1)).1 1).1, fixV left ((takeT r (shB left - 1)).2.1 + (takeT (takeT r (shB left - 1)).1 1).2.1 * 2 ^ (shB left - 1).toNat), 0) := by
  have hb : ((takeT r (shB left - 1)).2.2 == 0) = true := by simpa using h
  have hb3 : ((takeT (takeT r (shB left - 1)).1 1).2.2 == 0) = true := by simpa using h3
  unfold valR; rw [hb, decide_eq_false h2, hb3]; rfl
structure VlOk (r : R2) (left : Int) (r' : R2) (v : Int) : Prop where
  v0 : 0 ≤ v
  v1 : v ≤ left + 1
  st : r'.1 = r.1
  b0 : 0 ≤ r'.2
  b1 : r'.2 ≤ 8 * (r.1.size : Int)
  bs : r'.2 ≤ r.2 + 13
  bl : r.2 ≤ r'.2
  sz : r.1.size ≤ 1048576
theorem vl_ok {r r' : R2} {left v : Int} (h0 : 0 ≤ left) (h1 : left ≤ 4096) (h : valR r left = (r', v, 0)) : VlOk r left r' v := by
  have S := shB_ok h0 h1
  have s1 := S.b1
  have s2 := S.b2
  have lo := S.lo
  have hi := S.hi
  have db := S.dbl
  have et := shT_eq left
  by_cases e1 : (takeT r (shB left - 1)).2.2 = 0
  · have T1 := tk_ok e1
    have v10 := T1.v0
    have v11 := T1.v1
    have b0 := T1.b0
    have b1 := T1.b1
    by_cases c : (takeT r (shB left - 1)).2.1 < shT left
    · rw [val_2 e1 c] at h
      simp only [Prod.mk.injEq, and_true] at h
      obtain ⟨rfl, rfl⟩ := h
      rw [T1.rd]
      exact ⟨v10, by omega, rfl, by dsimp only; omega, by dsimp only; omega, by dsimp only; omega, by dsimp only; omega, T1.sz⟩
    · by_cases e2 : (takeT (takeT r (shB left - 1)).1 1).2.2 = 0
      · rw [val_4 e1 c e2] at h
        have T2 := tk_ok e2
        have v20 := T2.v0
        have v21 := T2.v1
        have c0 := T2.b0
        have c1 := T2.b1
        have r2 := T2.rd
        rw [T1.rd] at r2 c0 c1 v20 v21 h
        dsimp only at c0 c1
        rw [r2] at h
        simp only [Prod.mk.injEq, and_true] at h
        obtain ⟨h2, h3⟩ := h
        have hx : (takeT (r.1, r.2 + (shB left - 1)) 1).2.1 = 0 ∨ (takeT (r.1, r.2 + (shB left - 1)) 1).2.1 = 1 := by
          have : (2 : Int) ^ (1 : Int).toNat = 2 := rfl
          omega
        rw [← h2]
        have hv : 0 ≤ v ∧ v ≤ left + 1 := by
          rw [← h3]
          unfold fixV
          rcases hx with hx | hx
          · rw [hx, Int.zero_mul, Int.add_zero]
            rw [decide_eq_false (by omega)]
            simp only [cond_false]
            omega
          · rw [hx, Int.one_mul]
            rw [decide_eq_true (by omega)]
            simp only [cond_true]
            omega
        exact ⟨hv.1, hv.2, rfl, by dsimp only; omega, by dsimp only; omega, by dsimp only; omega, by dsimp only; omega, T1.sz⟩
      · rw [val_3 e1 c e2] at h
        simp only [Prod.mk.injEq] at h
        exact absurd h.2.2 e2
  · rw [val_1 e1] at h
    simp only [Prod.mk.injEq] at h
    exact absurd h.2.2 e1
theorem rd_end {y : Int} {f : Nat} {r : R2} {left : Int} {out : List Int} (h : ¬ 0 < left) : rdR y (f + 1) r left out = (r, out, 0) := by
  unfold rdR; rw [decide_eq_false h]; rfl
theorem rd_err {y : Int} {f : Nat} {r : R2} {left : Int} {out : List Int} (h : 0 < left) (e : (valR r left).2.2 ≠ 0) : rdR y (f + 1) r left out = (r, out, (valR r left).2.2) := by
  have hb : ((valR r left).2.2 == 0) = false := by simpa using e
  unfold rdR; rw [decide_eq_true h, hb]; rfl
theorem rd_full {y : Int} {f : Nat} {r r' : R2} {left v : Int} {out : List Int} (h : 0 < left) (e : valR r left = (r', v, 0)) (hl : ((out.length : Int) == y) = true) : rdR y (f + 1) r left out = (r, out, 23) := by
  unfold rdR; rw [decide_eq_true h, e, hl]; rfl
theorem rd_step {y : Int} {f : Nat} {r r' : R2} {left v : Int} {out : List Int} (h : 0 < left) (e : valR r left = (r', v, 0)) (hl : ((out.length : Int) == y) = false) (hv : v ≠ 1) : rdR y (f + 1) r left out = rdR y f r' (left - max (v - 1) 1) (out ++ [v - 1]) := by
  have hb : (v == 1) = false := by simpa using hv
  conv => lhs; unfold rdR
  rw [decide_eq_true h, e, hl]
  simp only [cond_true, cond_false, hb, beq_self_eq_true]
theorem rd_zero {y : Int} {f : Nat} {r r' : R2} {left : Int} {out : List Int} (h : 0 < left) (e : valR r left = (r', 1, 0)) (hl : ((out.length : Int) == y) = false) : rdR y (f + 1) r left out = contZ y f left (flR y (y.toNat + 1) r' (out ++ [1 - 1])) := by
  conv => lhs; unfold rdR
  rw [decide_eq_true h, e, hl]
  simp only [cond_true, cond_false, beq_self_eq_true]
  rfl
theorem fl_err {y : Int} {f : Nat} {r : R2} {out : List Int} (e : (takeT r 2).2.2 ≠ 0) : flR y (f + 1) r out = (r, out, (takeT r 2).2.2) := by
  have hb : ((takeT r 2).2.2 == 0) = false := by simpa using e
  unfold flR; rw [hb]; rfl
theorem fl_full {y : Int} {f : Nat} {r : R2} {out : List Int} (e : (takeT r 2).2.2 = 0) (h : y < out.length + (takeT r 2).2.1) : flR y (f + 1) r out = (r, out, 23) := by
  have hb : ((takeT r 2).2.2 == 0) = true := by simpa using e
  unfold flR; rw [hb, decide_eq_true h]; rfl
theorem fl_step {y : Int} {f : Nat} {r : R2} {out : List Int} (e : (takeT r 2).2.2 = 0) (h : ¬ y < out.length + (takeT r 2).2.1) : flR y (f + 1) r out = cond ((takeT r 2).2.1 == 3) (flR y f (takeT r 2).1 (out ++ List.replicate (takeT r 2).2.1.toNat 0)) ((takeT r 2).1, out ++ List.replicate (takeT r 2).2.1.toNat 0, 0) := by
  have hb : ((takeT r 2).2.2 == 0) = true := by simpa using e
  conv => lhs; unfold flR
  rw [hb, decide_eq_false h]
  rfl
theorem contZ_ok {y : Int} {f : Nat} {left : Int} {z : R2 × List Int × Int} (h : z.2.2 = 0) : contZ y f left z = rdR y f z.1 left z.2.1 := by
  have hb : (z.2.2 == 0) = true := by simpa using h
  unfold contZ; rw [hb]; rfl
theorem contZ_err {y : Int} {f : Nat} {left : Int} {z : R2 × List Int × Int} (h : z.2.2 ≠ 0) : contZ y f left z = z := by
  have hb : (z.2.2 == 0) = false := by simpa using h
  unfold contZ; rw [hb]; rfl
theorem dtake_v (n : Int) (s : ByteArray) (b : Int) (h : s.size ≤ 9223372036854775807) : dtake_t n s b := by
  unfold dtake_t
  refine ⟨h, fun e => ?_, fun e => ?_⟩
  · have e' : (takeT (s, b) n).2.2 ≠ 0 := by simpa using e
    exact ⟨fun h => absurd h e', fun _ => ⟨rfl, rfl, rfl, rfl⟩⟩
  · have e' : (takeT (s, b) n).2.2 = 0 := by simpa using e
    exact ⟨fun h => ⟨rfl, rfl, rfl, rfl⟩, fun h => absurd e' h⟩
theorem rtake_v (n : Int) (s : ByteArray) (b : Int) (h : s.size ≤ 9223372036854775807) : rtake8_t n s b := by
  unfold rtake8_t
  refine ⟨h, fun e => ?_, fun e => ?_⟩
  · have e' : (takeT (s, b) n).2.2 ≠ 0 := by simpa using e
    exact ⟨fun h => absurd h e', fun _ => ⟨rfl, rfl, rfl, rfl⟩⟩
  · have e' : (takeT (s, b) n).2.2 = 0 := by simpa using e
    exact ⟨fun h => ⟨rfl, rfl, rfl, rfl⟩, fun h => absurd e' h⟩
end Go.Proofs.YtcoogfifjibkhaaGreat
namespace Go.Proofs.YtcoogfifjibkhaaGreat
open Go Go.RowKit
set_option linter.unusedVariables false
set_option linter.unusedSimpArgs false
set_option maxRecDepth 100000
theorem rdA_err {r : R2} {m y : Int} (h : (takeT r 4).2.2 ≠ 0) : rdA r m y = (r, [], (takeT r 4).2.2) := by
  have hb : ((takeT r 4).2.2 == 0) = false := by simpa using h
  unfold rdA; rw [hb]; rfl
theorem rdA_acc {r : R2} {m y : Int} (h : (takeT r 4).2.2 = 0) (h2 : m < logR r) : rdA r m y = (r, [], 31) := by
  have hb : ((takeT r 4).2.2 == 0) = true := by simpa using h
  unfold rdA; rw [hb, decide_eq_true h2]; rfl
theorem rdA_go {r : R2} {m y : Int} (h : (takeT r 4).2.2 = 0) (h2 : ¬ m < logR r) : rdA r m y = rdR y (y.toNat + 1) (takeT r 4).1 (2 ^ (logR r).toNat) [] := by
  have hb : ((takeT r 4).2.2 == 0) = true := by simpa using h
  unfold rdA; rw [hb, decide_eq_false h2]; rfl
theorem logR_in {r : R2} (h : (takeT r 4).2.2 = 0) : 5 ≤ logR r ∧ logR r ≤ 20 := by
  have T := tk_ok h
  have h0 := T.v0
  have h1 := T.v1
  have e : (2 : Int) ^ (4 : Int).toNat = 16 := rfl
  unfold logR
  omega
theorem dread_v (m y : Int) (s : ByteArray) (b : Int) (hm : m ≤ 12) (hy1 : 1 ≤ y) (hy2 : y ≤ 256) (hs : s.size ≤ 9223372036854775807) : dread_t m y s b := by
  unfold dread_t
  refine ⟨fun h0 => ⟨hs, ?_⟩, fun h0 => ⟨hs, by rw [rdA_err h0]; exact ⟨fun h => absurd h h0, fun _ => by ((repeat' (refine And.intro ?_ ?_)) <;> first | rfl | exact True.intro | omega | (rw [wr (by omega) (by omega)]; done) | (rw [wr (by omega) (by omega)]; first | rfl | omega | (simp; done)))⟩⟩⟩
  have hl := logR_in h0
  have hlw : IntKind.wrap IntKind.i64 ((takeT (s, b) 4).2.1 + 5) = logR (s, b) := wr (n := logR (s, b)) (by omega) (by omega)
  have T := tk_ok h0
  simp only [hlw, gt_iff_lt, decide_eq_true_eq, decide_eq_false_iff_not]
  refine ⟨fun hc => by rw [rdA_acc h0 hc]; exact ⟨fun h => absurd h (by show ¬ (31 : Int) = 0; decide), fun _ => by ((repeat' (refine And.intro ?_ ?_)) <;> first | rfl | exact True.intro | omega | (rw [wr (by omega) (by omega)]; done) | (rw [wr (by omega) (by omega)]; first | rfl | omega | (simp; done)))⟩, fun hc => ?_⟩
  have hA := rdA_go (y := y) h0 hc
  have hle : logR (s, b) ≤ 12 := by omega
  simp only [shl1 (show 0 ≤ logR (s, b) by omega) (show logR (s, b) ≤ 62 by omega)]
  have p12 := pow12 hle
  have p0 := pow_pos' (logR (s, b)).toNat
  generalize hfin : rdA (s, b) m y = fin at hA
  refine ⟨by omega, ⟨(y.toNat + 1, (takeT (s, b) 4).1, 2 ^ (logR (s, b)).toNat, []), ⟨hA.symm, by simp; omega, by simp; omega, by dsimp only; omega, p12, by dsimp only; rw [T.rd]; exact hs⟩, by ((repeat' (refine And.intro ?_ ?_)) <;> first | rfl | exact True.intro | omega | (rw [wr (by omega) (by omega)]; done) | (rw [wr (by omega) (by omega)]; first | rfl | omega | (simp; done)))⟩, ?_⟩
  rintro ⟨f, ⟨s1, b1⟩, left, out⟩ ⟨hR, hf, ho, hl0, hl1, hs1⟩
  dsimp only at hR hf ho hl0 hl1 hs1 ⊢
  refine ⟨fun hlt => ?_, fun hge => ?_⟩
  · obtain ⟨f, rfl⟩ : ∃ f', f = f' + 1 := ⟨f - 1, by omega⟩
    have S := shB_ok hl0 hl1
    have q1 := S.b1
    have q2 := S.b2
    have wB : IntKind.wrap IntKind.i64 (shB left - 1) = shB left - 1 := wr (by omega) (by omega)
    simp only [wB, shl1 (show 0 ≤ shB left - 1 by omega) (show shB left - 1 ≤ 62 by omega), mk_eta]
    refine ⟨by omega, by omega, fun e1 => ⟨hs1, (f + 1, (s1, b1), left, out), ⟨fun c1 => ⟨fun e2 => ?_, fun e2 => ?_⟩, fun c1 => ?_⟩, ?_⟩, fun e1 => ⟨hs1, ?_⟩⟩
    · have T1 := tk_ok e1
      have T2 : TkOk (takeT (s1, b1) (shB left - 1)).1 1 := tk_ok e2
      have a0 := T1.v0
      have a1 := T1.v1
      have c0 := T2.v0
      have c2 := T2.v1
      have db := S.dbl
      have lo := S.lo
      have hi := S.hi
      have et := shT_eq left
      have m12 := pow_mono (show (shB left - 1).toNat ≤ 12 by omega)
      have pp := pow_pos' (shB left - 1).toNat
      have hx : (takeT (takeT (s1, b1) (shB left - 1)).1 1).2.1 = 0 ∨ (takeT (takeT (s1, b1) (shB left - 1)).1 1).2.1 = 1 := by
        have : (2 : Int) ^ (1 : Int).toNat = 2 := rfl
        omega
      have hprod : 0 ≤ (takeT (takeT (s1, b1) (shB left - 1)).1 1).2.1 * 2 ^ (shB left - 1).toNat ∧ (takeT (takeT (s1, b1) (shB left - 1)).1 1).2.1 * 2 ^ (shB left - 1).toNat ≤ 4096 := by
        rcases hx with hx | hx <;> rw [hx] <;> omega
      have hmin : min (shB left - 1).toNat (IntKind.bits IntKind.i64) = (shB left - 1).toNat := by rw [b64]; omega
      have hc1 : ¬ (takeT (s1, b1) (shB left - 1)).2.1 < shT left := by omega
      have hv := val_4 e1 hc1 e2
      have w1 : IntKind.wrap IntKind.i64 ((takeT (takeT (s1, b1) (shB left - 1)).1 1).2.1 * 2 ^ (shB left - 1).toNat) = (takeT (takeT (s1, b1) (shB left - 1)).1 1).2.1 * 2 ^ (shB left - 1).toNat := wr (by omega) (by omega)
      have w2 : IntKind.wrap IntKind.i64 ((takeT (s1, b1) (shB left - 1)).2.1 + (takeT (takeT (s1, b1) (shB left - 1)).1 1).2.1 * 2 ^ (shB left - 1).toNat) = (takeT (s1, b1) (shB left - 1)).2.1 + (takeT (takeT (s1, b1) (shB left - 1)).1 1).2.1 * 2 ^ (shB left - 1).toNat := wr (by omega) (by omega)
      have w3 : IntKind.wrap IntKind.i64 ((takeT (s1, b1) (shB left - 1)).2.1 + (takeT (takeT (s1, b1) (shB left - 1)).1 1).2.1 * 2 ^ (shB left - 1).toNat - shT left) = (takeT (s1, b1) (shB left - 1)).2.1 + (takeT (takeT (s1, b1) (shB left - 1)).1 1).2.1 * 2 ^ (shB left - 1).toNat - shT left := wr (by omega) (by omega)
      have sz2 : (takeT (takeT (s1, b1) (shB left - 1)).1 1).1.1.size ≤ 9223372036854775807 := by rw [T2.rd, T1.rd]; exact hs1
      simp only [mk_eta, hmin, w1, w2, w3]
      refine ⟨by rw [T1.rd]; exact hs1, by omega, by omega, fun c2 => ?_, fun c2 => ?_⟩
      · have ef : fixV left ((takeT (s1, b1) (shB left - 1)).2.1 + (takeT (takeT (s1, b1) (shB left - 1)).1 1).2.1 * 2 ^ (shB left - 1).toNat) = (takeT (s1, b1) (shB left - 1)).2.1 + (takeT (takeT (s1, b1) (shB left - 1)).1 1).2.1 * 2 ^ (shB left - 1).toNat - shT left := by unfold fixV; rw [decide_eq_true (by omega)]; rfl
        rw [ef] at hv
        exact ⟨(_, _), ⟨hv, hR, hlt, hl1, sz2⟩, by ((repeat' (refine And.intro ?_ ?_)) <;> first | rfl | exact True.intro | omega | (rw [wr (by omega) (by omega)]; done) | (rw [wr (by omega) (by omega)]; first | rfl | omega | (simp; done)))⟩
      · have ef : fixV left ((takeT (s1, b1) (shB left - 1)).2.1 + (takeT (takeT (s1, b1) (shB left - 1)).1 1).2.1 * 2 ^ (shB left - 1).toNat) = (takeT (s1, b1) (shB left - 1)).2.1 + (takeT (takeT (s1, b1) (shB left - 1)).1 1).2.1 * 2 ^ (shB left - 1).toNat := by unfold fixV; rw [decide_eq_false (by omega)]; rfl
        rw [ef] at hv
        exact ⟨(_, _), ⟨hv, hR, hlt, hl1, sz2⟩, by ((repeat' (refine And.intro ?_ ?_)) <;> first | rfl | exact True.intro | omega | (rw [wr (by omega) (by omega)]; done) | (rw [wr (by omega) (by omega)]; first | rfl | omega | (simp; done)))⟩
    · have T1 := tk_ok e1
      have e2' : (takeT (takeT (s1, b1) (shB left - 1)).1 1).2.2 ≠ 0 := e2
      have hv := val_3 e1 (by omega) e2'
      refine ⟨by rw [T1.rd]; exact hs1, ?_⟩
      rw [← hR, rd_err hlt (by rw [hv]; exact e2'), hv]
      exact ⟨fun h => absurd h e2', fun _ => by ((repeat' (refine And.intro ?_ ?_)) <;> first | rfl | exact True.intro | omega | (rw [wr (by omega) (by omega)]; done) | (rw [wr (by omega) (by omega)]; first | rfl | omega | (simp; done)))⟩
    · have hc1 : (takeT (s1, b1) (shB left - 1)).2.1 < shT left := by omega
      have hv := val_2 e1 hc1
      have T1 := tk_ok e1
      exact ⟨((takeT (s1, b1) (shB left - 1)).1, (takeT (s1, b1) (shB left - 1)).2.1), ⟨hv, hR, hlt, hl1, by dsimp only; rw [T1.rd]; exact hs1⟩, by ((repeat' (refine And.intro ?_ ?_)) <;> first | rfl | exact True.intro | omega | (rw [wr (by omega) (by omega)]; done) | (rw [wr (by omega) (by omega)]; first | rfl | omega | (simp; done)))⟩
    · rintro ⟨r', v⟩ ⟨hv, _, _, _, hsz⟩
      dsimp only at hv hsz ⊢
      have VV := vl_ok hl0 hl1 hv
      have v0 := VV.v0
      have v1 := VV.v1
      have wv : IntKind.wrap IntKind.i64 (v - 1) = v - 1 := wr (by omega) (by omega)
      have wm : IntKind.wrap IntKind.i64 (left - max (v - 1) 1) = left - max (v - 1) 1 := wr (by omega) (by omega)
      simp only [wv, wm]
      refine ⟨fun hl => ?_, fun hl => ⟨by omega, fun hv1 => ?_, fun hv1 => ?_⟩⟩
      · rw [← hR, rd_full hlt hv hl]
        exact ⟨fun h => absurd h (by show ¬ (23 : Int) = 0; decide), fun _ => by ((repeat' (refine And.intro ?_ ?_)) <;> first | rfl | exact True.intro | omega | (rw [wr (by omega) (by omega)]; done) | (rw [wr (by omega) (by omega)]; first | rfl | omega | (simp; done)))⟩
      · have hv1' : v ≠ 1 := by simpa using hv1
        have hl' : (out.length : Int) ≠ y := by simpa using hl
        rw [rd_step hlt hv hl hv1'] at hR
        refine ⟨(f, r', left - max (v - 1) 1, out ++ [v - 1]), ⟨hR, ?_, ?_, by (try dsimp only); omega, by (try dsimp only); omega, hsz⟩, by show f < f + 1; omega, by ((repeat' (refine And.intro ?_ ?_)) <;> first | rfl | exact True.intro | omega | (rw [wr (by omega) (by omega)]; done) | (rw [wr (by omega) (by omega)]; first | rfl | omega | (simp; done)))⟩
        · simp only [List.length_append, List.length_singleton]; omega
        · simp only [List.length_append, List.length_singleton]; omega
      · have hv1' : v = 1 := by simpa using hv1
        have hl' : (out.length : Int) ≠ y := by simpa using hl
        subst hv1'
        rw [rd_zero hlt hv hl] at hR
        refine ⟨(f, left), ⟨(3, y.toNat + 1, r', out ++ [1 - 1]), ⟨hR, ?_, ?_, ?_, hsz⟩, by ((repeat' (refine And.intro ?_ ?_)) <;> first | rfl | exact True.intro | omega | (rw [wr (by omega) (by omega)]; done) | (rw [wr (by omega) (by omega)]; first | rfl | omega | (simp; done)))⟩, ?_⟩
        · intro _
          simp only [List.length_append, List.length_singleton]; omega
        · simp only [List.length_append, List.length_singleton]; omega
        · simp only [List.length_append, List.length_singleton]; omega
        rintro ⟨more, f2, r2, out2⟩ ⟨hZ, k1, k2, k3, k4⟩
        dsimp only at hZ k1 k2 k3 k4 ⊢
        refine ⟨fun h3 => ?_, fun h3 => ?_⟩
        · have h3' : more = 3 := by simpa using h3
          subst h3'
          obtain ⟨f2, rfl⟩ : ∃ f', f2 = f' + 1 := ⟨f2 - 1, by have := k1 rfl; omega⟩
          have hZ' : contZ y f left (flR y (f2 + 1) r2 out2) = fin := hZ
          try simp only [mk_eta]
          have k1 := k1 rfl
          refine ⟨fun e => ⟨k4, ?_⟩, fun e => ⟨k4, ?_⟩⟩
          · have T3 := tk_ok e
            have u0 := T3.v0
            have u1 := T3.v1
            have e4 : (2 : Int) ^ (2 : Int).toNat = 4 := rfl
            have wl : IntKind.wrap IntKind.i64 ((out2.length : Int) + (takeT r2 2).2.1) = (out2.length : Int) + (takeT r2 2).2.1 := wr (by omega) (by omega)
            simp only [wl, List.length_replicate]
            refine ⟨fun hc => ?_, fun hc => ⟨by omega, by omega, by omega, ?_⟩⟩
            · rw [fl_full e hc, contZ_err (by show ¬ (23 : Int) = 0; decide)] at hZ'
              rw [← hZ']
              exact ⟨fun h => absurd h (by show ¬ (23 : Int) = 0; decide), fun _ => by ((repeat' (refine And.intro ?_ ?_)) <;> first | rfl | exact True.intro | omega | (rw [wr (by omega) (by omega)]; done) | (rw [wr (by omega) (by omega)]; first | rfl | omega | (simp; done)))⟩
            · rw [fl_step e hc] at hZ'
              refine ⟨((takeT r2 2).2.1, f2, (takeT r2 2).1, out2 ++ List.replicate (takeT r2 2).2.1.toNat 0), ⟨hZ', ?_, ?_, ?_, by dsimp only; rw [T3.rd]; exact k4⟩, ?_, by ((repeat' (refine And.intro ?_ ?_)) <;> first | rfl | exact True.intro | omega | (rw [wr (by omega) (by omega)]; done) | (rw [wr (by omega) (by omega)]; first | rfl | omega | (simp; done)))⟩
              · dsimp only
                intro h3
                rw [h3]
                simp only [List.length_append, List.length_replicate]
                omega
              · simp only [List.length_append, List.length_replicate]; omega
              · simp only [List.length_append, List.length_replicate]; omega
              · show (cond ((takeT r2 2).2.1 == 3) (f2 + 1) 0) < f2 + 1 + 1
                cases (takeT r2 2).2.1 == 3
                · simp only [cond_false]; omega
                · simp only [cond_true]; omega
          · rw [fl_err e, contZ_err e] at hZ'
            rw [← hZ']
            exact ⟨fun h => absurd h e, fun _ => by ((repeat' (refine And.intro ?_ ?_)) <;> first | rfl | exact True.intro | omega | (rw [wr (by omega) (by omega)]; done) | (rw [wr (by omega) (by omega)]; first | rfl | omega | (simp; done)))⟩
        · have h3' : (more == 3) = false := h3
          rw [h3'] at hZ
          have hZ' : rdR y f r2 left out2 = fin := hZ
          exact ⟨(f, r2, left, out2), ⟨hZ', k2, k3, hl0, hl1, k4⟩, by show f < f + 1; omega, by ((repeat' (refine And.intro ?_ ?_)) <;> first | rfl | exact True.intro | omega | (rw [wr (by omega) (by omega)]; done) | (rw [wr (by omega) (by omega)]; first | rfl | omega | (simp; done)))⟩
    · have hv := val_1 e1
      rw [← hR, rd_err hlt (by rw [hv]; exact e1), hv]
      exact ⟨fun h => absurd h e1, fun _ => by ((repeat' (refine And.intro ?_ ?_)) <;> first | rfl | exact True.intro | omega | (rw [wr (by omega) (by omega)]; done) | (rw [wr (by omega) (by omega)]; first | rfl | omega | (simp; done)))⟩
  · obtain ⟨f, rfl⟩ : ∃ f', f = f' + 1 := ⟨f - 1, by omega⟩
    rw [rd_end hge] at hR
    rw [← hR]
    exact ⟨fun _ => by ((repeat' (refine And.intro ?_ ?_)) <;> first | rfl | exact True.intro | omega | (rw [wr (by omega) (by omega)]; done) | (rw [wr (by omega) (by omega)]; first | rfl | omega | (simp; done))), fun h => absurd rfl h⟩
end Go.Proofs.YtcoogfifjibkhaaGreat
namespace Go.Proofs.YtcoogfifjibkhaaGreat
open Go Go.RowKit
set_option linter.unusedVariables false
set_option maxRecDepth 100000
def runs_t (l : List Int) : Prop :=
 (∃ (x0 : Nat × List Int),
 (x0.fst ≤ List.length l ∧ okRuns (List.drop x0.fst l) = true ∧ List.length x0.snd ≤ (64 : Nat) * x0.fst ∧ x0.snd ++ expandL (List.drop x0.fst l) = expandL l) ∧
 l = l ∧ (0 : Int) = (↑x0.fst : Int) ∧ List.length x0.snd = (0 : Nat)) ∧
 ∀ (x1 : Nat × List Int),
 x1.fst ≤ List.length l ∧ okRuns (List.drop x1.fst l) = true ∧ List.length x1.snd ≤ (64 : Nat) * x1.fst ∧ x1.snd ++ expandL (List.drop x1.fst l) = expandL l →
 (decide (IntKind.wrap IntKind.i64 ((↑x1.fst : Int) + (1 : Int)) < (↑(List.length l) : Int)) = true →
 (0 : Int) ≤ IntKind.wrap IntKind.i64 ((↑x1.fst : Int) + (1 : Int)) ∧
 IntKind.wrap IntKind.i64 ((↑x1.fst : Int) + (1 : Int)) < (↑(List.length l) : Int) ∧
 (0 : Int) ≤ (↑x1.fst : Int) ∧
 (↑x1.fst : Int) < (↑(List.length l) : Int) ∧
 (1 : Int) ≤ List.getD l (Int.toNat (↑x1.fst : Int)) (0 : Int) ∧
 List.getD l (Int.toNat (↑x1.fst : Int)) (0 : Int) ≤ (65536 : Int) ∧
 (List.length x1.snd +
 List.length
 (List.replicate (Int.toNat (List.getD l (Int.toNat (↑x1.fst : Int)) (0 : Int)))
 (List.getD l (Int.toNat (IntKind.wrap IntKind.i64 ((↑x1.fst : Int) + (1 : Int)))) (0 : Int)))) *
 (8 : Nat) ≤
 (140737488355328 : Nat) ∧
 ∃ (y2 : Nat × List Int),
 (y2.fst ≤ List.length l ∧ okRuns (List.drop y2.fst l) = true ∧ List.length y2.snd ≤ (64 : Nat) * y2.fst ∧ y2.snd ++ expandL (List.drop y2.fst l) = expandL l) ∧
 Nat.sub (List.length l) y2.fst < Nat.sub (List.length l) x1.fst ∧
 l = l ∧
 IntKind.wrap IntKind.i64 ((↑x1.fst : Int) + (2 : Int)) = (↑y2.fst : Int) ∧
 x1.snd ++
 List.replicate (Int.toNat (List.getD l (Int.toNat (↑x1.fst : Int)) (0 : Int)))
 (List.getD l (Int.toNat (IntKind.wrap IntKind.i64 ((↑x1.fst : Int) + (1 : Int)))) (0 : Int)) =
 y2.snd) ∧
 (decide (IntKind.wrap IntKind.i64 ((↑x1.fst : Int) + (1 : Int)) < (↑(List.length l) : Int)) = false → x1.snd = expandL l)
theorem runs_e (l : List Int) : runs_t l = vcG Tryz.prog (Gof G8g) (one (oRuns l)) Tryz.f55 [.dat (.ints .i64 l)] [] (.leaf ((.o 2000)) ([(2000, .row 3 (.ints .i64 (expandL l)))])) := by kernel_rfl
def predef_t (k : Int) : Prop :=
 List.length
 [(1 : Int), (4 : Int), (1 : Int), (3 : Int), (11 : Int), (2 : Int), (3 : Int), (1 : Int), (9 : Int), (2 : Int), (1 : Int), (3 : Int), (1 : Int), (2 : Int), (5 : Int), (1 : Int), (4 : Int),
 (-1 : Int)] =
 List.length (List.replicate (18 : Nat) (0 : Int)) ∧
 List.length [(6 : Int), (1 : Int), (3 : Int), (2 : Int), (15 : Int), (1 : Int), (5 : Int), (-1 : Int)] = List.length (List.replicate (8 : Nat) (0 : Int)) ∧
 List.length [(1 : Int), (1 : Int), (1 : Int), (4 : Int), (1 : Int), (3 : Int), (6 : Int), (2 : Int), (37 : Int), (1 : Int), (7 : Int), (-1 : Int)] =
 List.length (List.replicate (12 : Nat) (0 : Int)) ∧
 (0 : Int) ≤ (0 : Int) ∧
 (0 : Int) ≤ (↑(12 : Nat) : Int) ∧
 (↑(12 : Nat) : Int) ≤ (↑(12 : Nat) : Int) ∧
 (12 : Nat) = (12 : Nat) ∧
 ((k == (1 : Int)) = true →
 (0 : Int) ≤ (0 : Int) ∧
 (0 : Int) ≤ (↑(8 : Nat) : Int) ∧
 (↑(8 : Nat) : Int) ≤ (↑(8 : Nat) : Int) ∧
 (8 : Nat) = (8 : Nat) ∧
 List.length
 (List.take (Int.toNat (↑(8 : Nat) : Int) - Int.toNat (0 : Int))
 (List.drop (Int.toNat (0 : Int)) [(6 : Int), (1 : Int), (3 : Int), (2 : Int), (15 : Int), (1 : Int), (5 : Int), (-1 : Int)])) ≤
 (64 : Nat) ∧
 okRuns
 (List.take (Int.toNat (↑(8 : Nat) : Int) - Int.toNat (0 : Int))
 (List.drop (Int.toNat (0 : Int)) [(6 : Int), (1 : Int), (3 : Int), (2 : Int), (15 : Int), (1 : Int), (5 : Int), (-1 : Int)])) =
 true ∧
 (5 : Int) = preL k ∧
 expandL
 (List.take (Int.toNat (↑(8 : Nat) : Int) - Int.toNat (0 : Int))
 (List.drop (Int.toNat (0 : Int)) [(6 : Int), (1 : Int), (3 : Int), (2 : Int), (15 : Int), (1 : Int), (5 : Int), (-1 : Int)])) =
 preP k ∧
 (0 : Int) = preE k) ∧
 ((k == (1 : Int)) = false →
 ((k == (2 : Int)) = true →
 List.length
 (List.take (Int.toNat (↑(12 : Nat) : Int) - Int.toNat (0 : Int))
 (List.drop (Int.toNat (0 : Int))
 [(1 : Int), (1 : Int), (1 : Int), (4 : Int), (1 : Int), (3 : Int), (6 : Int), (2 : Int), (37 : Int), (1 : Int), (7 : Int), (-1 : Int)])) ≤
 (64 : Nat) ∧
 okRuns
 (List.take (Int.toNat (↑(12 : Nat) : Int) - Int.toNat (0 : Int))
 (List.drop (Int.toNat (0 : Int))
 [(1 : Int), (1 : Int), (1 : Int), (4 : Int), (1 : Int), (3 : Int), (6 : Int), (2 : Int), (37 : Int), (1 : Int), (7 : Int), (-1 : Int)])) =
 true ∧
 (6 : Int) = preL k ∧
 expandL
 (List.take (Int.toNat (↑(12 : Nat) : Int) - Int.toNat (0 : Int))
 (List.drop (Int.toNat (0 : Int))
 [(1 : Int), (1 : Int), (1 : Int), (4 : Int), (1 : Int), (3 : Int), (6 : Int), (2 : Int), (37 : Int), (1 : Int), (7 : Int), (-1 : Int)])) =
 preP k ∧
 (0 : Int) = preE k) ∧
 ((k == (2 : Int)) = false →
 ((k == (0 : Int)) = true →
 (0 : Int) ≤ (0 : Int) ∧
 (0 : Int) ≤ (↑(18 : Nat) : Int) ∧
 (↑(18 : Nat) : Int) ≤ (↑(18 : Nat) : Int) ∧
 (18 : Nat) = (18 : Nat) ∧
 List.length
 (List.take (Int.toNat (↑(18 : Nat) : Int) - Int.toNat (0 : Int))
 (List.drop (Int.toNat (0 : Int))
 [(1 : Int), (4 : Int), (1 : Int), (3 : Int), (11 : Int), (2 : Int), (3 : Int), (1 : Int), (9 : Int), (2 : Int), (1 : Int), (3 : Int), (1 : Int), (2 : Int),
 (5 : Int), (1 : Int), (4 : Int), (-1 : Int)])) ≤
 (64 : Nat) ∧
 okRuns
 (List.take (Int.toNat (↑(18 : Nat) : Int) - Int.toNat (0 : Int))
 (List.drop (Int.toNat (0 : Int))
 [(1 : Int), (4 : Int), (1 : Int), (3 : Int), (11 : Int), (2 : Int), (3 : Int), (1 : Int), (9 : Int), (2 : Int), (1 : Int), (3 : Int), (1 : Int),
 (2 : Int), (5 : Int), (1 : Int), (4 : Int), (-1 : Int)])) =
 true ∧
 (6 : Int) = preL k ∧
 expandL
 (List.take (Int.toNat (↑(18 : Nat) : Int) - Int.toNat (0 : Int))
 (List.drop (Int.toNat (0 : Int))
 [(1 : Int), (4 : Int), (1 : Int), (3 : Int), (11 : Int), (2 : Int), (3 : Int), (1 : Int), (9 : Int), (2 : Int), (1 : Int), (3 : Int), (1 : Int),
 (2 : Int), (5 : Int), (1 : Int), (4 : Int), (-1 : Int)])) =
 preP k ∧
 (0 : Int) = preE k) ∧
 ((k == (0 : Int)) = false → (0 : Int) = preL k ∧ List.length (preP k) = (0 : Nat) ∧ (11 : Int) = preE k)))
theorem predef_e (k : Int) : predef_t k = vcG Tryz.prog (Gof G8h) (fun _ => none) Tryz.f25 [.v (.int .i64 k)] [] (.leaf ((.tu [.ag [.v (.int .i64 (preL k)), .dat (.ints .i64 (preP k))], .v (.int .i64 (preE k))])) ([])) := by kernel_rfl
def rpredef_t (k : Int) : Prop :=
 ((k == (0 : Int)) = true →
 (2 : Nat) * (8 : Nat) ≤ (140737488355328 : Nat) ∧
 List.length [(4 : Int), (3 : Int)] ≤ (65536 : Nat) ∧
 (11 : Int) ≤ (65536 : Int) ∧
 (16 : Nat) * (8 : Nat) ≤ (140737488355328 : Nat) ∧
 List.length ([(4 : Int), (3 : Int)] ++ List.replicate (Int.toNat (11 : Int)) (2 : Int) ++ [(1 : Int), (1 : Int), (1 : Int)]) ≤ (65536 : Nat) ∧
 (9 : Int) ≤ (65536 : Int) ∧
 (27 : Nat) * (8 : Nat) ≤ (140737488355328 : Nat) ∧
 List.length
 ([(4 : Int), (3 : Int)] ++ List.replicate (Int.toNat (11 : Int)) (2 : Int) ++ [(1 : Int), (1 : Int), (1 : Int)] ++ List.replicate (Int.toNat (9 : Int)) (2 : Int) ++
 [(3 : Int), (2 : Int)]) ≤
 (65536 : Nat) ∧
 (5 : Int) ≤ (65536 : Int) ∧
 List.length
 ([(4 : Int), (3 : Int)] ++ List.replicate (Int.toNat (11 : Int)) (2 : Int) ++ [(1 : Int), (1 : Int), (1 : Int)] ++ List.replicate (Int.toNat (9 : Int)) (2 : Int) ++
 [(3 : Int), (2 : Int)] ++
 List.replicate (Int.toNat (5 : Int)) (1 : Int)) ≤
 (65536 : Nat) ∧
 (4 : Int) ≤ (65536 : Int) ∧
 (6 : Int) = preL k ∧
 [(4 : Int), (3 : Int)] ++ List.replicate (Int.toNat (11 : Int)) (2 : Int) ++ [(1 : Int), (1 : Int), (1 : Int)] ++ List.replicate (Int.toNat (9 : Int)) (2 : Int) ++
 [(3 : Int), (2 : Int)] ++
 List.replicate (Int.toNat (5 : Int)) (1 : Int) ++
 List.replicate (Int.toNat (4 : Int)) (-1 : Int) =
 preP k ∧
 (0 : Int) = preE k) ∧
 ((k == (0 : Int)) = false →
 ((k == (1 : Int)) = true →
 (6 : Int) ≤ (65536 : Int) ∧
 List.length (List.replicate (Int.toNat (6 : Int)) (1 : Int)) ≤ (65536 : Nat) ∧
 (3 : Int) ≤ (65536 : Int) ∧
 List.length (List.replicate (Int.toNat (6 : Int)) (1 : Int) ++ List.replicate (Int.toNat (3 : Int)) (2 : Int)) ≤ (65536 : Nat) ∧
 (15 : Int) ≤ (65536 : Int) ∧
 List.length (List.replicate (Int.toNat (6 : Int)) (1 : Int) ++ List.replicate (Int.toNat (3 : Int)) (2 : Int) ++ List.replicate (Int.toNat (15 : Int)) (1 : Int)) ≤ (65536 : Nat) ∧
 (5 : Int) ≤ (65536 : Int) ∧
 (5 : Int) = preL k ∧
 List.replicate (Int.toNat (6 : Int)) (1 : Int) ++ List.replicate (Int.toNat (3 : Int)) (2 : Int) ++ List.replicate (Int.toNat (15 : Int)) (1 : Int) ++
 List.replicate (Int.toNat (5 : Int)) (-1 : Int) =
 preP k ∧
 (0 : Int) = preE k) ∧
 ((k == (1 : Int)) = false →
 ((k == (2 : Int)) = true →
 (3 : Nat) * (8 : Nat) ≤ (140737488355328 : Nat) ∧
 List.length [(1 : Int), (4 : Int), (3 : Int)] ≤ (65536 : Nat) ∧
 (6 : Int) ≤ (65536 : Int) ∧
 List.length ([(1 : Int), (4 : Int), (3 : Int)] ++ List.replicate (Int.toNat (6 : Int)) (2 : Int)) ≤ (65536 : Nat) ∧
 (37 : Int) ≤ (65536 : Int) ∧
 List.length ([(1 : Int), (4 : Int), (3 : Int)] ++ List.replicate (Int.toNat (6 : Int)) (2 : Int) ++ List.replicate (Int.toNat (37 : Int)) (1 : Int)) ≤ (65536 : Nat) ∧
 (7 : Int) ≤ (65536 : Int) ∧
 (6 : Int) = preL k ∧
 [(1 : Int), (4 : Int), (3 : Int)] ++ List.replicate (Int.toNat (6 : Int)) (2 : Int) ++ List.replicate (Int.toNat (37 : Int)) (1 : Int) ++
 List.replicate (Int.toNat (7 : Int)) (-1 : Int) =
 preP k ∧
 (0 : Int) = preE k) ∧
 ((k == (2 : Int)) = false → (0 : Int) = preL k ∧ List.length (preP k) = (0 : Nat) ∧ (11 : Int) = preE k)))
theorem rpredef_e (k : Int) : rpredef_t k = vcG Tryz.prog (Gof G8h) (fun _ => none) Tryz.f39 [.v (.int .i64 k)] [] (.leaf ((.tu [.ag [.v (.int .i64 (preL k)), .dat (.ints .i64 (preP k))], .v (.int .i64 (preE k))])) ([])) := by kernel_rfl
end Go.Proofs.YtcoogfifjibkhaaGreat
namespace Go.Proofs.YtcoogfifjibkhaaGreat
open Go.RowKit
set_option linter.unusedVariables false
set_option linter.unusedSimpArgs false
def RepRel (w : World) (v : Int) (c : Nat) (nv : Value) (wr : World) : Prop :=
  ∃ (k : Nat) (rest : List Value), 1 ≤ k ∧ k ≤ c ∧ nv = .int .i64 k ∧ rest.length = c - k ∧ wr.heap[w.heap.size]? = some (.cells (List.replicate k (Value.int .i64 v) ++ rest).toArray 3 (0, 0)) ∧ Below w.heap.size w wr
theorem cells_info3 : (Tryz.prog.info? 3).map (·.size) = some 1 := by kernel_rfl
theorem copy_rep (w : World) (g k c : Nat) (v : Int) (rest : List Value) (hk : k < c) (hr : rest.length = c - k)
    (hg : w.heap[g]? = some (.cells (List.replicate k (Value.int .i64 v) ++ rest).toArray 3 (0, 0))) :
    ∃ w3, (Builtin.copy_ #[22, 22] 3 #[.slice (some ⟨g, k, none⟩) (c - k) (c - k), .slice (some ⟨g, 0, none⟩) k c]).run Tryz.prog w = .ok (.int .i64 ((min k (c - k) : Nat) : Int)) w3 ∧
      w3.heap[g]? = some (.cells (List.replicate (k + min k (c - k)) (Value.int .i64 v) ++ rest.drop (min k (c - k))).toArray 3 (0, 0)) ∧ ∀ B w0, Below B w0 w → B ≤ g → Below B w0 w3 := by
  have hB : Blk w g 3 (List.replicate k (Value.int .i64 v) ++ rest).toArray := hg
  have hsrc : ∀ j u, (List.replicate (min k (c - k)) (Value.int .i64 v))[j]? = some u → w.cell? ((⟨g, 0, none⟩ : Addr).add j) = some u := by
    intro j u hj
    rw [List.getElem?_replicate] at hj
    split at hj
    · rename_i hjk
      have e : (⟨g, 0, none⟩ : Addr).add j = ⟨g, j, none⟩ := by unfold Addr.add; split <;> simp_all
      rw [e]
      have := hB.cell j
      rw [List.getElem?_toArray, List.getElem?_append_left (by simp; omega), List.getElem?_replicate, if_pos (by omega)] at this
      rw [← hj]
      exact this
    · cases hj
  have hrun := run_copy_row (P := Tryz.prog) w 22 22 3 3 g k (c - k) (c - k) ⟨g, 0, none⟩ k c (List.replicate k (Value.int .i64 v) ++ rest).toArray 3 (List.replicate (min k (c - k)) (Value.int .i64 v)) Tryz.underlying22 cells_info3 hg (by rw [List.length_replicate]; try rfl) hsrc (by first | (simp; done) | (simp; omega)) (fun u hu => by obtain ⟨_, rfl⟩ := List.mem_replicate.1 hu; rfl)
  have hL : List.take k (List.replicate k (Value.int .i64 v) ++ rest).toArray.toList ++ List.replicate (min k (c - k)) (Value.int .i64 v) ++ List.drop (k + (List.replicate (min k (c - k)) (Value.int .i64 v)).length) (List.replicate k (Value.int .i64 v) ++ rest).toArray.toList = List.replicate (k + min k (c - k)) (Value.int .i64 v) ++ rest.drop (min k (c - k)) := by
    simp only [List.length_replicate]
    have h1 : List.take k (List.replicate k (Value.int IntKind.i64 v) ++ rest) = List.replicate k (Value.int IntKind.i64 v) := by
      rw [List.take_append_of_le_length (by simp), List.take_of_length_le (by simp)]
    have h2 : List.drop (k + min k (c - k)) (List.replicate k (Value.int IntKind.i64 v) ++ rest) = rest.drop (min k (c - k)) := by
      rw [List.drop_append, List.length_replicate, List.drop_eq_nil_of_le (by simp), List.nil_append, Nat.add_sub_cancel_left]
    show List.take k (List.replicate k (Value.int IntKind.i64 v) ++ rest) ++ _ ++ List.drop (k + min k (c - k)) (List.replicate k (Value.int IntKind.i64 v) ++ rest) = _
    rw [h1, h2, List.replicate_append_replicate]
  rw [hL] at hrun
  refine ⟨w.setRow g (List.replicate (k + min k (c - k)) (Value.int .i64 v) ++ rest.drop (min k (c - k))).toArray, ?_, ?_, ?_⟩
  · rw [hrun]
    simp [goInt]
  · exact setRow_heap w g _ _ 3 _ hg
  · intro B w0 hb hle
    exact below_setRow hb hle _
set_option maxHeartbeats 2000000 in
theorem repeat_pos (bx capx c : Nat) (v : Int) (w : World) (hc : c ≤ 65536) (hc1 : 1 ≤ c) (hb : bx < w.heap.size) (hx : w.cell? ⟨bx, 0, none⟩ = some (.int .i64 v)) :
    Calls Tryz.prog 82 #[.slice (some ⟨bx, 0, none⟩) 1 capx, .int .i64 c] w fun e w' => e = .returned (.slice (some ⟨w.heap.size, 0, none⟩) c c) ∧
      w'.heap[w.heap.size]? = some (.cells (List.replicate c (Value.int .i64 v)).toArray 3 (0, 0)) ∧ Below w.heap.size w w' := by
  have hmk := mk_ints c (by omega)
  have hu : IntKind.u64.wrap (c : Int) = c := IntWalk.u64_in _ ⟨by omega, by omega⟩
  go_enter Tryz.func82, Tryz.ntmps82
  go_wp2_with fail
  refine (mul1 c hc _).mono ?_
  rintro e w' ⟨rfl, rfl⟩
  have hz0 : (w.alloc (.cells (zcells c) 3)).heap[w.heap.size]? = some (.cells (List.replicate c (Value.int .i64 0)).toArray 3 (0, 0)) := by
    have := Blk.new w 3 (zcells c)
    unfold Blk at this
    rw [this]
    congr 2
    rw [← toList_madeCells_one]
    simp [zcells]
  have hb0 : Below w.heap.size w (w.alloc (.cells (zcells c) 3)) := by go_grown
  have hxx : (w.alloc (.cells (zcells c) 3)).cell? ⟨bx, 0, none⟩ = some (.int .i64 v) := (World.cell?_alloc_lt w _ ⟨bx, 0, none⟩ hb).trans hx
  have Hz0 := Lib.hid hz0
  have Hb0 := Lib.hid hb0
  have Hxx := Lib.hid hxx
  clear hz0 hb0 hxx
  go_wp2_with (refine wpList_copy_splice rfl (.tmp 31) (.tmp 32) 22 22 rfl 3 Tryz.underlying22 cells_info3 (some ⟨w.heap.size, 0, none⟩) (some ⟨bx, 0, none⟩) c c 1 capx rfl rfl w.heap.size 0 (List.replicate c (.int .i64 0)) 3 Hz0.out [.int .i64 v] ?c1 ?c2 ?c3 ?c4 w.heap.size w Hb0.out (Nat.le_refl _) ?c5)
  case c1 => exact (Nat.min_eq_left hc1).symm
  case c2 =>
    intro j u hj
    match j, hj with
    | 0, hj =>
      simp at hj
      subst hj
      exact hx
  case c3 => simp; omega
  case c4 => simp [Value.oneCell']
  case c5 =>
    intro w2 hw2 hb2
    have hw3 : w2.heap[w.heap.size]? = some (.cells (List.replicate 1 (Value.int .i64 v) ++ List.replicate (c - 1) (Value.int .i64 0)).toArray 3 (0, 0)) := by
      rw [hw2.out]
      simp [splice]
    have Hw3 := Lib.hid hw3
    have HW2 := Lib.hid hb2
    clear hw2 hb2 hw3 hmk hu
    go_wp2
    go_loopw [8] (fun nv wr => RepRel w v c nv wr) (fun nv _ => c - (intOf nv).toNat)
    case atStart => exact ⟨1, _, Nat.le_refl _, hc1, rfl, by simp, Hw3.out, HW2.out⟩
    case round =>
      obtain ⟨k, rest, hk1, hk, rfl, hr, hh, hW⟩ := hrel
      have Hh := Lib.hid hh
      have HW := Lib.hid hW
      have Hr := Lib.hid hr
      clear hh hW hr
      by_cases hlt : k < c
      · have hk0 : (0 : Int) ≤ (k : Int) := by omega
        have hkc : (k : Int) ≤ (c : Int) := by omega
        have hcc : ¬ c = k := by omega
        have hws : IntKind.i64.wrap ((k : Int) + ((min k (c - k) : Nat) : Int)) = ((k + min k (c - k) : Nat) : Int) := by
          rw [show (k : Int) + ((min k (c - k) : Nat) : Int) = ((k + min k (c - k) : Nat) : Int) by simp]
          exact IntWalk.i64_in _ (by omega)
        go_wp2_with fail
        obtain ⟨w3, hrun, hset, hbel⟩ := copy_rep wr.drew w.heap.size k c v rest hlt Hr.out Hh.out
        obtain ⟨m, hm⟩ : ∃ m, min k (c - k) = m := ⟨_, rfl⟩
        rw [hm] at hrun hws hset
        have Hm := Lib.hid hm
        have Hset := Lib.hid hset
        have Hbel := Lib.hid (hbel _ _ HW.out.drew (Nat.le_refl _))
        clear hm hset hbel
        go_region
        go_wp2
        go_roundw
        case rel =>
          have hm1 := Hm.out
          refine ⟨k + m, rest.drop m, by omega, by omega, by first | go_num | rw [hws], by rw [List.length_drop, Hr.out]; omega, Hset.out, Hbel.out⟩
        case measure =>
          have hm1 := Hm.out
          try rw [hws]
          simp [intOf]
          omega
      · have hkc : k = c := by omega
        subst hkc
        go_wp2
        go_ret
        refine ⟨rfl, ?_, HW.out⟩
        have h0 : rest = [] := List.eq_nil_of_length_eq_zero (by rw [Hr.out]; omega)
        have := Hh.out
        rw [h0, List.append_nil] at this
        exact this
end Go.Proofs.YtcoogfifjibkhaaGreat
namespace Go.Proofs.YtcoogfifjibkhaaGreat
open Go Go.RowKit
set_option linter.unusedVariables false
set_option linter.unusedSimpArgs false
set_option maxRecDepth 100000
theorem repeat_sat (v c : Int) (h1 : 1 ≤ c) (h2 : c ≤ 65536) : Sat Tryz.prog 82 [.o 0, .v (.int .i64 c)] [(0, .row 3 (.ints .i64 [v]))] (.dat (.ints .i64 (List.replicate c.toNat v))) [(0, .row 3 (.ints .i64 [v]))] := by
  intro D β w us hargs hhp hD hβ
  simp only [Reps, Rep] at hargs
  obtain ⟨_, _, rfl, ⟨L, hL, rfl⟩, _, _, rfl, rfl, rfl⟩ := hargs
  obtain ⟨L', hL', hB, hO⟩ := hhp.1 0 _ (List.mem_singleton.2 rfl)
  rw [hL] at hL'
  cases hL'
  obtain ⟨hw, hlen, hB⟩ := hB
  simp only [Dat.len, Dat.wd, List.length_singleton] at hw hlen hB
  rcases hB with ⟨_, h0⟩ | ⟨hnil, hcap, hmax, cs, ty', fr, hg, hfr, hcl, hcs⟩
  · omega
  obtain ⟨hnD, hlt⟩ := hO hnil
  obtain ⟨x, hx, hok⟩ := hcs 0 0 (by omega) (by omega)
  simp only [Dat.ok] at hok
  subst hok
  have hcell : w.cell? ⟨L.g, 0, none⟩ = some (.int .i64 v) := by
    rw [cell_of_row w L.g 0 cs.toArray _ _ hg, List.getElem?_toArray]
    simpa using hx
  obtain ⟨C, hC⟩ : ∃ C : Nat, c = C := ⟨c.toNat, by omega⟩
  subst hC
  have hval : L.val = .slice (some ⟨L.g, 0, none⟩) 1 L.cap := by unfold Loc.val; rw [hnil, hlen]; rfl
  rw [hval]
  refine (repeat_pos L.g L.cap C v w (by omega) (by omega) hlt hcell).mono ?_
  rintro e w' ⟨rfl, hnew, hb⟩
  have hsz : w.heap.size < w'.heap.size := by
    rcases Nat.lt_or_ge w.heap.size w'.heap.size with h | h
    · exact h
    · rw [Array.getElem?_eq_none h] at hnew; cases hnew
  refine ⟨_, fun g => D g ∨ g = w.heap.size, β, rfl, ?_⟩
  exact {
    grows := ⟨fun _ h => .inl h, fun g hg => hb.block g (hD g hg), fun _ _ h => h⟩
    ret := by
      simp only [Rep, RepDat, SliceAt, Dat.len, Dat.wd, List.length_replicate, Int.toNat_natCast]
      refine ⟨_, _, rfl, Nat.le_refl _, fun _ => ⟨w.heap.size, 0, rfl, .inr rfl, fun i j hi hj => ?_⟩⟩
      have j0 : j = 0 := by omega
      subst j0
      refine ⟨.int .i64 v, ?_, ?_⟩
      · rw [cell_of_row w' w.heap.size _ _ _ _ hnew, List.getElem?_toArray, List.getElem?_replicate, if_pos (by omega)]
      · simp [Dat.ok, List.getD_eq_getElem?_getD, List.getElem?_replicate, hi]
    hps := by
      refine ⟨fun l b hl => ?_, fun l l' b b' L1 L2 hl hl' _ _ _ _ _ => ?_⟩
      · obtain ⟨rfl, rfl⟩ := Prod.mk.inj (List.mem_singleton.1 hl)
        refine ⟨L, hL, ⟨hw, hlen, .inr ⟨hnil, hcap, hmax, cs, ty', fr, (hb.block L.g hlt).trans hg, hfr, hcl, fun i j hi hj => ?_⟩⟩, fun _ => ⟨fun h => ?_, by have := hb.size; omega⟩⟩
        · simp only [Dat.len, Dat.wd, List.length_singleton] at hi hj ⊢
          have i0 : i = 0 := by omega
          have j0 : j = 0 := by omega
          subst i0 j0
          exact ⟨_, hx, rfl⟩
        · rcases h with h | h
          · exact hnD h
          · omega
      · obtain ⟨rfl, rfl⟩ := Prod.mk.inj (List.mem_singleton.1 hl)
        obtain ⟨rfl, rfl⟩ := Prod.mk.inj (List.mem_singleton.1 hl')
        rfl
    d := fun g hg => by
      rcases hg with hg | rfl
      · exact ⟨.inl hg, by have := hD g hg; omega⟩
      · exact ⟨.inr (.inl (Nat.le_refl _)), hsz⟩
    dom := fun l L hL => .inl hL
    own := fun l b L1 hl hL1 hni => by
      obtain ⟨rfl, rfl⟩ := Prod.mk.inj (List.mem_singleton.1 hl)
      exact .inr ⟨0, _, L1, List.mem_singleton.2 rfl, hL1, hni, rfl⟩
    os := hb.os, tape := hb.tape, output := hb.output, size := hb.size
    block := fun g hg _ => hb.block g hg }
theorem repeat_sound : Sound Tryz.prog 82 sRepeat.ctr := sRepeat.sound (by kernel_rfl) sRepeat_enc fun ⟨v, c⟩ hc => by
  have h0 := hc _ (.head _)
  have h1 := hc _ (.tail _ (.head _))
  exact repeat_sat v c h0 h1
theorem expand_step {l : List Int} {i : Nat} (h : i + 1 < l.length) : expandL (l.drop i) = List.replicate (l.getD i 0).toNat (l.getD (i + 1) 0) ++ expandL (l.drop (i + 2)) := by
  rw [drop_cons (by omega), drop_cons h]
  rfl
theorem okRuns_step {l : List Int} {i : Nat} (h : i + 1 < l.length) (ho : okRuns (l.drop i) = true) : 1 ≤ l.getD i 0 ∧ l.getD i 0 ≤ 64 ∧ okRuns (l.drop (i + 2)) = true := by
  rw [drop_cons (by omega), drop_cons h] at ho
  simp only [okRuns, Bool.and_eq_true, decide_eq_true_eq] at ho
  exact ⟨ho.1.1, ho.1.2, ho.2⟩
theorem expand_end {l : List Int} {i : Nat} (h : ¬ i + 1 < l.length) : expandL (l.drop i) = [] := by
  by_cases h2 : i < l.length
  · rw [drop_cons h2, List.drop_eq_nil_of_le (by omega)]; rfl
  · rw [List.drop_eq_nil_of_le (by omega)]; rfl
theorem runs_v (l : List Int) (h0 : l.length ≤ 64) (h1 : okRuns l = true) : runs_t l := by
  unfold runs_t
  refine ⟨⟨(0, []), ⟨by (try dsimp only); omega, h1, by simp, rfl⟩, by ((repeat' (refine And.intro ?_ ?_)) <;> first | rfl | exact True.intro | omega | (rw [wr (by omega) (by omega)]; done) | (rw [wr (by omega) (by omega)]; first | rfl | omega | (simp; done)))⟩, ?_⟩
  rintro ⟨i, out⟩ ⟨hi, ho, hl, he⟩
  dsimp only at hi ho hl he
  have wi : IntKind.wrap IntKind.i64 ((i : Int) + 1) = ((i + 1 : Nat) : Int) := by rw [wr (by omega) (by omega)]; simp
  simp only [wi, toNat_cast, List.length_replicate]
  refine ⟨fun hlt => ?_, fun hge => ?_⟩
  · simp only [decide_eq_true_eq] at hlt
    have hlt' : i + 1 < l.length := by omega
    obtain ⟨o1, o2, o3⟩ := okRuns_step hlt' ho
    rw [expand_step hlt', ← List.append_assoc] at he
    refine ⟨by omega, by omega, by omega, by omega, o1, by omega, by omega, (i + 2, out ++ List.replicate (l.getD i 0).toNat (l.getD (i + 1) 0)), ⟨by (try dsimp only); omega, o3, ?_, he⟩, by show l.length - (i + 2) < l.length - i; omega, by ((repeat' (refine And.intro ?_ ?_)) <;> first | rfl | exact True.intro | omega | (rw [wr (by omega) (by omega)]; done) | (rw [wr (by omega) (by omega)]; first | rfl | omega | (simp; done)))⟩
    show (out ++ List.replicate (l.getD i 0).toNat (l.getD (i + 1) 0)).length ≤ 64 * (i + 2)
    rw [List.length_append, List.length_replicate]
    omega
  · simp only [decide_eq_false_iff_not] at hge
    rw [expand_end (by omega), List.append_nil] at he
    exact he
theorem preLn {k : Int} (h0 : (k == 0) = false) (h1 : (k == 1) = false) (h2 : (k == 2) = false) : preL k = 0 ∧ preP k = [] ∧ preE k = 11 := by
  unfold preL preP preE; rw [h0, h1, h2]; exact ⟨rfl, rfl, rfl⟩
theorem rpredef_v (k : Int) : rpredef_t k := by
  unfold rpredef_t
  refine ⟨fun h => ?_, fun h0 => ⟨fun h => ?_, fun h1 => ⟨fun h => ?_, fun h2 => ?_⟩⟩⟩
  · have e : k = 0 := by simpa using h
    subst e
    decide +kernel
  · have e : k = 1 := by simpa using h
    subst e
    decide +kernel
  · have e : k = 2 := by simpa using h
    subst e
    decide +kernel
  · obtain ⟨e1, e2, e3⟩ := preLn h0 h1 h2
    rw [e1, e2, e3]
    exact ⟨rfl, rfl, rfl⟩
theorem predef_v (k : Int) : predef_t k := by
  unfold predef_t
  refine ⟨by decide, by decide, by decide, by decide, by decide, by decide, by decide, fun h => ?_, fun h1 => ⟨fun h => ?_, fun h2 => ⟨fun h => ?_, fun h0 => ?_⟩⟩⟩
  · have e : k = 1 := by simpa using h
    subst e
    decide +kernel
  · have e : k = 2 := by simpa using h
    subst e
    decide +kernel
  · have e : k = 0 := by simpa using h
    subst e
    decide +kernel
  · obtain ⟨e1, e2, e3⟩ := preLn h0 h1 h2
    rw [e1, e2, e3]
    exact ⟨rfl, rfl, rfl⟩
theorem times_sound : Sound Tryz.prog 69 sTimes.ctr := sTimes.sound (by kernel_rfl) sTimes_enc fun ⟨l, n, x⟩ hc => by
  have h0 := hc _ (.head _)
  have h1 := hc _ (.tail _ (.head _))
  exact satG G8a_ok mixed Tryz.func69 (times_e l n x) (times_v l n x h0 h1)
theorem times0_sound : Sound Tryz.prog 69 sTimes0.ctr := sTimes0.sound (by kernel_rfl) sTimes0_enc fun ⟨n, x⟩ hc => by
  have h0 := hc _ (.head _)
  exact satG G8a_ok mixed Tryz.func69 (times0_e n x) (times0_v n x h0)
theorem G8g_ok : AllOk Tryz.prog G8g := .cons repeat_sound <| .cons (orC_sound times0_sound times_sound) <| G8f_ok
theorem runs_sound : Sound Tryz.prog 55 sRuns.ctr := sRuns.sound (by kernel_rfl) sRuns_enc fun l hc => by
  have h0 := hc _ (.head _)
  have h1 := hc _ (.tail _ (.head _))
  exact satG G8g_ok mixed Tryz.func55 (runs_e l) (runs_v l h0 h1)
theorem G8h_ok : AllOk Tryz.prog G8h := .cons runs_sound <| G8g_ok
theorem predef_sound : Sound Tryz.prog 25 sPredef.ctr := sPredef.sound (by kernel_rfl) sPredef_enc fun k hc => by
  exact satG G8h_ok mixed Tryz.func25 (predef_e k) (predef_v k)
theorem rpredef_sound : Sound Tryz.prog 39 sPredef.ctr := sPredef.sound (by kernel_rfl) sPredef_enc fun k hc => by
  exact satG G8h_ok mixed Tryz.func39 (rpredef_e k) (rpredef_v k)
theorem G8i_ok : AllOk Tryz.prog G8i := .cons predef_sound <| .cons rpredef_sound <| G8h_ok
end Go.Proofs.YtcoogfifjibkhaaGreat
namespace Go.Proofs.YtcoogfifjibkhaaGreat
open Go Go.RowKit
set_option linter.unusedVariables false
set_option linter.unusedSimpArgs false
set_option maxRecDepth 100000
theorem peekN_join (s : ByteArray) (b n m : Nat) : peekN s b (n + m) = peekN s b n + peekN s (b + n) m * 2 ^ n := by
  unfold peekN
  rw [Nat.pow_add 2 n m, Nat.mod_mul, Nat.div_div_eq_div_mul, ← Nat.pow_add, Nat.mul_comm (2 ^ n)]
theorem rchk_mk {s : ByteArray} {b : Int} (h1 : s.size ≤ 1048576) (h2 : 0 ≤ b) (h3 : b ≤ 8 * (s.size : Int)) : rchk s b = 0 := by
  unfold rchk
  rw [if_neg (by omega), if_neg (by omega)]
theorem tk_mk {r : R2} {n : Int} (h1 : r.1.size ≤ 1048576) (h2 : 0 ≤ r.2) (h3 : 0 ≤ n) (h4 : n ≤ 32) (h5 : r.2 + n ≤ 8 * (r.1.size : Int)) : takeT r n = ((r.1, r.2 + n), ((peekN r.1 r.2.toNat n.toNat : Nat) : Int), 0) := by
  have ha : askE r.1 r.2 n = 0 := by unfold askE; rw [if_pos (rchk_mk h1 h2 (by omega)), if_neg (by omega)]
  unfold takeT
  rw [if_pos (by unfold takeE; rw [if_neg (by omega)]; exact ha)]
theorem tk_short {r : R2} {n : Int} (h1 : r.1.size ≤ 1048576) (h2 : 0 ≤ r.2) (h3 : 0 ≤ n) (h4 : n ≤ 32) (h6 : r.2 ≤ 8 * (r.1.size : Int)) (h5 : 8 * (r.1.size : Int) < r.2 + n) : takeT r n = ((⟨#[]⟩, 0), 0, 5) := by
  have ha : askE r.1 r.2 n = 0 := by unfold askE; rw [if_pos (rchk_mk h1 h2 h6), if_neg (by omega)]
  have he : takeE r.1 r.2 n = 5 := by unfold takeE; rw [if_pos ⟨ha, h5⟩]
  unfold takeT
  rw [if_neg (by omega), he]
theorem tk_join {r : R2} {B : Int} (hB1 : 1 ≤ B) (hB2 : B ≤ 13) (e1 : (takeT r (B - 1)).2.2 = 0) :
    ((takeT (takeT r (B - 1)).1 1).2.2 = 0 ∧ takeT r B = ((takeT (takeT r (B - 1)).1 1).1, (takeT r (B - 1)).2.1 + (takeT (takeT r (B - 1)).1 1).2.1 * 2 ^ (B - 1).toNat, 0)) ∨
    ((takeT (takeT r (B - 1)).1 1).2.2 ≠ 0 ∧ (takeT r B).2.2 ≠ 0) := by
  have T := tk_ok e1
  have b0 := T.b0
  have b1 := T.b1
  have sz := T.sz
  rw [T.rd]
  by_cases h : r.2 + B ≤ 8 * (r.1.size : Int)
  · left
    have h2 : takeT (r.1, r.2 + (B - 1)) 1 = _ := tk_mk (r := (r.1, r.2 + (B - 1))) sz (by dsimp only; omega) (by omega) (by omega) (by dsimp only; omega)
    have h1 : takeT r B = _ := tk_mk sz b0 (by omega) (by omega) h
    rw [h1, h2, T.vl]
    refine ⟨rfl, ?_⟩
    have e : B.toNat = (B - 1).toNat + 1 := by omega
    have e2 : (r.2 + (B - 1)).toNat = r.2.toNat + (B - 1).toNat := by omega
    rw [e, peekN_join, e2]
    dsimp only
    rw [show r.2 + (B - 1) + 1 = r.2 + B by omega]
    congr 2
  · right
    rw [tk_short (r := (r.1, r.2 + (B - 1))) sz (by dsimp only; omega) (by omega) (by omega) (by dsimp only; omega) (by dsimp only; omega), tk_short sz b0 (by omega) (by omega) (by omega) (by omega)]
    exact ⟨by show ¬ (5 : Int) = 0; decide, by show ¬ (5 : Int) = 0; decide⟩
theorem rval_v (g : Int) (s : ByteArray) (b : Int) (hs : s.size ≤ 9223372036854775807) (g0 : 0 ≤ g) (g1 : g ≤ 4096) : rval_t g s b := by
  have S := shB_ok g0 g1
  have hA5 := S.b1
  have hA6 := S.b2
  have lo := S.lo
  have hi := S.hi
  have db := S.dbl
  have et := shT_eq g
  have m13 := pow_mono (show (shB g).toNat ≤ 13 by omega)
  have m0 := pow_pos' (shB g - 1).toNat
  have w0 : IntKind.wrap IntKind.i64 (g + 1) = g + 1 := wr (by omega) (by omega)
  have w2 : IntKind.wrap IntKind.i64 (shB g - 1) = shB g - 1 := wr (by omega) (by omega)
  have w4 : hiI (g + 1) + 1 = shB g := rfl
  have w5 : IntKind.wrap IntKind.u64 (shB g) = shB g := wru (by omega) (by omega)
  have w6 : IntKind.wrap IntKind.u64 (shB g - 1) = shB g - 1 := wru (by omega) (by omega)
  have w7 : IntKind.wrap IntKind.i64 (2 ^ (shB g).toNat - 1) = 2 ^ (shB g).toNat - 1 := wr (by omega) (by omega)
  have w8 : IntKind.wrap IntKind.i64 (2 ^ (shB g).toNat - 1 - (g + 1)) = shT g := wr (n := shT g) (by omega) (by omega)
  unfold rval_t
  simp only [w0, w4, w2, w5, w6, shl1 (show 0 ≤ shB g by omega) (show shB g ≤ 62 by omega), w7, w8, shl1 (show 0 ≤ shB g - 1 by omega) (show shB g - 1 ≤ 62 by omega), decide_eq_true_eq, decide_eq_false_iff_not, ge_iff_le]
  have no : ((0 : Int) != 0) = false := rfl
  have yes : ((23 : Int) != 0) = true := rfl
  refine ⟨by omega, by omega, fun e1 => ⟨hs, fun h => absurd (no ▸ h) (by decide), fun _ => ⟨fun c => ?_, fun c => ⟨fun e2 => ⟨hs, by omega, fun d => ?_, fun d => ?_⟩, fun e2 => ⟨hs, by omega, fun d => ?_, fun d => ?_⟩⟩⟩⟩, fun e1 => ⟨hs, fun _ => ?_, fun h => absurd (yes ▸ h) (by decide)⟩⟩
  · rw [val_2 e1 c]
    exact ⟨fun _ => by ((repeat' (refine And.intro ?_ ?_)) <;> first | rfl | exact True.intro | omega | (rw [wr (by omega) (by omega)]; done) | (rw [wr (by omega) (by omega)]; first | rfl | omega | (simp; done))), fun h => absurd rfl h⟩
  · rcases tk_join hA5 hA6 e1 with ⟨k1, k2⟩ | ⟨k1, k2⟩
    · rw [k2] at d ⊢
      rw [val_4 e1 c k1]
      have ef : fixV g ((takeT (s, b) (shB g - 1)).2.1 + (takeT (takeT (s, b) (shB g - 1)).1 1).2.1 * 2 ^ (shB g - 1).toNat) = (takeT (s, b) (shB g - 1)).2.1 + (takeT (takeT (s, b) (shB g - 1)).1 1).2.1 * 2 ^ (shB g - 1).toNat - shT g := by unfold fixV; rw [decide_eq_true d]; rfl
      rw [ef]
      have T := tk_ok (r := (s, b)) (n := shB g) e2
      have v1 := T.v1
      rw [k2] at v1
      dsimp only at d v1 ⊢
      rw [wr (by omega) (by omega)]
      exact ⟨fun _ => by ((repeat' (refine And.intro ?_ ?_)) <;> first | rfl | exact True.intro | omega | (rw [wr (by omega) (by omega)]; done) | (rw [wr (by omega) (by omega)]; first | rfl | omega | (simp; done))), fun h => absurd rfl h⟩
    · exact absurd e2 k2
  · rcases tk_join hA5 hA6 e1 with ⟨k1, k2⟩ | ⟨k1, k2⟩
    · rw [k2] at d ⊢
      rw [val_4 e1 c k1]
      have ef : fixV g ((takeT (s, b) (shB g - 1)).2.1 + (takeT (takeT (s, b) (shB g - 1)).1 1).2.1 * 2 ^ (shB g - 1).toNat) = (takeT (s, b) (shB g - 1)).2.1 + (takeT (takeT (s, b) (shB g - 1)).1 1).2.1 * 2 ^ (shB g - 1).toNat := by unfold fixV; rw [decide_eq_false d]; rfl
      rw [ef]
      exact ⟨fun _ => by ((repeat' (refine And.intro ?_ ?_)) <;> first | rfl | exact True.intro | omega | (rw [wr (by omega) (by omega)]; done) | (rw [wr (by omega) (by omega)]; first | rfl | omega | (simp; done))), fun h => absurd rfl h⟩
    · exact absurd e2 k2
  · omega
  · rcases tk_join hA5 hA6 e1 with ⟨k1, k2⟩ | ⟨k1, k2⟩
    · exact absurd (by rw [k2]) e2
    · rw [val_3 e1 c k1]
      exact ⟨fun h => absurd h k1, fun _ => by ((repeat' (refine And.intro ?_ ?_)) <;> first | rfl | exact True.intro | omega | (rw [wr (by omega) (by omega)]; done) | (rw [wr (by omega) (by omega)]; first | rfl | omega | (simp; done)))⟩
  · rw [val_1 e1]
    exact ⟨fun h => absurd h e1, fun _ => by ((repeat' (refine And.intro ?_ ?_)) <;> first | rfl | exact True.intro | omega | (rw [wr (by omega) (by omega)]; done) | (rw [wr (by omega) (by omega)]; first | rfl | omega | (simp; done)))⟩
theorem dtake_sound : Sound Tryz.prog 102 sDTake.ctr := sDTake.sound (by kernel_rfl) sDTake_enc fun ⟨n, s, b⟩ hc => by
  have h0 := hc _ (.head _)
  exact satG G8i_ok mixed Tryz.func102 (dtake_e n s b) (dtake_v n s b h0)
theorem rtake8_sound : Sound Tryz.prog 77 sRTake.ctr := sRTake.sound (by kernel_rfl) sRTake_enc fun ⟨n, s, b⟩ hc => by
  have h0 := hc _ (.head _)
  exact satG G8i_ok mixed Tryz.func77 (rtake8_e n s b) (rtake_v n s b h0)
theorem G8k_ok : AllOk Tryz.prog G8k := .cons dtake_sound <| .cons rtake8_sound <| G8i_ok
theorem dread_sound : Sound Tryz.prog 74 sDRead.ctr := sDRead.sound (by kernel_rfl) sDRead_enc fun ⟨m, y, s, b⟩ hc => by
  have h0 := hc _ (.head _)
  have h1 := hc _ (.tail _ (.head _))
  have h2 := hc _ (.tail _ (.tail _ (.head _)))
  have h3 := hc _ (.tail _ (.tail _ (.tail _ (.head _))))
  exact satG G8k_ok mixed Tryz.func74 (dread_e m y s b) (dread_v m y s b h0 h1 h2 h3)
theorem rval_sound : Sound Tryz.prog 107 sRVal.ctr := sRVal.sound (by kernel_rfl) sRVal_enc fun ⟨g, s, b⟩ hc => by
  have h0 := hc _ (.head _)
  have h1 := hc _ (.tail _ (.head _))
  have h2 := hc _ (.tail _ (.tail _ (.head _)))
  exact satG G8k_ok mixed Tryz.func107 (rval_e g s b) (rval_v g s b h0 h1 h2)
theorem G8l_ok : AllOk Tryz.prog G8l := .cons dread_sound <| .cons rval_sound <| G8k_ok
end Go.Proofs.YtcoogfifjibkhaaGreat
namespace Go.Proofs.YtcoogfifjibkhaaGreat
open Go Go.RowKit
set_option linter.unusedVariables false
set_option linter.unusedSimpArgs false
set_option maxRecDepth 100000
theorem rprobs_v (g y : Int) (s : ByteArray) (b : Int) (hs : s.size ≤ 9223372036854775807) (g0 : 0 ≤ g) (g1 : g ≤ 4096) (hy1 : 1 ≤ y) (hy2 : y ≤ 256) (hb0 : 0 ≤ b) (hb1 : b ≤ 8388608) : rprobs_t g y s b := by
  unfold rprobs_t
  generalize hfin : rdR y (y.toNat + 1) (s, b) g [] = fin
  simp only [e00, n00, e23, n23, e31, n31, Bool.true_eq_false, Bool.false_eq_true, true_implies, false_implies, eq_self, true_and, and_true, and_self, gt_iff_lt, ge_iff_le, decide_eq_true_eq, decide_eq_false_iff_not, toNat_cast]
  refine ⟨⟨(y.toNat + 1, (s, b), g, []), ⟨hfin, by simp; omega, by simp; omega, g0, g1, hs, hb0, hb1⟩, by ((repeat' (refine And.intro ?_ ?_)) <;> first | rfl | exact True.intro | omega | (rw [wr (by omega) (by omega)]; done) | (rw [wr (by omega) (by omega)]; first | rfl | omega | (simp; done)))⟩, ?_⟩
  rintro ⟨f, ⟨s1, b1⟩, left, out⟩ ⟨hR, hf, ho, hl0, hl1, hs1, hb2, hb3⟩
  dsimp only at hR hf ho hl0 hl1 hs1 hb2 hb3 ⊢
  obtain ⟨f, rfl⟩ : ∃ f', f = f' + 1 := ⟨f - 1, by omega⟩
  refine ⟨fun hlt => ⟨fun e1 => ⟨hs1, hl0, hl1, hb2, by omega, fun hl => ?_, fun hl => ?_⟩, fun e1 => ?_⟩, fun hge => ?_⟩
  · have hv : valR (s1, b1) left = ((valR (s1, b1) left).1, (valR (s1, b1) left).2.1, 0) := by rw [← e1]
    rw [← hR, rd_full hlt hv hl]
    exact ⟨fun h => absurd h (by show ¬ (23 : Int) = 0; decide), fun _ => by trivial⟩
  · have hv0 : valR (s1, b1) left = ((valR (s1, b1) left).1, (valR (s1, b1) left).2.1, 0) := by rw [← e1]
    obtain ⟨r', v, hv⟩ : ∃ r' v, valR (s1, b1) left = (r', v, 0) := ⟨_, _, hv0⟩
    clear hv0 e1
    have VV := vl_ok hl0 hl1 hv
    have v0 := VV.v0
    have v1 := VV.v1
    have vb0 := VV.b0
    have vb1 := VV.b1
    have vsz := VV.sz
    have vst := VV.st
    dsimp only at vb1 vsz vst
    have hl' : (out.length : Int) ≠ y := by simpa using hl
    have wv : IntKind.wrap IntKind.i64 (v - 1) = v - 1 := wr (by omega) (by omega)
    have hpt := pt_ge (v - 1) (by omega)
    have hpt0 := pt_nonneg (v - 1)
    have wm : IntKind.wrap IntKind.i64 (left - pt (v - 1)) = left - pt (v - 1) := wr (by omega) (by omega)
    have hstr : r'.1.size ≤ 9223372036854775807 := by rw [vst]; exact hs1
    simp only [hv, wv, pts_one, wm]
    refine ⟨by omega, by simp, by simp only [List.all_cons, List.all_nil, Bool.and_true, decide_eq_true_eq]; omega, (f, left - pt (v - 1)), ⟨(v - 1 == 0, y.toNat + 1, r', out ++ [v - 1]), ⟨?_, ?_, ?_, ?_, hstr, vb0, by (try dsimp only); omega⟩, by ((repeat' (refine And.intro ?_ ?_)) <;> first | rfl | exact True.intro | omega | (rw [wr (by omega) (by omega)]; done) | (rw [wr (by omega) (by omega)]; first | rfl | omega | (simp; done)))⟩, ?_⟩
    · dsimp only
      cases hz : (v - 1 == 0)
      · have hv1 : v ≠ 1 := by have : v - 1 ≠ 0 := by simpa using hz
                               omega
        rw [rd_step hlt hv hl hv1] at hR
        rw [← hpt.2.1 (by omega)] at hR
        exact hR
      · have hv1 : v - 1 = 0 := by simpa using hz
        have hv2 : v = 1 := by omega
        subst hv2
        rw [rd_zero hlt hv hl] at hR
        have : pt (1 - 1) = 0 := rfl
        rw [this, Int.sub_zero]
        exact hR
    · intro _
      simp only [List.length_append, List.length_singleton]; omega
    · simp only [List.length_append, List.length_singleton]; omega
    · simp only [List.length_append, List.length_singleton]; omega
    · rintro ⟨again, f2, r2, out2⟩ ⟨hZ, k1, k2, k3, k4, k5, k6⟩
      dsimp only at hZ k1 k2 k3 k4 k5 k6 ⊢
      refine ⟨fun ha => ⟨fun e => ?_, fun e => ?_⟩, fun ha => ?_⟩
      · subst ha
        have k1 := k1 rfl
        obtain ⟨f2, rfl⟩ : ∃ f', f2 = f' + 1 := ⟨f2 - 1, by omega⟩
        have hZ' : contZ y f (left - pt (v - 1)) (flR y (f2 + 1) r2 out2) = fin := hZ
        have e : (takeT r2 2).2.2 = 0 := e
        have T3 := tk_ok e
        have u0 := T3.v0
        have u1 := T3.v1
        have ub0 := T3.b0
        have ub1 := T3.b1
        have usz := T3.sz
        have e4 : (2 : Int) ^ (2 : Int).toNat = 4 := rfl
        have wl : IntKind.wrap IntKind.i64 ((out2.length : Int) + (takeT r2 2).2.1) = (out2.length : Int) + (takeT r2 2).2.1 := wr (by omega) (by omega)
        simp only [wl]
        refine ⟨k4, fun hc => ?_, fun hc => ⟨by omega, by show (takeT r2 2).2.1 ≤ 65536; omega, ?_⟩⟩
        · rw [fl_full e hc, contZ_err (by show ¬ (23 : Int) = 0; decide)] at hZ'
          rw [← hZ']
          exact ⟨fun h => absurd h (by show ¬ (23 : Int) = 0; decide), fun _ => by trivial⟩
        · rw [fl_step e hc] at hZ'
          refine ⟨((takeT r2 2).2.1 == 3, f2, (takeT r2 2).1, out2 ++ List.replicate (takeT r2 2).2.1.toNat 0), ⟨hZ', ?_, ?_, ?_, by dsimp only; rw [T3.rd]; exact k4, by dsimp only; rw [T3.rd]; dsimp only; omega, by dsimp only; rw [T3.rd]; dsimp only; omega⟩, ?_, by ((repeat' (refine And.intro ?_ ?_)) <;> first | rfl | exact True.intro | omega | (rw [wr (by omega) (by omega)]; done) | (rw [wr (by omega) (by omega)]; first | rfl | omega | (simp; done)))⟩
          · dsimp only
            intro h3
            have h3' : (takeT r2 2).2.1 = 3 := by simpa using h3
            rw [h3']
            simp only [List.length_append, List.length_replicate]
            omega
          · simp only [List.length_append, List.length_replicate]; omega
          · simp only [List.length_append, List.length_replicate]; omega
          · show (cond ((takeT r2 2).2.1 == 3) (f2 + 1) 0) < f2 + 1 + 1
            cases (takeT r2 2).2.1 == 3
            · simp only [cond_false]; omega
            · simp only [cond_true]; omega
      · subst ha
        have k1 := k1 rfl
        obtain ⟨f2, rfl⟩ : ∃ f', f2 = f' + 1 := ⟨f2 - 1, by omega⟩
        have hZ' : contZ y f (left - pt (v - 1)) (flR y (f2 + 1) r2 out2) = fin := hZ
        have e : (takeT r2 2).2.2 ≠ 0 := e
        rw [fl_err e, contZ_err e] at hZ'
        rw [← hZ']
        exact ⟨k4, fun h => absurd h e, fun _ => by trivial⟩
      · subst ha
        have hZ' : rdR y f r2 (left - pt (v - 1)) out2 = fin := hZ
        exact ⟨(f, r2, left - pt (v - 1), out2), ⟨hZ', k2, k3, by (try dsimp only); omega, by (try dsimp only); omega, k4, k5, k6⟩, by show f < f + 1; omega, by ((repeat' (refine And.intro ?_ ?_)) <;> first | rfl | exact True.intro | omega | (rw [wr (by omega) (by omega)]; done) | (rw [wr (by omega) (by omega)]; first | rfl | omega | (simp; done)))⟩
  · rw [← hR, rd_err hlt e1]
    exact ⟨hs1, hl0, hl1, hb2, by omega, fun h => absurd h e1, fun _ => by trivial⟩
  · rw [rd_end hge] at hR
    rw [← hR]
    exact ⟨fun _ => by ((repeat' (refine And.intro ?_ ?_)) <;> first | rfl | exact True.intro | omega | (rw [wr (by omega) (by omega)]; done) | (rw [wr (by omega) (by omega)]; first | rfl | omega | (simp; done))), fun h => absurd rfl h⟩
end Go.Proofs.YtcoogfifjibkhaaGreat
namespace Go.Proofs.YtcoogfifjibkhaaGreat
open Go.RowKit Go.Extern.Stop Go.Stop Go.Extern
set_option linter.unusedVariables false
set_option linter.unusedSimpArgs false
theorem isTypeOf (v : Value) (w : World) : (Extern.ReflectliteType.typeOf #[.iface 31 v]).run Tryz.prog w = .ok (.iface 150 (.agg #[.pointer (some ⟨0, 31, none⟩)])) w := by kernel_rfl
def compFn : Array Value → Sem Value := Extern.ReflectliteType.method fun t => do Go.Extern.Rtype.noPackHeld "Comparable" t; pure (.bool (← typeInfo t).comparable)
theorem isComparable (w : World) : (compFn #[.agg #[.pointer (some ⟨0, 31, none⟩)]]).run Tryz.prog w = .ok (.bool true) w := by kernel_rfl
theorem isMethodComparable (v : Value) (w : World) : (Go.method 133 150 v "Comparable").run Tryz.prog w = .ok (148, v) w := by kernel_rfl
theorem noIsB (v : Value) (w : World) : (Instr.typeAssert (.iface 131 v) 102 152 true).run Tryz.prog w = .ok (.tuple #[.nilIface, .bool false]) w := run_typeAssert_lacksB Tryz.underlying152 (by kernel_rfl) (by kernel_rfl) v _ w
theorem noIsE (v : Value) (w : World) : (Instr.typeAssert (.iface 31 v) 102 152 true).run Tryz.prog w = .ok (.tuple #[.nilIface, .bool false]) w := run_typeAssert_lacksB Tryz.underlying152 (by kernel_rfl) (by kernel_rfl) v _ w
theorem noUnE (v : Value) (w : World) : (Instr.typeAssert (.iface 31 v) 102 155 true).run Tryz.prog w = .ok (.tuple #[.nilIface, .bool false]) w := run_typeAssert_lacksB Tryz.underlying155 (by kernel_rfl) (by kernel_rfl) v _ w
theorem noUnsE (v : Value) (w : World) : (Instr.typeAssert (.iface 31 v) 102 157 true).run Tryz.prog w = .ok (.tuple #[.nilIface, .bool false]) w := run_typeAssert_lacksB Tryz.underlying157 (by kernel_rfl) (by kernel_rfl) v _ w
theorem hasUnB (v : Value) (w : World) : (Instr.typeAssert (.iface 131 v) 102 155 true).run Tryz.prog w = .ok (.tuple #[.iface 131 v, .bool true]) w := run_typeAssert_hasB Tryz.underlying155 (by kernel_rfl) v _ w
theorem methodUn (v : Value) (w : World) : (Go.method 155 131 v "Unwrap").run Tryz.prog w = .ok (144, v) w := by kernel_rfl
theorem eqE (a b : Int) (w : World) : (binOp .eql 102 (.iface 31 (.int .i64 a)) (.iface 31 (.int .i64 b))).run Tryz.prog w = .ok (.bool (a == b)) w := Lib.run_eql_iface_int w a b Tryz.underlying102 (by kernel_rfl) Tryz.underlying31
theorem is_nil (k : Int) (w : World) : Calls Tryz.prog 75 #[.nilIface, .iface 31 (.int .i64 k)] w fun e w' => e = .returned (.bool false) ∧ w' = w := by
  have hn := run_eql_iface_nil_left (P := Tryz.prog) w 31 (.int .i64 k) Tryz.underlying102
  go_enter Tryz.func75, Tryz.ntmps75
  go_wp2
  go_ret
  exact ⟨rfl, rfl⟩
theorem is_broken (e k : Int) (w : World) : Calls Tryz.prog 75 #[.iface 131 (.agg #[.iface 31 (.int .i64 e)]), .iface 31 (.int .i64 k)] w fun x w' => x = .returned (.bool (e == k)) ∧ Below w.heap.size w w' := by
  have h8 := @run_callFunc_extern Tryz.prog 103 _ Extern.ReflectliteType.typeOf Tryz.func103 (by kernel_rfl) (by kernel_rfl) (by kernel_rfl) (by kernel_rfl)
  have h32 := @run_callFunc_extern Tryz.prog 148 _ compFn Tryz.func148 (by kernel_rfl) (by kernel_rfl) (by kernel_rfl) (by kernel_rfl)
  have tT := isTypeOf
  have cT := isComparable
  have mR := isMethodComparable
  have n1 := noIsB
  have n2 := noIsE
  have n3 := noUnE
  have n4 := noUnsE
  have n5 := hasUnB
  have n6 := methodUn
  have hq := eqE e k
  have hty := run_eql_iface_types (P := Tryz.prog) 131 31 (.agg #[.iface 31 (.int .i64 e)]) (.int .i64 k) Tryz.underlying102 (by decide)
  cases hb : (e == k)
  · rw [hb] at hq
    go_enter Tryz.func75, Tryz.ntmps75
    go_wp2
    refine wp_loop_rounds 2 ?_
    rw [rounds_succ]
    go_wp2
    rw [rounds_succ]
    go_wp2
    go_ret
    exact ⟨rfl, by go_grown⟩
  · rw [hb] at hq
    go_enter Tryz.func75, Tryz.ntmps75
    go_wp2
    refine wp_loop_rounds 2 ?_
    rw [rounds_succ]
    go_wp2
    rw [rounds_succ]
    go_wp2
    go_ret
    exact ⟨rfl, by go_grown⟩
end Go.Proofs.YtcoogfifjibkhaaGreat
namespace Go.Proofs.YtcoogfifjibkhaaGreat
open Go Go.RowKit
set_option linter.unusedVariables false
set_option linter.unusedSimpArgs false
set_option maxRecDepth 100000
structure Stp (r r' : R2) : Prop where
  st : r'.1 = r.1
  lo : r.2 ≤ r'.2
  hi : r'.2 ≤ 8 * (r.1.size : Int)
theorem fl_st {y : Int} : ∀ (f : Nat) (r : R2) (out : List Int), (flR y f r out).2.2 = 0 → Stp r (flR y f r out).1
  | 0, r, out, h => by simp [flR] at h
  | f + 1, r, out, h => by
    by_cases e : (takeT r 2).2.2 = 0
    · have T := tk_ok e
      have b0 := T.b0
      have b1 := T.b1
      by_cases hc : y < out.length + (takeT r 2).2.1
      · rw [fl_full e hc] at h; exact absurd h (by show ¬ (23 : Int) = 0; decide)
      · rw [fl_step e hc] at h ⊢
        cases h3 : (takeT r 2).2.1 == 3
        · rw [h3] at h
          simp only [cond_false]
          rw [T.rd]
          exact ⟨rfl, by dsimp only; omega, b1⟩
        · rw [h3] at h
          simp only [cond_true] at h ⊢
          obtain ⟨q1, q2, q3⟩ := fl_st f _ _ h
          rw [T.rd] at q1 q2 q3
          dsimp only at q1 q2 q3
          rw [T.rd]
          exact ⟨q1, by omega, q3⟩
    · rw [fl_err e] at h; exact absurd h e
theorem rd_st {y : Int} : ∀ (f : Nat) (r : R2) (left : Int) (out : List Int), 0 ≤ left → left ≤ 4096 → r.2 ≤ 8 * (r.1.size : Int) → (rdR y f r left out).2.2 = 0 → Stp r (rdR y f r left out).1
  | 0, r, left, out, h0, h1, hb, h => by simp [rdR] at h
  | f + 1, r, left, out, h0, h1, hb, h => by
    by_cases hl : 0 < left
    · by_cases e : (valR r left).2.2 = 0
      · obtain ⟨r', v, hv⟩ : ∃ r' v, valR r left = (r', v, 0) := ⟨_, _, by rw [← e]⟩
        have VV := vl_ok h0 h1 hv
        have v0 := VV.v0
        have v1 := VV.v1
        have vs := VV.st
        have vb := VV.b1
        have vl := VV.bl
        cases hy : ((out.length : Int) == y)
        · by_cases hv1 : v = 1
          · subst hv1
            rw [rd_zero hl hv hy] at h ⊢
            by_cases hz : (flR y (y.toNat + 1) r' (out ++ [1 - 1])).2.2 = 0
            · rw [contZ_ok hz] at h ⊢
              obtain ⟨q1, q2, q3⟩ := fl_st _ _ _ hz
              rw [vs] at q1 q3
              obtain ⟨p1, p2, p3⟩ := rd_st f _ _ _ h0 h1 (by rw [q1]; exact q3) h
              rw [q1] at p1 p3
              exact ⟨p1, by omega, p3⟩
            · rw [contZ_err hz] at h; exact absurd h hz
          · rw [rd_step hl hv hy hv1] at h ⊢
            obtain ⟨p1, p2, p3⟩ := rd_st f _ _ _ (by omega) (by omega) (by rw [vs]; exact vb) h
            rw [vs] at p1 p3
            exact ⟨p1, by omega, p3⟩
        · rw [rd_full hl hv hy] at h; exact absurd h (by show ¬ (23 : Int) = 0; decide)
      · rw [rd_err hl e] at h; exact absurd h e
    · rw [rd_end hl]
      exact ⟨rfl, Int.le_refl _, hb⟩
theorem rdA_st {r : R2} {m y : Int} (hm : m ≤ 12) (h : (rdA r m y).2.2 = 0) : Stp r (rdA r m y).1 ∧ 0 ≤ r.2 ∧ r.1.size ≤ 1048576 := by
  by_cases e : (takeT r 4).2.2 = 0
  · have T := tk_ok e
    have b0 := T.b0
    have b1 := T.b1
    have hl := logR_in e
    by_cases hc : m < logR r
    · rw [rdA_acc e hc] at h; exact absurd h (by show ¬ (31 : Int) = 0; decide)
    · rw [rdA_go e hc] at h ⊢
      have p12 := pow12 (g := logR r) (by omega)
      have p0 := pow_pos' (logR r).toNat
      obtain ⟨q1, q2, q3⟩ := rd_st _ _ _ _ (by omega) p12 (by rw [T.rd]; exact b1) h
      rw [T.rd] at q1 q2 q3
      dsimp only at q1 q2 q3
      rw [T.rd]
      exact ⟨⟨q1, by omega, q3⟩, b0, T.sz⟩
  · rw [rdA_err e] at h; exact absurd h e
theorem next_in {r r' : R2} (h : Stp r r') (h0 : 0 ≤ r.2) (h1 : r.1.size ≤ 1048576) : 0 ≤ (nextT r').1 ∧ (nextT r').1 ≤ 1048577 := by
  have s := h.st
  have l := h.lo
  have i := h.hi
  unfold nextT
  rw [if_pos (by unfold rchk; rw [s, if_neg (by omega), if_neg (by omega)])]
  dsimp only
  omega
theorem readF_bad {w : Int} {s : ByteArray} {a m y : Int} (h : rngE s a m y = true) : readF w s a m y = ((0, []), 0, 2, 0) := by unfold readF; rw [h]; rfl
theorem readF_ok {w : Int} {s : ByteArray} {a m y : Int} (h : rngE s a m y = false) (h2 : (rdA (win s a w, 0) m y).2.2 = 0) : readF w s a m y = ((logR (win s a w, 0), (rdA (win s a w, 0) m y).2.1), a + (nextT (rdA (win s a w, 0) m y).1).1, 0, 0) := by
  have hb : ((rdA (win s a w, 0) m y).2.2 == 0) = true := by simpa using h2
  unfold readF; rw [h, hb]; rfl
theorem readF_err {w : Int} {s : ByteArray} {a m y : Int} (h : rngE s a m y = false) (h2 : (rdA (win s a w, 0) m y).2.2 ≠ 0) : readF w s a m y = ((0, []), 0, cond ((rdA (win s a w, 0) m y).2.2 == 31) 31 23, a) := by
  have hb : ((rdA (win s a w, 0) m y).2.2 == 0) = false := by simpa using h2
  unfold readF; rw [h, hb]; rfl
theorem rng_in {s : ByteArray} {a m y : Int} (h1 : ¬ a < 0) (h2 : ¬ (s.size : Int) < a) (h3 : ¬ m < 5) (h4 : ¬ 12 < m) (h5 : ¬ y < 1) (h6 : ¬ 256 < y) : rngE s a m y = false := by
  unfold rngE
  rw [decide_eq_false h1, decide_eq_false h2, decide_eq_false h3, decide_eq_false h4, decide_eq_false h5, decide_eq_false h6]; rfl
theorem rng_out {s : ByteArray} {a m y : Int} (h : a < 0 ∨ (s.size : Int) < a ∨ m < 5 ∨ 12 < m ∨ y < 1 ∨ 256 < y) : rngE s a m y = true := by
  unfold rngE
  simp only [Bool.or_eq_true, decide_eq_true_eq]
  omega
theorem win_size (s : ByteArray) (a w : Int) (h : 0 ≤ a) : (win s a w).size ≤ s.size := by
  unfold win
  rw [ByteArray.size_extract]
  omega
theorem readP_v (s : ByteArray) (a m y : Int) (hs : s.size ≤ 1000000) : readP_t s a m y := by
  unfold readP_t
  simp only [e00, n00, e23, n23, e31, n31, Bool.true_eq_false, Bool.false_eq_true, true_implies, false_implies, eq_self, true_and, and_true, and_self, gt_iff_lt, ge_iff_le, decide_eq_true_eq, decide_eq_false_iff_not, toNat_cast]
  refine ⟨fun h => by rw [readF_bad (rng_out (.inl h))]; ((repeat' (refine And.intro ?_ ?_)) <;> first | rfl | exact True.intro | omega | (rw [wr (by omega) (by omega)]; done) | (rw [wr (by omega) (by omega)]; first | rfl | omega | (simp; done))), fun h1 => ⟨fun h => by rw [readF_bad (rng_out (.inr (.inl h)))]; ((repeat' (refine And.intro ?_ ?_)) <;> first | rfl | exact True.intro | omega | (rw [wr (by omega) (by omega)]; done) | (rw [wr (by omega) (by omega)]; first | rfl | omega | (simp; done))), fun h2 => ⟨fun h => by rw [readF_bad (rng_out (.inr (.inr (.inl h))))]; ((repeat' (refine And.intro ?_ ?_)) <;> first | rfl | exact True.intro | omega | (rw [wr (by omega) (by omega)]; done) | (rw [wr (by omega) (by omega)]; first | rfl | omega | (simp; done))), fun h3 => ⟨fun h => by rw [readF_bad (rng_out (.inr (.inr (.inr (.inl h)))))]; ((repeat' (refine And.intro ?_ ?_)) <;> first | rfl | exact True.intro | omega | (rw [wr (by omega) (by omega)]; done) | (rw [wr (by omega) (by omega)]; first | rfl | omega | (simp; done))), fun h4 => ⟨fun h => by rw [readF_bad (rng_out (.inr (.inr (.inr (.inr (.inl h))))))]; ((repeat' (refine And.intro ?_ ?_)) <;> first | rfl | exact True.intro | omega | (rw [wr (by omega) (by omega)]; done) | (rw [wr (by omega) (by omega)]; first | rfl | omega | (simp; done))), fun h5 => ⟨fun h => by rw [readF_bad (rng_out (.inr (.inr (.inr (.inr (.inr h))))))]; ((repeat' (refine And.intro ?_ ?_)) <;> first | rfl | exact True.intro | omega | (rw [wr (by omega) (by omega)]; done) | (rw [wr (by omega) (by omega)]; first | rfl | omega | (simp; done))), fun h6 => ?_⟩⟩⟩⟩⟩⟩
  have hr := rng_in h1 h2 h3 h4 h5 h6
  have hw : IntKind.wrap IntKind.i64 (a + 2000) = a + 2000 := wr (by omega) (by omega)
  have hsz := win_size s a 2000 (by omega)
  have hWin : s.extract a.toNat (min (s.size : Int) (a + 2000)).toNat = win s a 2000 := rfl
  simp only [hw, hWin]
  refine ⟨by omega, by omega, by omega, fun e => ⟨by omega, by omega, by omega, by omega, ?_⟩, fun e => ⟨by omega, by omega, by omega, by omega, fun e31 => ?_, fun e31 => ?_⟩⟩
  · rw [readF_ok hr e]
    obtain ⟨S, b0, sz⟩ := rdA_st (by omega) e
    have hn := next_in S b0 sz
    refine ⟨by rw [S.st]; dsimp only; omega, ?_⟩
    have hwn : IntKind.wrap IntKind.i64 (a + (nextT (rdA (win s a 2000, 0) m y).1).1) = a + (nextT (rdA (win s a 2000, 0) m y).1).1 := wr (by omega) (by omega)
    exact ⟨rfl, rfl, hwn, rfl, rfl⟩
  · rw [readF_err hr e, e31]
    exact ⟨rfl, rfl, rfl, rfl, rfl⟩
  · rw [readF_err hr e, e31]
    exact ⟨rfl, rfl, rfl, rfl, rfl⟩
theorem tk_n31 (r : R2) (n : Int) : (takeT r n).2.2 ≠ 31 := by
  have h : takeE r.1 r.2 n ≠ 31 := by
    unfold takeE askE rchk
    repeat' split
    all_goals omega
  unfold takeT
  split
  · show (0 : Int) ≠ 31; decide
  · exact h
theorem val_n31 (r : R2) (left : Int) : (valR r left).2.2 ≠ 31 := by
  unfold valR
  cases ((takeT r (shB left - 1)).2.2 == 0)
  · exact tk_n31 _ _
  · cases decide ((takeT r (shB left - 1)).2.1 < shT left)
    · cases ((takeT (takeT r (shB left - 1)).1 1).2.2 == 0)
      · exact tk_n31 _ _
      · show (0 : Int) ≠ 31; decide
    · exact tk_n31 _ _
theorem fl_n31 {y : Int} : ∀ (f : Nat) (r : R2) (out : List Int), (flR y f r out).2.2 ≠ 31
  | 0, r, out => by simp [flR]
  | f + 1, r, out => by
    unfold flR
    cases ((takeT r 2).2.2 == 0)
    · exact tk_n31 _ _
    · cases decide (y < out.length + (takeT r 2).2.1)
      · cases ((takeT r 2).2.1 == 3)
        · simp
        · exact fl_n31 f _ _
      · simp
theorem rd_n31 {y : Int} : ∀ (f : Nat) (r : R2) (left : Int) (out : List Int), (rdR y f r left out).2.2 ≠ 31
  | 0, r, left, out => by simp [rdR]
  | f + 1, r, left, out => by
    unfold rdR
    cases decide (0 < left)
    · simp
    · cases ((valR r left).2.2 == 0)
      · exact val_n31 _ _
      · cases ((out.length : Int) == y)
        · cases ((valR r left).2.1 == 1)
          · exact rd_n31 f _ _ _
          · cases h : ((flR y (y.toNat + 1) (valR r left).1 (out ++ [(valR r left).2.1 - 1])).2.2 == 0)
            · exact fl_n31 _ _ _
            · exact rd_n31 f _ _ _
        · simp
theorem readR_v (s : ByteArray) (a m y : Int) (hs : s.size ≤ 1000000) : readR_t s a m y := by
  unfold readR_t
  simp only [e00, n00, e23, n23, e31, n31, Bool.true_eq_false, Bool.false_eq_true, true_implies, false_implies, eq_self, true_and, and_true, and_self, gt_iff_lt, ge_iff_le, decide_eq_true_eq, decide_eq_false_iff_not, toNat_cast]
  refine ⟨fun h => by rw [readF_bad (rng_out (.inl h))]; ((repeat' (refine And.intro ?_ ?_)) <;> first | rfl | exact True.intro | omega | (rw [wr (by omega) (by omega)]; done) | (rw [wr (by omega) (by omega)]; first | rfl | omega | (simp; done))), fun h1 => ⟨fun h => by rw [readF_bad (rng_out (.inr (.inl h)))]; ((repeat' (refine And.intro ?_ ?_)) <;> first | rfl | exact True.intro | omega | (rw [wr (by omega) (by omega)]; done) | (rw [wr (by omega) (by omega)]; first | rfl | omega | (simp; done))), fun h2 => ⟨fun h => by rw [readF_bad (rng_out (.inr (.inr (.inl h))))]; ((repeat' (refine And.intro ?_ ?_)) <;> first | rfl | exact True.intro | omega | (rw [wr (by omega) (by omega)]; done) | (rw [wr (by omega) (by omega)]; first | rfl | omega | (simp; done))), fun h3 => ⟨fun h => by rw [readF_bad (rng_out (.inr (.inr (.inr (.inl h)))))]; ((repeat' (refine And.intro ?_ ?_)) <;> first | rfl | exact True.intro | omega | (rw [wr (by omega) (by omega)]; done) | (rw [wr (by omega) (by omega)]; first | rfl | omega | (simp; done))), fun h4 => ⟨fun h => by rw [readF_bad (rng_out (.inr (.inr (.inr (.inr (.inl h))))))]; ((repeat' (refine And.intro ?_ ?_)) <;> first | rfl | exact True.intro | omega | (rw [wr (by omega) (by omega)]; done) | (rw [wr (by omega) (by omega)]; first | rfl | omega | (simp; done))), fun h5 => ⟨fun h => by rw [readF_bad (rng_out (.inr (.inr (.inr (.inr (.inr h))))))]; ((repeat' (refine And.intro ?_ ?_)) <;> first | rfl | exact True.intro | omega | (rw [wr (by omega) (by omega)]; done) | (rw [wr (by omega) (by omega)]; first | rfl | omega | (simp; done))), fun h6 => ?_⟩⟩⟩⟩⟩⟩
  have hr := rng_in h1 h2 h3 h4 h5 h6
  have hw : IntKind.wrap IntKind.i64 (a + 600) = a + 600 := wr (by omega) (by omega)
  have hsz := win_size s a 600 (by omega)
  have hWin : s.extract a.toNat (min (s.size : Int) (a + 600)).toNat = win s a 600 := rfl
  simp only [hw, hWin]
  refine ⟨by omega, by omega, by omega, fun e => ⟨by omega, ?_⟩, fun e => ⟨by omega, ?_⟩⟩
  · have hl := logR_in e
    have hlw : IntKind.wrap IntKind.i64 (5 + (takeT (win s a 600, 0) 4).2.1) = logR (win s a 600, 0) := by
      rw [Int.add_comm]
      exact wr (n := logR (win s a 600, 0)) (by omega) (by omega)
    simp only [hlw]
    refine ⟨fun hc => ?_, fun hc => ?_⟩
    · have ha := rdA_acc (y := y) e hc
      rw [readF_err hr (by rw [ha]; show (31 : Int) ≠ 0; decide), ha]
      exact ⟨rfl, rfl, rfl, rfl, rfl⟩
    · have ha := rdA_go (y := y) e hc
      have hu : IntKind.wrap IntKind.u64 (logR (win s a 600, 0)) = logR (win s a 600, 0) := wru (by omega) (by omega)
      simp only [hu, shl1 (g := logR (win s a 600, 0)) (by omega) (by omega), mk_eta]
      have T := tk_ok e
      have t1 : (takeT (win s a 600, 0) 4).1.1 = win s a 600 := by rw [T.rd]
      have t2 : (takeT (win s a 600, 0) 4).1.2 = 4 := by rw [T.rd]; rfl
      have p12 := pow12 (g := logR (win s a 600, 0)) (by omega)
      have p0 := pow_pos' (logR (win s a 600, 0)).toNat
      refine ⟨by omega, fun h0 => ⟨by rw [t1]; omega, by omega, by omega, by omega, by omega, by omega, by omega, ?_⟩, fun h0 => ⟨by rw [t1]; omega, by omega, by omega, by omega, by omega, by omega, by omega, ?_⟩⟩
      · rw [← ha] at h0 ⊢
        rw [readF_ok hr h0]
        obtain ⟨S, b0, sz⟩ := rdA_st (by omega) h0
        have hn := next_in S b0 sz
        refine ⟨by rw [S.st]; dsimp only; omega, ?_⟩
        have hwn : IntKind.wrap IntKind.i64 (a + (nextT (rdA (win s a 600, 0) m y).1).1) = a + (nextT (rdA (win s a 600, 0) m y).1).1 := wr (by omega) (by omega)
        exact ⟨rfl, rfl, hwn, rfl, rfl⟩
      · have h31 : ((rdA (win s a 600, 0) m y).2.2 == 31) = false := by rw [ha]; simpa using rd_n31 _ _ _ _
        rw [← ha] at h0
        rw [readF_err hr h0, h31]
        exact ⟨rfl, rfl, rfl, rfl, rfl⟩
  · have ha := rdA_err (m := m) (y := y) e
    have h31 : ((rdA (win s a 600, 0) m y).2.2 == 31) = false := by rw [ha]; simpa using tk_n31 _ _
    rw [readF_err hr (by rw [ha]; exact e), h31]
    exact ⟨rfl, rfl, rfl, rfl, rfl⟩
end Go.Proofs.YtcoogfifjibkhaaGreat
namespace Go.Proofs.YtcoogfifjibkhaaGreat
open Go Go.RowKit
set_option linter.unusedVariables false
set_option linter.unusedSimpArgs false
set_option maxRecDepth 100000
def szN (g : Int) : Nat := 2 ^ g.toNat
theorem szI (g : Int) : (szN g : Int) = 2 ^ g.toNat := by simp [szN]
theorem beq0 {a : Int} (h : a = 0) : (a == 0) = true := by rw [h]; rfl
theorem nz {a : Int} (h : (a != (0 : Int)) = true) : a ≠ 0 := by simpa using h
theorem cnt_wrap {i : Nat} (h : i ≤ 100000) : IntKind.wrap IntKind.i64 ((i : Int) + 1) = ((i + 1 : Nat) : Int) := by rw [wr (by omega) (by omega)]; push_cast; rfl
theorem sz_wrap {g : Int} (h1 : 5 ≤ g) (h2 : g ≤ 12) : IntKind.wrap IntKind.i64 ((1 : Int) * (2 : Int) ^ min (Int.toNat g) (IntKind.bits IntKind.i64)) = (szN g : Int) := by
  rw [shl1 (by omega) (by omega), szI]
theorem wu {g : Int} (h1 : 5 ≤ g) (h2 : g ≤ 12) : IntKind.wrap IntKind.u64 g = g := wru (by omega) (by omega)
theorem cnt_wrap64 {i : Nat} (h : i ≤ 4294967296) : IntKind.wrap IntKind.i64 ((i : Int) + 1) = ((i + 1 : Nat) : Int) := by rw [wr (by omega) (by omega)]; push_cast; rfl
structure DOk (g : Int) (l : List Int) : Prop where
  g5 : 5 ≤ g
  g12 : g ≤ 12
  n1 : 1 ≤ l.length
  n2 : l.length ≤ 256
  lo : ∀ x ∈ l, -1 ≤ x
  last : l.getD (l.length - 1) 0 ≠ 0
  sum : pts l = 2 ^ g.toNat
theorem dchk0 {g : Int} {l : List Int} (h : dchk g l = 0) : DOk g l := by
  unfold dchk at h
  cases h1 : decide (g < 5) || decide (12 < g)
  · rw [h1, cond_false] at h
    simp only [Bool.or_eq_false_iff, decide_eq_false_iff_not] at h1
    cases h2 : dbad g l
    · unfold dbad at h2
      simp only [Bool.or_eq_false_iff, decide_eq_false_iff_not, Bool.not_eq_false', beq_iff_eq, beq_eq_false_iff_ne, List.any_eq_false, decide_eq_true_eq] at h2
      obtain ⟨⟨⟨⟨k1, k2⟩, k3⟩, k4⟩, k5⟩ := h2
      exact ⟨by omega, by omega, by omega, by omega, fun x hx => by have := k4 x hx; omega, k3, k5⟩
    · rw [h2] at h; cases h
  · rw [h1] at h; cases h
theorem dchk0' {g : Int} {l : List Int} (h : DOk g l) : dchk g l = 0 := by
  unfold dchk
  rw [decide_eq_false (by have := h.g5; omega), decide_eq_false (by have := h.g12; omega), Bool.or_false, cond_false]
  have : dbad g l = false := by
    unfold dbad
    simp only [Bool.or_eq_false_iff, decide_eq_false_iff_not, Bool.not_eq_false', beq_iff_eq, beq_eq_false_iff_ne, List.any_eq_false, decide_eq_true_eq]
    exact ⟨⟨⟨⟨by have := h.n1; omega, by have := h.n2; omega⟩, h.last⟩, fun x hx => by have := h.lo x hx; omega⟩, h.sum⟩
  rw [this]
  rfl
theorem getD_set' {l : List Int} {i j : Nat} {x : Int} (P : Int → Prop) (h0 : P 0) (hx : P x) (hl : ∀ j, P (l.getD j 0)) : P ((l.set i x).getD j 0) := by
  rw [List.getD_eq_getElem?_getD, List.getElem?_set]
  split
  · split
    · exact hx
    · exact h0
  · have := hl j
    rw [List.getD_eq_getElem?_getD] at this
    exact this
theorem hiI_pos {n : Int} (h : 0 < n) : hiI n = (Nat.log2 n.toNat : Nat) := by
  unfold hiI
  rw [decide_eq_false (by omega)]
  rfl
theorem hi_bd {y : Int} (h : 1 ≤ y) : 0 ≤ hiI y ∧ 2 ^ (hiI y).toNat ≤ y ∧ y < 2 ^ ((hiI y).toNat + 1) := by
  rw [hiI_pos (by omega), toNat_cast]
  obtain ⟨n, rfl⟩ := Int.eq_ofNat_of_zero_le (show 0 ≤ y by omega)
  rw [toNat_cast]
  have h1 := Nat.log2_self_le (n := n) (by omega)
  have h2 := Nat.lt_log2_self (n := n)
  refine ⟨by omega, ?_, ?_⟩
  · exact_mod_cast h1
  · exact_mod_cast h2
theorem pow_lt_of {a b : Nat} (h : (2 : Int) ^ a < 2 ^ b) : a < b := by
  rcases Nat.lt_or_ge a b with h1 | h1
  · exact h1
  · have := pow_mono h1; omega
theorem pt_one {x : Int} (h0 : -1 ≤ x) (h : x ≠ 0) : 1 ≤ pt x := by
  unfold pt
  by_cases h1 : x < 0
  · rw [decide_eq_true h1]; exact Int.le_refl _
  · rw [decide_eq_false h1]; simp only [cond_false]; omega
theorem getD_setj {l : List Int} {j : Nat} (h : j < l.length) (x : Int) : (l.set j x).getD j 0 = x := by
  rw [List.getD_eq_getElem?_getD, List.getElem?_set_self h]
  rfl
theorem getD_setn {l : List Int} {i j : Nat} (h : i ≠ j) (x : Int) : (l.set i x).getD j 0 = l.getD j 0 := by
  rw [List.getD_eq_getElem?_getD, List.getElem?_set_ne h, List.getD_eq_getElem?_getD]
end Go.Proofs.YtcoogfifjibkhaaGreat
namespace Go.Proofs.YtcoogfifjibkhaaGreat
open Go
set_option linter.unusedVariables false
set_option maxRecDepth 100000
def sumI : List Int → Int
  | [] => 0
  | x :: r => x + sumI r
def okN (l : List Int) : Bool := l.all (fun x => decide (0 ≤ x)) && decide (l.length ≤ 256) && decide (sumI l ≤ 1099511627776)
def occL (s : Nat) : List Int → List (Nat × Int)
  | [] => []
  | x :: r => cond (decide (0 < x)) ((s, x) :: occL (s + 1) r) (occL (s + 1) r)
def ocT (l : List Int) (i : Nat) : Nat × Int := (occL 0 l).getD i (0, 0)
def ocS (l : List Int) (i : Nat) : Int := ((ocT l i).1 : Nat)
def ocN (l : List Int) (i : Nat) : Int := (ocT l i).2
def ocM (l : List Int) : Nat := (occL 0 l).length
def ocC (l : List Int) (i : Nat) : Nat := (occL 0 (l.take i)).length
def itOc (l : List Int) : List (List Value) := (List.range (ocM l)).map fun i => [.int .i64 (ocS l i), .int .i64 (ocN l i)]
def laP (l : List Int) : Nat → Int
  | 0 => -1
  | i + 1 => ocS l i
def laI (l : List Int) : Int := cond (Nat.beq (ocM l) 0) 0 (ocS l (ocM l - 1))
def laE (l : List Int) : Int := cond (Nat.beq (ocM l) 0) 7 0
def ckT (l : List Int) : Int := cond (Nat.beq (ocM l) 0) 0 (sumI l)
def grI (l : List Int) : Nat → Nat
  | 0 => 0
  | i + 1 => cond (decide (l.getD (grI l i) 0 < l.getD i 0)) i (grI l i)
def grA (l : List Int) : Nat := grI l l.length
def wiQ (l : List Int) (g : Int) (i : Nat) : Int := (ocN l i * 2 ^ g.toNat).tdiv (sumI l)
def wiV (l : List Int) (g : Int) (i : Nat) : Int := cond (wiQ l g i == 0) (-1) (wiQ l g i)
def wiZ (l : List Int) : List Int := List.replicate (laI l + 1).toNat 0
def wiA (l : List Int) (g : Int) : Nat → List Int × Int
  | 0 => (wiZ l, 2 ^ g.toNat)
  | i + 1 => ((wiA l g i).1.set (ocS l i).toNat (wiV l g i), (wiA l g i).2 - pt (wiV l g i))
def wiAL (l : List Int) (g : Int) (i : Nat) : List Int := (wiA l g i).1
def wiAn (l : List Int) (g : Int) (i : Nat) : Int := (wiA l g i).2
def wiB (l : List Int) (g : Int) : List Int := cond (decide (0 < wiAn l g (ocM l))) ((wiAL l g (ocM l)).set (grA l) (pt ((wiAL l g (ocM l)).getD (grA l) 0) + wiAn l g (ocM l))) (wiAL l g (ocM l))
def wiN (l : List Int) (g : Int) : Int := cond (decide (0 < wiAn l g (ocM l))) 0 (wiAn l g (ocM l))
def decL1 (p : List Int) : List Int := p.set (grA p) (p.getD (grA p) 0 - 1)
def wiD (l : List Int) (g : Int) : Nat → List Int
  | 0 => wiB l g
  | k + 1 => decL1 (wiD l g k)
def wiK (l : List Int) (g : Int) : Nat := (0 - wiN l g).toNat
def wiE (l : List Int) (g : Int) : Int := cond (Nat.beq (ocM l) 0) 7 (cond (decide (g < 5) || decide (12 < g)) 31 (cond (decide (2 ^ g.toNat < (ocM l : Int))) 2 0))
def wiG (l : List Int) (g : Int) : Int := cond (wiE l g == 0) g 0
def wiP (l : List Int) (g : Int) : List Int := cond (wiE l g == 0) (wiD l g (wiK l g)) []
def okA (l : List Int) : Bool := l.all (fun x => decide (0 ≤ x) && decide (x ≤ 1099511627776)) && decide (sumI l ≤ 1099511627776)
def suA (l : List Int) : Int := cond (okA l) (sumI l) 0
def chA (l : List Int) : Int := cond (decide (256 < l.length)) 6 (cond (okA l) 0 2)
end Go.Proofs.YtcoogfifjibkhaaGreat
namespace Go.Proofs.YtcoogfifjibkhaaGreat
open Go Go.RowKit
set_option linter.unusedVariables false
set_option linter.unusedSimpArgs false
set_option maxRecDepth 100000
theorem is0_sound : Sound Tryz.prog 75 sIs0.ctr := sIs0.sound (by kernel_rfl) sIs0_enc fun k _ => sat_of_calls (fun w => (is_nil k w).mono fun e w' h => by
  obtain ⟨h, rfl⟩ := h
  exact ⟨h, Below.refl _ _⟩) rfl rfl
theorem is1_sound : Sound Tryz.prog 75 sIs1.ctr := sIs1.sound (by kernel_rfl) sIs1_enc fun ⟨e, k⟩ _ => sat_of_calls (fun w => is_broken e k w) rfl rfl
theorem rprobs_sound : Sound Tryz.prog 78 sRProbs.ctr := sRProbs.sound (by kernel_rfl) sRProbs_enc fun ⟨g, y, s, b⟩ hc => by
  have h0 := hc _ (.head _)
  have h1 := hc _ (.tail _ (.head _))
  have h2 := hc _ (.tail _ (.tail _ (.head _)))
  have h3 := hc _ (.tail _ (.tail _ (.tail _ (.head _))))
  have h4 := hc _ (.tail _ (.tail _ (.tail _ (.tail _ (.head _)))))
  have h5 := hc _ (.tail _ (.tail _ (.tail _ (.tail _ (.tail _ (.head _))))))
  have h6 := hc _ (.tail _ (.tail _ (.tail _ (.tail _ (.tail _ (.tail _ (.head _)))))))
  exact satG G8l_ok mixed Tryz.func78 (rprobs_e g y s b) (rprobs_v g y s b h0 h1 h2 h3 h4 h5 h6)
theorem G8m_ok : AllOk Tryz.prog G8m := .cons (orC_sound is0_sound is1_sound) <| .cons rprobs_sound <| G8l_ok
theorem readP_sound : Sound Tryz.prog 46 sReadP.ctr := sReadP.sound (by kernel_rfl) sReadP_enc fun ⟨s, a, m, y⟩ hc => by
  have h0 := hc _ (.head _)
  exact satG G8m_ok mixed Tryz.func46 (readP_e s a m y) (readP_v s a m y h0)
theorem readR_sound : Sound Tryz.prog 48 sReadR.ctr := sReadR.sound (by kernel_rfl) sReadR_enc fun ⟨s, a, m, y⟩ hc => by
  have h0 := hc _ (.head _)
  exact satG G8m_ok mixed Tryz.func48 (readR_e s a m y) (readR_v s a m y h0)
theorem G8n_ok : AllOk Tryz.prog G8n := .cons readP_sound <| .cons readR_sound <| G8m_ok
structure Pfx (T S : ByteArray) : Prop where
  bs : ∃ l : List UInt8, S.data.toList = T.data.toList ++ l
  sz : S.size ≤ 1048576
  le : T.size ≤ S.size
theorem size_dl (T : ByteArray) : T.data.toList.length = T.size := by cases T; rfl
theorem peek_pfx {T S : ByteArray} (h : Pfx T S) {b n : Nat} (hb : b + n ≤ 8 * T.size) : peekN S b n = peekN T b n := by
  obtain ⟨l, hl⟩ := h.bs
  unfold peekN
  rw [hl, leN_append, size_dl]
  have e : (256 : Nat) ^ T.size = 2 ^ b * (2 ^ n * 2 ^ (8 * T.size - b - n)) := by
    rw [← Nat.pow_add, ← Nat.pow_add, show b + (n + (8 * T.size - b - n)) = 8 * T.size by omega, Nat.pow_mul]
  rw [e, Nat.mul_assoc, Nat.add_mul_div_left _ _ (Nat.two_pow_pos b), Nat.mul_assoc, Nat.add_mul_mod_self_left]
theorem tk_pfx {T S : ByteArray} (h : Pfx T S) {b n : Int} (h0 : 0 ≤ b) (h1 : 0 ≤ n) (h2 : n ≤ 32) (h3 : b + n ≤ 8 * (T.size : Int)) :
    takeT (S, b) n = ((S, b + n), ((peekN T b.toNat n.toNat : Nat) : Int), 0) ∧ takeT (T, b) n = ((T, b + n), ((peekN T b.toNat n.toNat : Nat) : Int), 0) := by
  have hs := h.sz
  have hl := h.le
  constructor
  · rw [tk_mk (r := (S, b)) hs h0 h1 h2 (by dsimp only; omega)]
    dsimp only
    rw [peek_pfx h (by omega)]
  · exact tk_mk (r := (T, b)) (by dsimp only; omega) h0 h1 h2 h3
theorem val_pfx {T S : ByteArray} (h : Pfx T S) {b left : Int} (h0 : 0 ≤ b) (l0 : 0 ≤ left) (l1 : left ≤ 4096) (h3 : b + 13 ≤ 8 * (T.size : Int)) :
    ∃ b' v, valR (S, b) left = ((S, b'), v, 0) ∧ valR (T, b) left = ((T, b'), v, 0) ∧ b ≤ b' ∧ b' ≤ b + 13 ∧ 0 ≤ v ∧ v ≤ left + 1 := by
  have H := shB_ok l0 l1
  have s1 := H.b1
  have s2 := H.b2
  obtain ⟨t1, t2⟩ := tk_pfx h h0 (n := shB left - 1) (by omega) (by omega) (by omega)
  obtain ⟨u1, u2⟩ := tk_pfx h (b := b + (shB left - 1)) (n := 1) (by omega) (by omega) (by omega) (by omega)
  have a1 : (takeT (S, b) (shB left - 1)).2.2 = 0 := by rw [t1]
  have a2 : (takeT (T, b) (shB left - 1)).2.2 = 0 := by rw [t2]
  by_cases c : ((peekN T b.toNat (shB left - 1).toNat : Nat) : Int) < shT left
  · have e1 := val_2 (r := (S, b)) a1 (by rw [t1]; exact c)
    have e2 := val_2 (r := (T, b)) a2 (by rw [t2]; exact c)
    rw [t1] at e1
    rw [t2] at e2
    have V := vl_ok l0 l1 e1
    have V0 := V.v0
    have V1 := V.v1
    exact ⟨_, _, e1, e2, by omega, by omega, V0, V1⟩
  · have e1 := val_4 (r := (S, b)) a1 (by rw [t1]; exact c) (by rw [t1]; dsimp only; rw [u1])
    have e2 := val_4 (r := (T, b)) a2 (by rw [t2]; exact c) (by rw [t2]; dsimp only; rw [u2])
    rw [t1] at e1
    rw [t2] at e2
    dsimp only at e1 e2
    rw [u1] at e1
    rw [u2] at e2
    have V := vl_ok l0 l1 e1
    have V0 := V.v0
    have V1 := V.v1
    exact ⟨_, _, e1, e2, by omega, by omega, V0, V1⟩
theorem fl_pfx {T S : ByteArray} (h : Pfx T S) (hT : 500 ≤ T.size) {y : Int} (hy : y ≤ 256) : ∀ (f : Nat) (b : Int) (out : List Int), 0 ≤ b → b + 2 ≤ 4 + 15 * (out.length : Int) → (out.length : Int) ≤ y →
    ∃ b' out' e, flR y f (S, b) out = ((S, b'), out', e) ∧ flR y f (T, b) out = ((T, b'), out', e) ∧ (e = 0 → 0 ≤ b' ∧ b' ≤ 4 + 15 * (out'.length : Int) ∧ (out'.length : Int) ≤ y ∧ out.length ≤ out'.length)
  | 0, b, out, h0, hb, hl => ⟨b, out, 23, rfl, rfl, fun e => absurd e (by decide)⟩
  | f + 1, b, out, h0, hb, hl => by
    obtain ⟨t1, t2⟩ := tk_pfx h h0 (n := 2) (by omega) (by omega) (by omega)
    have pl := peekN_lt T b.toNat (2 : Int).toNat
    have p2 : (2 : Nat) ^ (2 : Int).toNat = 4 := rfl
    have a1 : (takeT (S, b) 2).2.2 = 0 := by rw [t1]
    have a2 : (takeT (T, b) 2).2.2 = 0 := by rw [t2]
    generalize hv : peekN T b.toNat (2 : Int).toNat = v at t1 t2 pl
    by_cases c : y < out.length + (v : Int)
    · exact ⟨b, out, 23, fl_full a1 (by rw [t1]; exact c), fl_full a2 (by rw [t2]; exact c), fun e => absurd e (by decide)⟩
    · have e1 := fl_step (f := f) a1 (by rw [t1]; exact c)
      have e2 := fl_step (f := f) a2 (by rw [t2]; exact c)
      rw [t1] at e1
      rw [t2] at e2
      dsimp only at e1 e2
      have hlen : ((out ++ List.replicate (v : Int).toNat 0).length : Int) = out.length + v := by simp
      cases h3 : ((v : Int) == 3)
      · rw [h3] at e1 e2
        exact ⟨b + 2, _, 0, e1, e2, fun _ => ⟨by omega, by omega, by omega, by simp⟩⟩
      · rw [h3] at e1 e2
        have v3 : v = 3 := by have := eq_of_beq h3; omega
        obtain ⟨b', out', e, q1, q2, q3⟩ := fl_pfx h hT hy f (b + 2) (out ++ List.replicate (v : Int).toNat 0) (by omega) (by omega) (by omega)
        refine ⟨b', out', e, by rw [e1]; exact q1, by rw [e2]; exact q2, fun e0 => ?_⟩
        obtain ⟨k1, k2, k3, k4⟩ := q3 e0
        exact ⟨k1, k2, k3, by omega⟩
theorem rd_pfx {T S : ByteArray} (h : Pfx T S) (hT : 600 ≤ T.size) {y : Int} (hy : y ≤ 256) : ∀ (f : Nat) (b left : Int) (out : List Int), 0 ≤ b → b ≤ 4 + 15 * (out.length : Int) → (out.length : Int) ≤ y → 0 ≤ left → left ≤ 4096 →
    ∃ b' out' e, rdR y f (S, b) left out = ((S, b'), out', e) ∧ rdR y f (T, b) left out = ((T, b'), out', e) ∧ (e = 0 → 0 ≤ b' ∧ b' ≤ 4 + 15 * (out'.length : Int) ∧ (out'.length : Int) ≤ y)
  | 0, b, left, out, h0, hb, hl, l0, l1 => ⟨b, out, 23, rfl, rfl, fun e => absurd e (by decide)⟩
  | f + 1, b, left, out, h0, hb, hl, l0, l1 => by
    by_cases hp : 0 < left
    · obtain ⟨b1, v, e1, e2, b2, b3, v0, v1⟩ := val_pfx h h0 l0 l1 (by omega)
      cases hy1 : ((out.length : Int) == y)
      · have hne : (out.length : Int) ≠ y := by simpa using hy1
        have hlen : ((out ++ [v - 1]).length : Int) = out.length + 1 := by simp
        by_cases hv1 : v = 1
        · subst hv1
          rw [rd_zero hp e1 hy1, rd_zero hp e2 hy1]
          obtain ⟨b', out', e, q1, q2, q3⟩ := fl_pfx h (by omega) hy (y.toNat + 1) b1 (out ++ [1 - 1]) (by omega) (by omega) (by omega)
          rw [q1, q2]
          by_cases e0 : e = 0
          · obtain ⟨k1, k2, k3, k4⟩ := q3 e0
            rw [contZ_ok (by exact e0), contZ_ok (by exact e0)]
            exact rd_pfx h hT hy f b' left out' k1 k2 k3 l0 l1
          · rw [contZ_err (by exact e0), contZ_err (by exact e0)]
            exact ⟨b', out', e, rfl, rfl, fun e1 => absurd e1 e0⟩
        · rw [rd_step hp e1 hy1 hv1, rd_step hp e2 hy1 hv1]
          exact rd_pfx h hT hy f b1 (left - max (v - 1) 1) (out ++ [v - 1]) (by omega) (by omega) (by omega) (by omega) (by omega)
      · rw [rd_full hp e1 hy1, rd_full hp e2 hy1]
        exact ⟨b, out, 23, rfl, rfl, fun e => absurd e (by decide)⟩
    · rw [rd_end hp, rd_end hp]
      exact ⟨b, out, 0, rfl, rfl, fun _ => ⟨h0, hb, hl⟩⟩
theorem rdA_pfx {T S : ByteArray} (h : Pfx T S) (hT : 600 ≤ T.size) {m y : Int} (hm : m ≤ 12) (hy1 : 1 ≤ y) (hy : y ≤ 256) :
    logR (S, 0) = logR (T, 0) ∧ ∃ b' out' e, rdA (S, 0) m y = ((S, b'), out', e) ∧ rdA (T, 0) m y = ((T, b'), out', e) ∧ (e = 0 → 0 ≤ b' ∧ b' ≤ 4800) := by
  obtain ⟨t1, t2⟩ := tk_pfx h (b := 0) (n := 4) (by omega) (by omega) (by omega) (by omega)
  have a1 : (takeT (S, 0) 4).2.2 = 0 := by rw [t1]
  have a2 : (takeT (T, 0) 4).2.2 = 0 := by rw [t2]
  have hl : logR (S, 0) = logR (T, 0) := by unfold logR; rw [t1, t2]
  refine ⟨hl, ?_⟩
  by_cases c : m < logR (S, 0)
  · exact ⟨0, [], 31, rdA_acc a1 c, rdA_acc a2 (by rw [← hl]; exact c), fun e => absurd e (by decide)⟩
  · rw [rdA_go a1 c, rdA_go a2 (by rw [← hl]; exact c), ← hl, t1, t2]
    have p12 := pow12 (g := logR (S, 0)) (by omega)
    have p0 := pow_pos' (logR (S, 0)).toNat
    obtain ⟨b', out', e, q1, q2, q3⟩ := rd_pfx h hT hy (y.toNat + 1) (0 + 4) (2 ^ (logR (S, 0)).toNat) [] (by omega) (by simp) (by simpa using (by omega : (0 : Int) ≤ y)) (by omega) p12
    refine ⟨b', out', e, q1, q2, fun e0 => ?_⟩
    obtain ⟨k1, k2, k3⟩ := q3 e0
    exact ⟨k1, by omega⟩
theorem next_pfx {T S : ByteArray} (h : Pfx T S) (hT : 600 ≤ T.size) {b : Int} (h0 : 0 ≤ b) (h1 : b ≤ 4800) : nextT (S, b) = nextT (T, b) := by
  have hs := h.sz
  have hl := h.le
  unfold nextT
  have r1 : rchk S b = 0 := rchk_mk hs h0 (by omega)
  have r2 : rchk T b = 0 := rchk_mk (by omega) h0 (by omega)
  dsimp only
  rw [if_pos r1, if_pos r2]
theorem win_pfx (s : ByteArray) (a : Int) (hs : s.size ≤ 700) (h0 : 0 ≤ a) (h1 : a ≤ s.size) : win s a 2000 = win s a 600 ∨ (Pfx (win s a 600) (win s a 2000) ∧ 600 ≤ (win s a 600).size) := by
  by_cases c : (s.size : Int) ≤ a + 600
  · left
    unfold win
    rw [Int.min_eq_left c, Int.min_eq_left (by omega)]
  · right
    have z1 : (win s a 600).size = 600 := by
      unfold win
      rw [ByteArray.size_extract]
      omega
    have z2 : (win s a 2000).size = s.size - a.toNat := by
      unfold win
      rw [ByteArray.size_extract]
      omega
    refine ⟨⟨?_, by omega, by omega⟩, by omega⟩
    refine ⟨(s.extract (a.toNat + 600) s.size).data.toList, ?_⟩
    have e1 : (min (s.size : Int) (a + 2000)).toNat = s.size := by omega
    have e2 : (min (s.size : Int) (a + 600)).toNat = a.toNat + 600 := by omega
    unfold win
    rw [e1, e2, ← Array.toList_append, ← ByteArray.data_append, ByteArray.extract_append_extract]
    rw [Nat.min_eq_left (by omega), Nat.max_eq_right (by omega)]
theorem readF_win (s : ByteArray) (a m y : Int) (hs : s.size ≤ 700) : readF 2000 s a m y = readF 600 s a m y := by
  cases hr : rngE s a m y
  · have hr' := hr
    unfold rngE at hr'
    simp only [Bool.or_eq_false_iff, decide_eq_false_iff_not] at hr'
    obtain ⟨⟨⟨⟨⟨h1, h2⟩, h3⟩, h4⟩, h5⟩, h6⟩ := hr'
    rcases win_pfx s a hs (by omega) (by omega) with hw | ⟨hp, hT⟩
    · unfold readF
      rw [hw]
    · obtain ⟨hl, b', out', e, q1, q2, q3⟩ := rdA_pfx hp hT (m := m) (y := y) (by omega) (by omega) (by omega)
      by_cases e0 : e = 0
      · obtain ⟨k1, k2⟩ := q3 e0
        rw [readF_ok hr (by rw [q1]; exact e0), readF_ok hr (by rw [q2]; exact e0), q1, q2, hl, next_pfx hp hT k1 k2]
      · rw [readF_err hr (by rw [q1]; exact e0), readF_err hr (by rw [q2]; exact e0), q1, q2]
  · rw [readF_bad hr, readF_bad hr]
theorem fl_len {y : Int} : ∀ (f : Nat) (r : R2) (out : List Int), (flR y f r out).2.2 = 0 → ((flR y f r out).2.1.length : Int) ≤ y
  | 0, r, out, h => by simp [flR] at h
  | f + 1, r, out, h => by
    by_cases e : (takeT r 2).2.2 = 0
    · have v0 := (tk_ok e).v0
      by_cases hc : y < out.length + (takeT r 2).2.1
      · rw [fl_full e hc] at h; exact absurd h (by show ¬ (23 : Int) = 0; decide)
      · rw [fl_step e hc] at h ⊢
        cases h3 : (takeT r 2).2.1 == 3
        · simp only [cond_false, List.length_append, List.length_replicate]
          omega
        · rw [h3] at h
          exact fl_len f _ _ h
    · rw [fl_err e] at h; exact absurd h e
theorem rd_len {y : Int} : ∀ (f : Nat) (r : R2) (left : Int) (out : List Int), 0 ≤ left → left ≤ 4096 → (out.length : Int) ≤ y → (rdR y f r left out).2.2 = 0 → ((rdR y f r left out).2.1.length : Int) ≤ y
  | 0, r, left, out, l0, l1, ho, h => by simp [rdR] at h
  | f + 1, r, left, out, l0, l1, ho, h => by
    by_cases hl : 0 < left
    · by_cases e : (valR r left).2.2 = 0
      · obtain ⟨r', v, hv⟩ : ∃ r' v, valR r left = (r', v, 0) := ⟨_, _, by rw [← e]⟩
        have VV := vl_ok l0 l1 hv
        have v0 := VV.v0
        have v1 := VV.v1
        cases hy : ((out.length : Int) == y)
        · have hne : (out.length : Int) ≠ y := by simpa using hy
          by_cases hv1 : v = 1
          · subst hv1
            rw [rd_zero hl hv hy] at h ⊢
            by_cases hz : (flR y (y.toNat + 1) r' (out ++ [1 - 1])).2.2 = 0
            · rw [contZ_ok hz] at h ⊢
              exact rd_len f _ _ _ l0 l1 (fl_len _ _ _ hz) h
            · rw [contZ_err hz] at h; exact absurd h hz
          · rw [rd_step hl hv hy hv1] at h ⊢
            exact rd_len f _ _ _ (by omega) (by omega) (by simp only [List.length_append, List.length_singleton]; omega) h
        · rw [rd_full hl hv hy] at h; exact absurd h (by show ¬ (23 : Int) = 0; decide)
      · rw [rd_err hl e] at h; exact absurd h e
    · rw [rd_end hl]; exact ho
theorem rdA_len {r : R2} {m y : Int} (hm : m ≤ 12) (hy : 1 ≤ y) (h : (rdA r m y).2.2 = 0) : ((rdA r m y).2.1.length : Int) ≤ y := by
  by_cases e : (takeT r 4).2.2 = 0
  · by_cases hc : m < logR r
    · rw [rdA_acc e hc] at h; exact absurd h (by show ¬ (31 : Int) = 0; decide)
    · rw [rdA_go e hc] at h ⊢
      have hl := logR_in e
      have p12 := pow12 (g := logR r) (by omega)
      have p0 := pow_pos' (logR r).toNat
      exact rd_len _ _ _ _ (by omega) p12 (by simpa using (by omega : (0 : Int) ≤ y)) h
  · rw [rdA_err e] at h; exact absurd h e
theorem readF_len (w : Int) (s : ByteArray) (a m y : Int) : (readF w s a m y).1.2.length ≤ 4294967296 := by
  cases hr : rngE s a m y
  · have hr' := hr
    unfold rngE at hr'
    simp only [Bool.or_eq_false_iff, decide_eq_false_iff_not] at hr'
    obtain ⟨⟨⟨⟨⟨h1, h2⟩, h3⟩, h4⟩, h5⟩, h6⟩ := hr'
    by_cases e : (rdA (win s a w, 0) m y).2.2 = 0
    · rw [readF_ok hr e]
      have := rdA_len (by omega) (by omega) e
      dsimp only
      omega
    · rw [readF_err hr e]
      simp
  · rw [readF_bad hr]
    simp
end Go.Proofs.YtcoogfifjibkhaaGreat
namespace Go.Proofs.YtcoogfifjibkhaaGreat
open Go Go.RowKit
set_option linter.unusedVariables false
set_option linter.unusedSimpArgs false
set_option maxRecDepth 100000
def sSum : Spec where
  ι := List Int
  dec l H := match l with
    | [.dat (.ints .i64 l)] => some (l, [])
    | _ => none
  args := fun l => [.dat (.ints .i64 l)]
  pre := fun l => [⟨okN l = true, inferInstance⟩]
  out := fun l => .leaf (.tu [.v (.int .i64 (sumI l)), .v (.bool true)]) []
theorem sSum_enc : ∀ l H n i ls, sSum.dec l H = some (i, ls) → l = renL (rho ls n) (sSum.args i) ∧ givenHp H ls = renH (rho ls n) (sSum.hp i) := by
  intro l H n i ls h
  simp only [sSum] at h
  repeat' split at h
  all_goals first
    | (cases h; done)
    | (cases h; exact ⟨rfl, rfl⟩)
def sCck : Spec where
  ι := List Int
  dec l H := match l with
    | [.dat (.ints .i64 l)] => some (l, [])
    | _ => none
  args := fun l => [.dat (.ints .i64 l)]
  pre := fun l => [⟨okN l = true, inferInstance⟩]
  out := fun l => .leaf (.v (.int .i64 0)) []
theorem sCck_enc : ∀ l H n i ls, sCck.dec l H = some (i, ls) → l = renL (rho ls n) (sCck.args i) ∧ givenHp H ls = renH (rho ls n) (sCck.hp i) := by
  intro l H n i ls h
  simp only [sCck] at h
  repeat' split at h
  all_goals first
    | (cases h; done)
    | (cases h; exact ⟨rfl, rfl⟩)
def sTot : Spec where
  ι := List Int
  dec l H := match l with
    | [.dat (.ints .i64 l)] => some (l, [])
    | _ => none
  args := fun l => [.dat (.ints .i64 l)]
  pre := fun l => [⟨okN l = true, inferInstance⟩]
  out := fun l => .leaf (.tu [.v (.int .i64 (sumI l)), .v (.int .i64 0)]) []
theorem sTot_enc : ∀ l H n i ls, sTot.dec l H = some (i, ls) → l = renL (rho ls n) (sTot.args i) ∧ givenHp H ls = renH (rho ls n) (sTot.hp i) := by
  intro l H n i ls h
  simp only [sTot] at h
  repeat' split at h
  all_goals first
    | (cases h; done)
    | (cases h; exact ⟨rfl, rfl⟩)
def sOccu : Spec where
  ι := List Int
  dec l H := match l with
    | [.dat (.ints .i64 l)] => some (l, [])
    | _ => none
  args := fun l => [.dat (.ints .i64 l)]
  out := fun l => .leaf (.fn (.func 109) [] [.p 2000 0 0]) [(2000, .cells 22 [.dat (.ints .i64 l)])]
theorem sOccu_enc : ∀ l H n i ls, sOccu.dec l H = some (i, ls) → l = renL (rho ls n) (sOccu.args i) ∧ givenHp H ls = renH (rho ls n) (sOccu.hp i) := by
  intro l H n i ls h
  simp only [sOccu] at h
  repeat' split at h
  all_goals first
    | (cases h; done)
    | (cases h; exact ⟨rfl, rfl⟩)
def sPairs : Spec where
  ι := List Int
  dec l H := match l with
    | [.dat (.ints .i64 l)] => some (l, [])
    | _ => none
  args := fun l => [.dat (.ints .i64 l)]
  out := fun l => .leaf (.fn (.func 112) [] [.p 2000 0 0]) [(2000, .cells 22 [.dat (.ints .i64 l)])]
theorem sPairs_enc : ∀ l H n i ls, sPairs.dec l H = some (i, ls) → l = renL (rho ls n) (sPairs.args i) ∧ givenHp H ls = renH (rho ls n) (sPairs.hp i) := by
  intro l H n i ls h
  simp only [sPairs] at h
  repeat' split at h
  all_goals first
    | (cases h; done)
    | (cases h; exact ⟨rfl, rfl⟩)
def sDisN : Spec where
  ι := List Int
  dec l H := match l with
    | [.dat (.ints .i64 l)] => some (l, [])
    | _ => none
  args := fun l => [.dat (.ints .i64 l)]
  pre := fun l => [⟨okN l = true, inferInstance⟩]
  out := fun l => .leaf (.tu [.v (.int .i64 (ocM l : Nat)), .v (.int .i64 0)]) []
theorem sDisN_enc : ∀ l H n i ls, sDisN.dec l H = some (i, ls) → l = renL (rho ls n) (sDisN.args i) ∧ givenHp H ls = renH (rho ls n) (sDisN.hp i) := by
  intro l H n i ls h
  simp only [sDisN] at h
  repeat' split at h
  all_goals first
    | (cases h; done)
    | (cases h; exact ⟨rfl, rfl⟩)
def sLastN : Spec where
  ι := List Int
  dec l H := match l with
    | [.dat (.ints .i64 l)] => some (l, [])
    | _ => none
  args := fun l => [.dat (.ints .i64 l)]
  pre := fun l => [⟨okN l = true, inferInstance⟩]
  out := fun l => .leaf (.tu [.v (.int .i64 (laI l)), .v (.int .i64 (laE l))]) []
theorem sLastN_enc : ∀ l H n i ls, sLastN.dec l H = some (i, ls) → l = renL (rho ls n) (sLastN.args i) ∧ givenHp H ls = renH (rho ls n) (sLastN.hp i) := by
  intro l H n i ls h
  simp only [sLastN] at h
  repeat' split at h
  all_goals first
    | (cases h; done)
    | (cases h; exact ⟨rfl, rfl⟩)
def sChkN : Spec where
  ι := List Int
  dec l H := match l with
    | [.dat (.ints .i64 l)] => some (l, [])
    | _ => none
  args := fun l => [.dat (.ints .i64 l)]
  pre := fun l => [⟨okN l = true, inferInstance⟩]
  out := fun l => .leaf (.tu [.v (.int .i64 (ckT l)), .v (.int .i64 (ocM l : Nat)), .v (.int .i64 (laE l))]) []
theorem sChkN_enc : ∀ l H n i ls, sChkN.dec l H = some (i, ls) → l = renL (rho ls n) (sChkN.args i) ∧ givenHp H ls = renH (rho ls n) (sChkN.hp i) := by
  intro l H n i ls h
  simp only [sChkN] at h
  repeat' split at h
  all_goals first
    | (cases h; done)
    | (cases h; exact ⟨rfl, rfl⟩)
def sWeigh : Spec where
  ι := Int
  dec l H := match l with
    | [.v (.int .i64 n)] => some (n, [])
    | _ => none
  args := fun n => [.v (.int .i64 n)]
  out := fun n => .leaf (.v (.int .i64 (pt n))) []
theorem sWeigh_enc : ∀ l H n i ls, sWeigh.dec l H = some (i, ls) → l = renL (rho ls n) (sWeigh.args i) ∧ givenHp H ls = renH (rho ls n) (sWeigh.hp i) := by
  intro l H n i ls h
  simp only [sWeigh] at h
  repeat' split at h
  all_goals first
    | (cases h; done)
    | (cases h; exact ⟨rfl, rfl⟩)
def sSame : Spec where
  ι := Int
  dec l H := match l with
    | [.v (.int .i64 n)] => some (n, [])
    | _ => none
  args := fun n => [.v (.int .i64 n)]
  out := fun n => .leaf (.v (.int .i64 n)) []
theorem sSame_enc : ∀ l H n i ls, sSame.dec l H = some (i, ls) → l = renL (rho ls n) (sSame.args i) ∧ givenHp H ls = renH (rho ls n) (sSame.hp i) := by
  intro l H n i ls h
  simp only [sSame] at h
  repeat' split at h
  all_goals first
    | (cases h; done)
    | (cases h; exact ⟨rfl, rfl⟩)
def sGreat : Spec where
  ι := List Int
  dec l H := match l with
    | [.dat (.ints .i64 l), .fn (.func 88) [] []] => some (l, [])
    | _ => none
  args := fun l => [.dat (.ints .i64 l), .fn (.func 88) [] []]
  pre := fun l => [⟨l.length ≤ 4294967296, inferInstance⟩]
  out := fun l => .leaf (.v (.int .i64 (grA l : Nat))) []
theorem sGreat_enc : ∀ l H n i ls, sGreat.dec l H = some (i, ls) → l = renL (rho ls n) (sGreat.args i) ∧ givenHp H ls = renH (rho ls n) (sGreat.hp i) := by
  intro l H n i ls h
  simp only [sGreat] at h
  repeat' split at h
  all_goals first
    | (cases h; done)
    | (cases h; exact ⟨rfl, rfl⟩)
def sWith : Spec where
  ι := List Int × Int
  dec l H := match l with
    | [.dat (.ints .i64 l), .v (.int .i64 g)] => some ((l, g), [])
    | _ => none
  args := fun (l, g) => [.dat (.ints .i64 l), .v (.int .i64 g)]
  pre := fun (l, g) => [⟨okN l = true, inferInstance⟩]
  out := fun (l, g) => .leaf (.tu [.ag [.v (.int .i64 (wiG l g)), .dat (.ints .i64 (wiP l g))], .v (.int .i64 (wiE l g))]) []
theorem sWith_enc : ∀ l H n i ls, sWith.dec l H = some (i, ls) → l = renL (rho ls n) (sWith.args i) ∧ givenHp H ls = renH (rho ls n) (sWith.hp i) := by
  intro l H n i ls h
  simp only [sWith] at h
  repeat' split at h
  all_goals first
    | (cases h; done)
    | (cases h; exact ⟨rfl, rfl⟩)
def oSumI (l : List Int) : LoopInv := { ι := Nat, p := fun i => i ≤ l.length, tm := fun i => [(2, .v (.int .i64 (sumI (l.take i)))), (6, .dat (.ints .i64 l)), (7, .v (.int .i64 l.length)), (8, .v (.int .i64 (i : Nat)))], hp := fun _ => [], μ := fun i => l.length - i }
def oOcI (l0 : Nat) (l : List Int) : LoopInvI := { ι := Nat, p := fun i => i ≤ l.length, tm := fun i => [(0, .v (.func (.yield l0) #[] #[])), (5, .dat (.ints .i64 l)), (6, .v (.int .i64 l.length)), (7, .v (.int .i64 (i : Nat)))], hp := fun _ => [], μ := fun i => l.length - i, y := fun i => ocC l i }
def oOcF (l0 : Nat) (l : List Int) : Nat → Option LoopFamI := fun k => cond (Nat.beq k 0) (some ⟨Unit, fun _ => oOcI l0 l⟩) none
def rDis (l : List Int) : RngInv := { f := 109, cap := [.p 600008 0 0], hpI := [(600008, .cells 22 [.dat (.ints .i64 l)])], xs := itOc l, it := fun i => [.int .i64 (ocS l i), .int .i64 (ocN l i)], tm := [(5, .p 1001 0 0)], hp := fun i => [(1001, .cells 3 [.v (.int .i64 (i : Nat))])] }
def rLas (l : List Int) : RngInv := { f := 109, cap := [.p 600008 0 0], hpI := [(600008, .cells 22 [.dat (.ints .i64 l)])], xs := itOc l, it := fun i => [.int .i64 (ocS l i), .int .i64 (ocN l i)], tm := [(5, .p 1001 0 0)], hp := fun i => [(1001, .cells 3 [.v (.int .i64 (laP l i))])] }
def oDis (l : List Int) : Nat → Option LoopFam := fun k => cond (Nat.beq k 0) (some (.rng Nat fun _ => rDis l)) none
def oLas (l : List Int) : Nat → Option LoopFam := fun k => cond (Nat.beq k 0) (some (.rng Nat fun _ => rLas l)) none
def oGr (l : List Int) : LoopInv := { ι := Nat, p := fun i => i ≤ l.length, tm := fun i => [(0, .dat (.ints .i64 l)), (1, .fn (.func 88) [] []), (5, .v (.int .i64 (grI l i : Nat))), (8, .dat (.ints .i64 l)), (9, .v (.int .i64 l.length)), (10, .v (.int .i64 (i : Nat)))], hp := fun _ => [], μ := fun i => l.length - i }
def wiTm : List (Nat × SV) := [(3, .p 1001 0 0), (4, .p 1002 0 0), (11, .p 1004 0 0), (12, .p 1005 0 0)]
def wiHp (g : Int) (n : Int) (p : List Int) : List (Nat × SBlk) := [(1001, .cells 3 [.v (.int .i64 g)]), (1002, .cells 24 [.v (.int .i64 0), .v (.slice none 0 0)]), (1004, .cells 22 [.o 1006]), (1005, .cells 3 [.v (.int .i64 n)]), (1006, .row 3 (.ints .i64 p))]
def rWi (l : List Int) (g : Int) : RngInv := { f := 112, cap := [.p 1200008 0 0], hpI := [(1200008, .cells 22 [.dat (.ints .i64 l)])], xs := itOc l, it := fun i => [.int .i64 (ocS l i), .int .i64 (ocN l i)], tm := (0, .dat (.ints .i64 l)) :: (6, .p 1003 0 0) :: wiTm, hp := fun i => (1003, .cells 3 [.v (.int .i64 (sumI l))]) :: wiHp g (wiAn l g i) (wiAL l g i) }
def oWiL (l : List Int) (g : Int) : LoopInv := { ι := Nat, p := fun k => k ≤ wiK l g ∧ wiE l g = 0, tm := fun _ => wiTm, hp := fun k => wiHp g (wiN l g + (k : Nat)) (wiD l g k), μ := fun k => wiK l g - k }
def oWi (l : List Int) (g : Int) : Nat → Option LoopFam := fun k => cond (Nat.beq k 0) (some (.rng Nat fun _ => rWi l g)) (cond (Nat.beq k 1) (some (.one (oWiL l g))) none)
def GIa : List (Nat × Ctr) := (72, sSum.ctr) :: (81, sOccu.ctr) :: (85, sPairs.ctr) :: (86, sWeigh.ctr) :: (88, sSame.ctr) :: G8n
def GIb : List (Nat × Ctr) := (41, sCck.ctr) :: (87, sGreat.ctr) :: GIa
def GIc : List (Nat × Ctr) := (111, sTot.ctr) :: (53, sDisN.ctr) :: (54, sLastN.ctr) :: GIb
def GId : List (Nat × Ctr) := (83, sChkN.ctr) :: GIc
def GIe : List (Nat × Ctr) := (57, sWith.ctr) :: GId
end Go.Proofs.YtcoogfifjibkhaaGreat
namespace Go.Proofs.YtcoogfifjibkhaaGreat
open Go Go.RowKit
set_option linter.unusedVariables false
set_option maxRecDepth 100000
def sumIE_t (l : List Int) : Prop :=
 (∃ (x0 : Nat), Nat.le x0 (List.length l) ∧ (0 : Int) = sumI (List.take x0 l) ∧ l = l ∧ (↑(List.length l) : Int) = (↑(List.length l) : Int) ∧ (0 : Int) = (↑x0 : Int)) ∧
 ∀ (x1 : Nat),
 Nat.le x1 (List.length l) →
 (decide ((↑x1 : Int) < (↑(List.length l) : Int)) = true →
 (0 : Int) ≤ (↑x1 : Int) ∧
 (↑x1 : Int) < (↑(List.length l) : Int) ∧
 (decide (List.getD l (Int.toNat (↑x1 : Int)) (0 : Int) < (0 : Int)) = true → (0 : Int) = sumI l ∧ false = true) ∧
 (decide (List.getD l (Int.toNat (↑x1 : Int)) (0 : Int) < (0 : Int)) = false →
 (decide (List.getD l (Int.toNat (↑x1 : Int)) (0 : Int) > (1099511627776 : Int)) = true → (0 : Int) = sumI l ∧ false = true) ∧
 (decide (List.getD l (Int.toNat (↑x1 : Int)) (0 : Int) > (1099511627776 : Int)) = false →
 (decide (IntKind.wrap IntKind.i64 (sumI (List.take x1 l) + List.getD l (Int.toNat (↑x1 : Int)) (0 : Int)) > (1099511627776 : Int)) = true → (0 : Int) = sumI l ∧ false = true) ∧
 (decide (IntKind.wrap IntKind.i64 (sumI (List.take x1 l) + List.getD l (Int.toNat (↑x1 : Int)) (0 : Int)) > (1099511627776 : Int)) = false →
 ∃ (y2 : Nat),
 Nat.le y2 (List.length l) ∧
 Nat.sub (List.length l) y2 < Nat.sub (List.length l) x1 ∧
 IntKind.wrap IntKind.i64 (sumI (List.take x1 l) + List.getD l (Int.toNat (↑x1 : Int)) (0 : Int)) = sumI (List.take y2 l) ∧
 l = l ∧ (↑(List.length l) : Int) = (↑(List.length l) : Int) ∧ IntKind.wrap IntKind.i64 ((↑x1 : Int) + (1 : Int)) = (↑y2 : Int))))) ∧
 (decide ((↑x1 : Int) < (↑(List.length l) : Int)) = false → sumI (List.take x1 l) = sumI l ∧ true = true)
theorem sumIE_e (l : List Int) : sumIE_t l = vcG Tryz.prog (Gof G8n) (one (oSumI l)) Tryz.f72 [.dat (.ints .i64 l)] [] (.leaf ((.tu [.v (.int .i64 (sumI l)), .v (.bool true)])) ([])) := by kernel_rfl
def occuE_t (l : List Int) : Prop :=
 l = l
theorem occuE_e (l : List Int) : occuE_t l = vcG Tryz.prog (Gof G8n) (fun _ => none) Tryz.f81 [.dat (.ints .i64 l)] [] (.leaf ((.fn (.func 109) [] [.p 2000 0 0])) ([(2000, .cells 22 [.dat (.ints .i64 l)])])) := by kernel_rfl
def pairE_t (l : List Int) : Prop :=
 l = l
theorem pairE_e (l : List Int) : pairE_t l = vcG Tryz.prog (Gof G8n) (fun _ => none) Tryz.f85 [.dat (.ints .i64 l)] [] (.leaf ((.fn (.func 112) [] [.p 2000 0 0])) ([(2000, .cells 22 [.dat (.ints .i64 l)])])) := by kernel_rfl
def weighE_t (n : Int) : Prop :=
 (decide (n < (0 : Int)) = true → (1 : Int) = pt n) ∧ (decide (n < (0 : Int)) = false → n = pt n)
theorem weighE_e (n : Int) : weighE_t n = vcG Tryz.prog (Gof G8n) (fun _ => none) Tryz.f86 [.v (.int .i64 n)] [] (.leaf ((.v (.int .i64 (pt n)))) ([])) := by kernel_rfl
def idnE_t (n : Int) : Prop :=
 n = n
theorem idnE_e (n : Int) : idnE_t n = vcG Tryz.prog (Gof G8n) (fun _ => none) Tryz.f88 [.v (.int .i64 n)] [] (.leaf ((.v (.int .i64 n))) ([])) := by kernel_rfl
def cckE_t (l : List Int) : Prop :=
 (decide ((↑(List.length l) : Int) > (256 : Int)) = true → (6 : Int) = (0 : Int)) ∧
 (decide ((↑(List.length l) : Int) > (256 : Int)) = false → okN l = true ∧ ((!true) = true → (2 : Int) = (0 : Int)) ∧ ((!true) = false → (0 : Int) = (0 : Int)))
theorem cckE_e (l : List Int) : cckE_t l = vcG Tryz.prog (Gof GIa) (fun _ => none) Tryz.f41 [.dat (.ints .i64 l)] [] (.leaf ((.v (.int .i64 0))) ([])) := by kernel_rfl
def grE_t (l : List Int) : Prop :=
 (∃ (x0 : Nat), Nat.le x0 (List.length l) ∧ l = l ∧ (0 : Int) = (↑(grI l x0) : Int) ∧ l = l ∧ (↑(List.length l) : Int) = (↑(List.length l) : Int) ∧ (0 : Int) = (↑x0 : Int)) ∧
 ∀ (x1 : Nat),
 Nat.le x1 (List.length l) →
 (decide ((↑x1 : Int) < (↑(List.length l) : Int)) = true →
 (0 : Int) ≤ (↑x1 : Int) ∧
 (↑x1 : Int) < (↑(List.length l) : Int) ∧
 (0 : Int) ≤ (↑(grI l x1) : Int) ∧
 (↑(grI l x1) : Int) < (↑(List.length l) : Int) ∧
 (decide (List.getD l (Int.toNat (↑x1 : Int)) (0 : Int) > List.getD l (Int.toNat (↑(grI l x1) : Int)) (0 : Int)) = true →
 ∃ (y2 : Nat),
 Nat.le y2 (List.length l) ∧
 Nat.sub (List.length l) y2 < Nat.sub (List.length l) x1 ∧
 l = l ∧
 (↑x1 : Int) = (↑(grI l y2) : Int) ∧ l = l ∧ (↑(List.length l) : Int) = (↑(List.length l) : Int) ∧ IntKind.wrap IntKind.i64 ((↑x1 : Int) + (1 : Int)) = (↑y2 : Int)) ∧
 (decide (List.getD l (Int.toNat (↑x1 : Int)) (0 : Int) > List.getD l (Int.toNat (↑(grI l x1) : Int)) (0 : Int)) = false →
 ∃ (y3 : Nat),
 Nat.le y3 (List.length l) ∧
 Nat.sub (List.length l) y3 < Nat.sub (List.length l) x1 ∧
 l = l ∧
 (↑(grI l x1) : Int) = (↑(grI l y3) : Int) ∧
 l = l ∧ (↑(List.length l) : Int) = (↑(List.length l) : Int) ∧ IntKind.wrap IntKind.i64 ((↑x1 : Int) + (1 : Int)) = (↑y3 : Int))) ∧
 (decide ((↑x1 : Int) < (↑(List.length l) : Int)) = false → (↑(grI l x1) : Int) = (↑(grA l) : Int))
theorem grE_e (l : List Int) : grE_t l = vcG Tryz.prog (Gof GIa) (one (oGr l)) Tryz.f87 [.dat (.ints .i64 l), .fn (.func 88) [] []] [] (.leaf ((.v (.int .i64 (grA l : Nat)))) ([])) := by kernel_rfl
def totE_t (l : List Int) : Prop :=
 okN l = true ∧ (((0 : Int) != (0 : Int)) = true → (0 : Int) = sumI l ∧ (0 : Int) = (0 : Int)) ∧ (((0 : Int) != (0 : Int)) = false → okN l = true ∧ sumI l = sumI l ∧ (0 : Int) = (0 : Int))
theorem totE_e (l : List Int) : totE_t l = vcG Tryz.prog (Gof GIb) (fun _ => none) Tryz.f111 [.dat (.ints .i64 l)] [] (.leaf ((.tu [.v (.int .i64 (sumI l)), .v (.int .i64 0)])) ([])) := by kernel_rfl
def disNE_t (l : List Int) : Prop :=
 okN l = true ∧
 (((0 : Int) != (0 : Int)) = true → (0 : Int) = (↑(ocM l) : Int) ∧ (0 : Int) = (0 : Int)) ∧
 (((0 : Int) != (0 : Int)) = false →
 ∃ (y0 : Nat),
 (ISatE Tryz.prog ((109 : Nat)) [SV.p (600008 : Nat) (0 : Nat) (0 : Nat)] [((600008 : Nat), SBlk.cells (22 : TypeId) [SV.dat (Dat.ints IntKind.i64 l)])]
 (List.map (fun (i : Nat) => [Value.int IntKind.i64 (ocS l i), Value.int IntKind.i64 (ocN l i)]) (List.range (ocM l))) fun (x : Nat) => []) ∧
 l = l ∧
 True ∧
 (0 : Int) = (↑(0 : Nat) : Int) ∧
 (∀ (i1 : Nat),
 i1 < List.length (List.map (fun (i : Nat) => [Value.int IntKind.i64 (ocS l i), Value.int IntKind.i64 (ocN l i)]) (List.range (ocM l))) →
 True →
 (List.map (fun (i : Nat) => [Value.int IntKind.i64 (ocS l i), Value.int IntKind.i64 (ocN l i)]) (List.range (ocM l)))[i1]? =
 some [Value.int IntKind.i64 (ocS l i1), Value.int IntKind.i64 (ocN l i1)] ∧
 List.length [Value.int IntKind.i64 (ocS l i1), Value.int IntKind.i64 (ocN l i1)] = List.length #[(13 : Nat), (14 : Nat)].toList ∧
 True ∧ IntKind.wrap IntKind.i64 ((↑i1 : Int) + (1 : Int)) = (↑(i1 + (1 : Nat)) : Int)) ∧
 (True →
 (↑(List.length (List.map (fun (i : Nat) => [Value.int IntKind.i64 (ocS l i), Value.int IntKind.i64 (ocN l i)]) (List.range (ocM l)))) : Int) = (↑(ocM l) : Int) ∧
 (0 : Int) = (0 : Int)))
theorem disNE_e (l : List Int) : disNE_t l = vcG Tryz.prog (Gof GIb) (oDis l) Tryz.f53 [.dat (.ints .i64 l)] [] (.leaf ((.tu [.v (.int .i64 (ocM l : Nat)), .v (.int .i64 0)])) ([])) := by kernel_rfl
def lastNE_t (l : List Int) : Prop :=
 okN l = true ∧
 (((0 : Int) != (0 : Int)) = true → (0 : Int) = laI l ∧ (0 : Int) = laE l) ∧
 (((0 : Int) != (0 : Int)) = false →
 ∃ (y0 : Nat),
 (ISatE Tryz.prog ((109 : Nat)) [SV.p (600008 : Nat) (0 : Nat) (0 : Nat)] [((600008 : Nat), SBlk.cells (22 : TypeId) [SV.dat (Dat.ints IntKind.i64 l)])]
 (List.map (fun (i : Nat) => [Value.int IntKind.i64 (ocS l i), Value.int IntKind.i64 (ocN l i)]) (List.range (ocM l))) fun (x : Nat) => []) ∧
 l = l ∧
 True ∧
 (-1 : Int) = laP l (0 : Nat) ∧
 (∀ (i1 : Nat),
 i1 < List.length (List.map (fun (i : Nat) => [Value.int IntKind.i64 (ocS l i), Value.int IntKind.i64 (ocN l i)]) (List.range (ocM l))) →
 True →
 (List.map (fun (i : Nat) => [Value.int IntKind.i64 (ocS l i), Value.int IntKind.i64 (ocN l i)]) (List.range (ocM l)))[i1]? =
 some [Value.int IntKind.i64 (ocS l i1), Value.int IntKind.i64 (ocN l i1)] ∧
 List.length [Value.int IntKind.i64 (ocS l i1), Value.int IntKind.i64 (ocN l i1)] = List.length #[(14 : Nat), (15 : Nat)].toList ∧ True ∧ ocS l i1 = laP l (i1 + (1 : Nat))) ∧
 (True →
 (decide (laP l (List.length (List.map (fun (i : Nat) => [Value.int IntKind.i64 (ocS l i), Value.int IntKind.i64 (ocN l i)]) (List.range (ocM l)))) < (0 : Int)) = true →
 (0 : Int) = laI l ∧ (7 : Int) = laE l) ∧
 (decide (laP l (List.length (List.map (fun (i : Nat) => [Value.int IntKind.i64 (ocS l i), Value.int IntKind.i64 (ocN l i)]) (List.range (ocM l)))) < (0 : Int)) = false →
 laP l (List.length (List.map (fun (i : Nat) => [Value.int IntKind.i64 (ocS l i), Value.int IntKind.i64 (ocN l i)]) (List.range (ocM l)))) = laI l ∧ (0 : Int) = laE l)))
theorem lastNE_e (l : List Int) : lastNE_t l = vcG Tryz.prog (Gof GIb) (oLas l) Tryz.f54 [.dat (.ints .i64 l)] [] (.leaf ((.tu [.v (.int .i64 (laI l)), .v (.int .i64 (laE l))])) ([])) := by kernel_rfl
def chkNE_t (l : List Int) : Prop :=
 okN l = true ∧
 (((0 : Int) != (0 : Int)) = true → (0 : Int) = ckT l ∧ (0 : Int) = (↑(ocM l) : Int) ∧ (0 : Int) = laE l) ∧
 (((0 : Int) != (0 : Int)) = false →
 okN l = true ∧
 (((↑(ocM l) : Int) == (0 : Int)) = true → (0 : Int) = ckT l ∧ (0 : Int) = (↑(ocM l) : Int) ∧ (7 : Int) = laE l) ∧
 (((↑(ocM l) : Int) == (0 : Int)) = false → sumI l = ckT l ∧ (↑(ocM l) : Int) = (↑(ocM l) : Int) ∧ (0 : Int) = laE l))
theorem chkNE_e (l : List Int) : chkNE_t l = vcG Tryz.prog (Gof GIc) (fun _ => none) Tryz.f83 [.dat (.ints .i64 l)] [] (.leaf ((.tu [.v (.int .i64 (ckT l)), .v (.int .i64 (ocM l : Nat)), .v (.int .i64 (laE l))])) ([])) := by kernel_rfl
def withE_t (l : List Int) (g : Int) : Prop :=
 okN l = true ∧
 ((laE l != (0 : Int)) = true → (0 : Int) = wiG l g ∧ List.length (wiP l g) = (0 : Nat) ∧ laE l = wiE l g) ∧
 ((laE l != (0 : Int)) = false →
 (decide (g < (5 : Int)) = true → (0 : Int) = wiG l g ∧ List.length (wiP l g) = (0 : Nat) ∧ (31 : Int) = wiE l g) ∧
 (decide (g < (5 : Int)) = false →
 (decide (g > (12 : Int)) = true → (0 : Int) = wiG l g ∧ List.length (wiP l g) = (0 : Nat) ∧ (31 : Int) = wiE l g) ∧
 (decide (g > (12 : Int)) = false →
 (0 : Int) ≤ IntKind.wrap IntKind.u64 g ∧
 (decide ((↑(ocM l) : Int) > IntKind.wrap IntKind.i64 ((1 : Int) * (2 : Int) ^ min (Int.toNat (IntKind.wrap IntKind.u64 g)) (IntKind.bits IntKind.i64))) = true →
 (0 : Int) = wiG l g ∧ List.length (wiP l g) = (0 : Nat) ∧ (2 : Int) = wiE l g) ∧
 (decide ((↑(ocM l) : Int) > IntKind.wrap IntKind.i64 ((1 : Int) * (2 : Int) ^ min (Int.toNat (IntKind.wrap IntKind.u64 g)) (IntKind.bits IntKind.i64))) = false →
 okN l = true ∧
 (0 : Int) ≤ IntKind.wrap IntKind.i64 (laI l + (1 : Int)) ∧
 IntKind.wrap IntKind.i64 (laI l + (1 : Int)) ≤ IntKind.wrap IntKind.i64 (laI l + (1 : Int)) ∧
 (↑((8 : Nat)) : Int) * IntKind.wrap IntKind.i64 (laI l + (1 : Int)) ≤ (281474976710656 : Int) ∧
 IntKind.wrap IntKind.i64 (laI l + (1 : Int)) ≤ (9223372036854775807 : Int) ∧
 (0 : Int) ≤ IntKind.wrap IntKind.u64 g ∧
 ∃ (y0 : Nat),
 (ISatE Tryz.prog ((112 : Nat)) [SV.p (1200008 : Nat) (0 : Nat) (0 : Nat)] [((1200008 : Nat), SBlk.cells (22 : TypeId) [SV.dat (Dat.ints IntKind.i64 l)])]
 (List.map (fun (i : Nat) => [Value.int IntKind.i64 (ocS l i), Value.int IntKind.i64 (ocN l i)]) (List.range (ocM l))) fun (x : Nat) => []) ∧
 l = l ∧
 True ∧
 (l = l ∧
 ckT l = sumI l ∧
 g = g ∧
 (0 : Int) = (0 : Int) ∧
 Value.slice none (0 : Nat) (0 : Nat) = Value.slice none (0 : Nat) (0 : Nat) ∧
 IntKind.wrap IntKind.i64 ((1 : Int) * (2 : Int) ^ min (Int.toNat (IntKind.wrap IntKind.u64 g)) (IntKind.bits IntKind.i64)) = wiAn l g (0 : Nat) ∧
 List.replicate (Int.toNat (IntKind.wrap IntKind.i64 (laI l + (1 : Int)))) (0 : Int) = wiAL l g (0 : Nat)) ∧
 (∀ (i1 : Nat),
 i1 < List.length (List.map (fun (i : Nat) => [Value.int IntKind.i64 (ocS l i), Value.int IntKind.i64 (ocN l i)]) (List.range (ocM l))) →
 True →
 (List.map (fun (i : Nat) => [Value.int IntKind.i64 (ocS l i), Value.int IntKind.i64 (ocN l i)]) (List.range (ocM l)))[i1]? =
 some [Value.int IntKind.i64 (ocS l i1), Value.int IntKind.i64 (ocN l i1)] ∧
 List.length [Value.int IntKind.i64 (ocS l i1), Value.int IntKind.i64 (ocN l i1)] = List.length #[(56 : Nat), (57 : Nat)].toList ∧
 (0 : Int) ≤ IntKind.wrap IntKind.u64 g ∧
 IntKind.wrap IntKind.u64 (sumI l) ≠ (0 : Int) ∧
 ((IntKind.wrap IntKind.i64
 (IntKind.wrap IntKind.u64
 (Int.tdiv
 (IntKind.wrap IntKind.u64
 (IntKind.wrap IntKind.u64 (ocN l i1) * (2 : Int) ^ min (Int.toNat (IntKind.wrap IntKind.u64 g)) (IntKind.bits IntKind.u64)))
 (IntKind.wrap IntKind.u64 (sumI l)))) ==
 (0 : Int)) =
 true →
 (0 : Int) ≤ ocS l i1 ∧
 ocS l i1 < (↑(List.length (wiAL l g i1)) : Int) ∧
 Int.toNat (ocS l i1) < List.length (wiAL l g i1) ∧
 True ∧
 sumI l = sumI l ∧
 g = g ∧
 (0 : Int) = (0 : Int) ∧
 Value.slice none (0 : Nat) (0 : Nat) = Value.slice none (0 : Nat) (0 : Nat) ∧
 IntKind.wrap IntKind.i64 (wiAn l g i1 - pt (-1 : Int)) = wiAn l g (i1 + (1 : Nat)) ∧
 List.set (wiAL l g i1) (Int.toNat (ocS l i1)) (-1 : Int) = wiAL l g (i1 + (1 : Nat))) ∧
 ((IntKind.wrap IntKind.i64
 (IntKind.wrap IntKind.u64
 (Int.tdiv
 (IntKind.wrap IntKind.u64
 (IntKind.wrap IntKind.u64 (ocN l i1) * (2 : Int) ^ min (Int.toNat (IntKind.wrap IntKind.u64 g)) (IntKind.bits IntKind.u64)))
 (IntKind.wrap IntKind.u64 (sumI l)))) ==
 (0 : Int)) =
 false →
 (0 : Int) ≤ ocS l i1 ∧
 ocS l i1 < (↑(List.length (wiAL l g i1)) : Int) ∧
 Int.toNat (ocS l i1) < List.length (wiAL l g i1) ∧
 True ∧
 sumI l = sumI l ∧
 g = g ∧
 (0 : Int) = (0 : Int) ∧
 Value.slice none (0 : Nat) (0 : Nat) = Value.slice none (0 : Nat) (0 : Nat) ∧
 IntKind.wrap IntKind.i64
 (wiAn l g i1 -
 pt
 (IntKind.wrap IntKind.i64
 (IntKind.wrap IntKind.u64
 (Int.tdiv
 (IntKind.wrap IntKind.u64
 (IntKind.wrap IntKind.u64 (ocN l i1) *
 (2 : Int) ^ min (Int.toNat (IntKind.wrap IntKind.u64 g)) (IntKind.bits IntKind.u64)))
 (IntKind.wrap IntKind.u64 (sumI l)))))) =
 wiAn l g (i1 + (1 : Nat)) ∧
 List.set (wiAL l g i1) (Int.toNat (ocS l i1))
 (IntKind.wrap IntKind.i64
 (IntKind.wrap IntKind.u64
 (Int.tdiv
 (IntKind.wrap IntKind.u64
 (IntKind.wrap IntKind.u64 (ocN l i1) *
 (2 : Int) ^ min (Int.toNat (IntKind.wrap IntKind.u64 g)) (IntKind.bits IntKind.u64)))
 (IntKind.wrap IntKind.u64 (sumI l))))) =
 wiAL l g (i1 + (1 : Nat)))) ∧
 (True →
 (decide
 (wiAn l g (List.length (List.map (fun (i : Nat) => [Value.int IntKind.i64 (ocS l i), Value.int IntKind.i64 (ocN l i)]) (List.range (ocM l)))) >
 (0 : Int)) =
 true →
 List.length l ≤ (4294967296 : Nat) ∧
 (0 : Int) ≤ (↑(grA l) : Int) ∧
 (↑(grA l) : Int) <
 (↑(List.length
 (wiAL l g
 (List.length
 (List.map (fun (i : Nat) => [Value.int IntKind.i64 (ocS l i), Value.int IntKind.i64 (ocN l i)]) (List.range (ocM l)))))) :
 Int) ∧
 Int.toNat (↑(grA l) : Int) <
 List.length
 (wiAL l g
 (List.length (List.map (fun (i : Nat) => [Value.int IntKind.i64 (ocS l i), Value.int IntKind.i64 (ocN l i)]) (List.range (ocM l))))) ∧
 (0 : Int) ≤ (↑(grA l) : Int) ∧
 (↑(grA l) : Int) <
 (↑(List.length
 (wiAL l g
 (List.length
 (List.map (fun (i : Nat) => [Value.int IntKind.i64 (ocS l i), Value.int IntKind.i64 (ocN l i)]) (List.range (ocM l)))))) :
 Int) ∧
 Int.toNat (↑(grA l) : Int) <
 List.length
 (wiAL l g
 (List.length
 (List.map (fun (i : Nat) => [Value.int IntKind.i64 (ocS l i), Value.int IntKind.i64 (ocN l i)]) (List.range (ocM l))))) ∧
 (∃ (x2 : Nat),
 (x2 ≤ wiK l g ∧ wiE l g = (0 : Int)) ∧
 g = g ∧
 (0 : Int) = (0 : Int) ∧
 Value.slice none (0 : Nat) (0 : Nat) = Value.slice none (0 : Nat) (0 : Nat) ∧
 (0 : Int) = wiN l g + (↑x2 : Int) ∧
 List.set
 (wiAL l g
 (List.length
 (List.map (fun (i : Nat) => [Value.int IntKind.i64 (ocS l i), Value.int IntKind.i64 (ocN l i)])
 (List.range (ocM l)))))
 (Int.toNat (↑(grA l) : Int))
 (IntKind.wrap IntKind.i64
 (pt
 (List.getD
 (wiAL l g
 (List.length
 (List.map (fun (i : Nat) => [Value.int IntKind.i64 (ocS l i), Value.int IntKind.i64 (ocN l i)])
 (List.range (ocM l)))))
 (Int.toNat (↑(grA l) : Int)) (0 : Int)) +
 wiAn l g
 (List.length
 (List.map (fun (i : Nat) => [Value.int IntKind.i64 (ocS l i), Value.int IntKind.i64 (ocN l i)])
 (List.range (ocM l)))))) =
 wiD l g x2) ∧
 ∀ (x3 : Nat),
 x3 ≤ wiK l g ∧ wiE l g = (0 : Int) →
 ((wiN l g + (↑x3 : Int) == (0 : Int)) = true → g = wiG l g ∧ wiD l g x3 = wiP l g ∧ (0 : Int) = wiE l g) ∧
 ((wiN l g + (↑x3 : Int) == (0 : Int)) = false →
 List.length (wiD l g x3) ≤ (4294967296 : Nat) ∧
 (0 : Int) ≤ (↑(grA (wiD l g x3)) : Int) ∧
 (↑(grA (wiD l g x3)) : Int) < (↑(List.length (wiD l g x3)) : Int) ∧
 Int.toNat (↑(grA (wiD l g x3)) : Int) < List.length (wiD l g x3) ∧
 (0 : Int) ≤ (↑(grA (wiD l g x3)) : Int) ∧
 (↑(grA (wiD l g x3)) : Int) < (↑(List.length (wiD l g x3)) : Int) ∧
 Int.toNat (↑(grA (wiD l g x3)) : Int) < List.length (wiD l g x3) ∧
 ∃ (y4 : Nat),
 (y4 ≤ wiK l g ∧ wiE l g = (0 : Int)) ∧
 Nat.sub (wiK l g) y4 < Nat.sub (wiK l g) x3 ∧
 g = g ∧
 (0 : Int) = (0 : Int) ∧
 Value.slice none (0 : Nat) (0 : Nat) = Value.slice none (0 : Nat) (0 : Nat) ∧
 IntKind.wrap IntKind.i64 (wiN l g + (↑x3 : Int) + (1 : Int)) = wiN l g + (↑y4 : Int) ∧
 List.set (wiD l g x3) (Int.toNat (↑(grA (wiD l g x3)) : Int))
 (IntKind.wrap IntKind.i64
 (List.getD (wiD l g x3) (Int.toNat (↑(grA (wiD l g x3)) : Int)) (0 : Int) - (1 : Int))) =
 wiD l g y4)) ∧
 (decide
 (wiAn l g (List.length (List.map (fun (i : Nat) => [Value.int IntKind.i64 (ocS l i), Value.int IntKind.i64 (ocN l i)]) (List.range (ocM l)))) >
 (0 : Int)) =
 false →
 (∃ (x5 : Nat),
 (x5 ≤ wiK l g ∧ wiE l g = (0 : Int)) ∧
 g = g ∧
 (0 : Int) = (0 : Int) ∧
 Value.slice none (0 : Nat) (0 : Nat) = Value.slice none (0 : Nat) (0 : Nat) ∧
 wiAn l g
 (List.length
 (List.map (fun (i : Nat) => [Value.int IntKind.i64 (ocS l i), Value.int IntKind.i64 (ocN l i)]) (List.range (ocM l)))) =
 wiN l g + (↑x5 : Int) ∧
 wiAL l g
 (List.length
 (List.map (fun (i : Nat) => [Value.int IntKind.i64 (ocS l i), Value.int IntKind.i64 (ocN l i)]) (List.range (ocM l)))) =
 wiD l g x5) ∧
 ∀ (x6 : Nat),
 x6 ≤ wiK l g ∧ wiE l g = (0 : Int) →
 ((wiN l g + (↑x6 : Int) == (0 : Int)) = true → g = wiG l g ∧ wiD l g x6 = wiP l g ∧ (0 : Int) = wiE l g) ∧
 ((wiN l g + (↑x6 : Int) == (0 : Int)) = false →
 List.length (wiD l g x6) ≤ (4294967296 : Nat) ∧
 (0 : Int) ≤ (↑(grA (wiD l g x6)) : Int) ∧
 (↑(grA (wiD l g x6)) : Int) < (↑(List.length (wiD l g x6)) : Int) ∧
 Int.toNat (↑(grA (wiD l g x6)) : Int) < List.length (wiD l g x6) ∧
 (0 : Int) ≤ (↑(grA (wiD l g x6)) : Int) ∧
 (↑(grA (wiD l g x6)) : Int) < (↑(List.length (wiD l g x6)) : Int) ∧
 Int.toNat (↑(grA (wiD l g x6)) : Int) < List.length (wiD l g x6) ∧
 ∃ (y7 : Nat),
 (y7 ≤ wiK l g ∧ wiE l g = (0 : Int)) ∧
 Nat.sub (wiK l g) y7 < Nat.sub (wiK l g) x6 ∧
 g = g ∧
 (0 : Int) = (0 : Int) ∧
 Value.slice none (0 : Nat) (0 : Nat) = Value.slice none (0 : Nat) (0 : Nat) ∧
 IntKind.wrap IntKind.i64 (wiN l g + (↑x6 : Int) + (1 : Int)) = wiN l g + (↑y7 : Int) ∧
 List.set (wiD l g x6) (Int.toNat (↑(grA (wiD l g x6)) : Int))
 (IntKind.wrap IntKind.i64
 (List.getD (wiD l g x6) (Int.toNat (↑(grA (wiD l g x6)) : Int)) (0 : Int) - (1 : Int))) =
 wiD l g y7)))))))
theorem withE_e (l : List Int) (g : Int) : withE_t l g = vcG Tryz.prog (Gof GId) (oWi l g) Tryz.f57 [.dat (.ints .i64 l), .v (.int .i64 g)] [] (.leaf ((.tu [.ag [.v (.int .i64 (wiG l g)), .dat (.ints .i64 (wiP l g))], .v (.int .i64 (wiE l g))])) ([])) := by kernel_rfl
def occI_t (l : List Int) (l0 : Nat) : Prop :=
 ∃ (g0 : Unit),
 ∃ (x1 : Nat),
 Nat.le x1 (List.length l) ∧
 ((0 : Nat), true) = (List.length (occL (0 : Nat) (List.take x1 l)), true) ∧
 (Value.func (Fn.yield l0) #[] #[] = Value.func (Fn.yield l0) #[] #[] ∧ l = l ∧ (↑(List.length l) : Int) = (↑(List.length l) : Int) ∧ (0 : Int) = (↑x1 : Int)) ∧
 ∀ (x2 : Nat),
 Nat.le x2 (List.length l) →
 (decide ((↑x2 : Int) < (↑(List.length l) : Int)) = true →
 (0 : Int) ≤ (↑x2 : Int) ∧
 (↑x2 : Int) < (↑(List.length l) : Int) ∧
 (decide (List.getD l (Int.toNat (↑x2 : Int)) (0 : Int) > (0 : Int)) = true →
 l0 = l0 ∧
 (itOc l)[List.length (occL (0 : Nat) (List.take x2 l))]? = some [Value.int IntKind.i64 (↑x2 : Int), Value.int IntKind.i64 (List.getD l (Int.toNat (↑x2 : Int)) (0 : Int))] ∧
 (∃ (y3 : Nat),
 Nat.le y3 (List.length l) ∧
 (List.length (occL (0 : Nat) (List.take x2 l)) + (1 : Nat), true) = (List.length (occL (0 : Nat) (List.take y3 l)), true) ∧
 Nat.sub (List.length l) y3 < Nat.sub (List.length l) x2 ∧
 Value.func (Fn.yield l0) #[] #[] = Value.func (Fn.yield l0) #[] #[] ∧
 l = l ∧ (↑(List.length l) : Int) = (↑(List.length l) : Int) ∧ IntKind.wrap IntKind.i64 ((↑x2 : Int) + (1 : Int)) = (↑y3 : Int)) ∧
 True) ∧
 (decide (List.getD l (Int.toNat (↑x2 : Int)) (0 : Int) > (0 : Int)) = false →
 ∃ (y4 : Nat),
 Nat.le y4 (List.length l) ∧
 (List.length (occL (0 : Nat) (List.take x2 l)), true) = (List.length (occL (0 : Nat) (List.take y4 l)), true) ∧
 Nat.sub (List.length l) y4 < Nat.sub (List.length l) x2 ∧
 Value.func (Fn.yield l0) #[] #[] = Value.func (Fn.yield l0) #[] #[] ∧
 l = l ∧ (↑(List.length l) : Int) = (↑(List.length l) : Int) ∧ IntKind.wrap IntKind.i64 ((↑x2 : Int) + (1 : Int)) = (↑y4 : Int))) ∧
 (decide ((↑x2 : Int) < (↑(List.length l) : Int)) = false → List.length (occL (0 : Nat) (List.take x2 l)) = List.length (itOc l))
theorem occI_e (l : List Int) (l0 : Nat) : occI_t l l0 = vcFI Tryz.prog (Gof G8n) l0 (itOc l) (oOcF l0 l) Tryz.f109 [.p 0 0 0] [(0, .cells 22 [.dat (.ints .i64 l)])]  := by kernel_rfl
def pairI_t (l : List Int) (l0 : Nat) : Prop :=
 ∃ (g0 : Unit),
 ∃ (x1 : Nat),
 Nat.le x1 (List.length l) ∧
 ((0 : Nat), true) = (List.length (occL (0 : Nat) (List.take x1 l)), true) ∧
 (Value.func (Fn.yield l0) #[] #[] = Value.func (Fn.yield l0) #[] #[] ∧ l = l ∧ (↑(List.length l) : Int) = (↑(List.length l) : Int) ∧ (0 : Int) = (↑x1 : Int)) ∧
 ∀ (x2 : Nat),
 Nat.le x2 (List.length l) →
 (decide ((↑x2 : Int) < (↑(List.length l) : Int)) = true →
 (0 : Int) ≤ (↑x2 : Int) ∧
 (↑x2 : Int) < (↑(List.length l) : Int) ∧
 (decide (List.getD l (Int.toNat (↑x2 : Int)) (0 : Int) > (0 : Int)) = true →
 l0 = l0 ∧
 (itOc l)[List.length (occL (0 : Nat) (List.take x2 l))]? = some [Value.int IntKind.i64 (↑x2 : Int), Value.int IntKind.i64 (List.getD l (Int.toNat (↑x2 : Int)) (0 : Int))] ∧
 (∃ (y3 : Nat),
 Nat.le y3 (List.length l) ∧
 (List.length (occL (0 : Nat) (List.take x2 l)) + (1 : Nat), true) = (List.length (occL (0 : Nat) (List.take y3 l)), true) ∧
 Nat.sub (List.length l) y3 < Nat.sub (List.length l) x2 ∧
 Value.func (Fn.yield l0) #[] #[] = Value.func (Fn.yield l0) #[] #[] ∧
 l = l ∧ (↑(List.length l) : Int) = (↑(List.length l) : Int) ∧ IntKind.wrap IntKind.i64 ((↑x2 : Int) + (1 : Int)) = (↑y3 : Int)) ∧
 True) ∧
 (decide (List.getD l (Int.toNat (↑x2 : Int)) (0 : Int) > (0 : Int)) = false →
 ∃ (y4 : Nat),
 Nat.le y4 (List.length l) ∧
 (List.length (occL (0 : Nat) (List.take x2 l)), true) = (List.length (occL (0 : Nat) (List.take y4 l)), true) ∧
 Nat.sub (List.length l) y4 < Nat.sub (List.length l) x2 ∧
 Value.func (Fn.yield l0) #[] #[] = Value.func (Fn.yield l0) #[] #[] ∧
 l = l ∧ (↑(List.length l) : Int) = (↑(List.length l) : Int) ∧ IntKind.wrap IntKind.i64 ((↑x2 : Int) + (1 : Int)) = (↑y4 : Int))) ∧
 (decide ((↑x2 : Int) < (↑(List.length l) : Int)) = false → List.length (occL (0 : Nat) (List.take x2 l)) = List.length (itOc l))
theorem pairI_e (l : List Int) (l0 : Nat) : pairI_t l l0 = vcFI Tryz.prog (Gof G8n) l0 (itOc l) (oOcF l0 l) Tryz.f112 [.p 0 0 0] [(0, .cells 22 [.dat (.ints .i64 l)])]  := by kernel_rfl
end Go.Proofs.YtcoogfifjibkhaaGreat
namespace Go.Proofs.YtcoogfifjibkhaaGreat
open Go Go.RowKit
set_option linter.unusedVariables false
set_option linter.unusedSimpArgs false
set_option maxRecDepth 100000
structure OkN (l : List Int) : Prop where
  nn : ∀ x ∈ l, 0 ≤ x
  len : l.length ≤ 256
  sum : sumI l ≤ 1099511627776
theorem okN0 {l : List Int} (h : okN l = true) : OkN l := by
  unfold okN at h
  simp only [Bool.and_eq_true, List.all_eq_true, decide_eq_true_eq] at h
  exact ⟨h.1.1, h.1.2, h.2⟩
theorem sumI_app : ∀ a b : List Int, sumI (a ++ b) = sumI a + sumI b
  | [], b => by show sumI b = 0 + sumI b; omega
  | x :: a, b => by
    have := sumI_app a b
    show x + sumI (a ++ b) = x + sumI a + sumI b
    omega
theorem sumI_nn : ∀ {l : List Int}, (∀ x ∈ l, 0 ≤ x) → 0 ≤ sumI l
  | [], _ => Int.le_refl _
  | x :: r, h => by
    have := sumI_nn fun y hy => h y (List.mem_cons_of_mem _ hy)
    have := h x (by simp)
    show 0 ≤ x + sumI r
    omega
theorem sumI_take {l : List Int} {i : Nat} (h : i < l.length) : sumI (l.take (i + 1)) = sumI (l.take i) + l.getD i 0 := by
  rw [take_succ l 0 h, sumI_app]
  show _ + (l.getD i 0 + 0) = _
  omega
theorem sumI_le {l : List Int} (h : ∀ x ∈ l, 0 ≤ x) (i : Nat) : 0 ≤ sumI (l.take i) ∧ sumI (l.take i) ≤ sumI l := by
  have e := sumI_app (l.take i) (l.drop i)
  rw [List.take_append_drop] at e
  have h1 := sumI_nn (l := l.take i) fun x hx => h x (List.mem_of_mem_take hx)
  have h2 := sumI_nn (l := l.drop i) fun x hx => h x (List.mem_of_mem_drop hx)
  exact ⟨h1, by omega⟩
theorem sumIE_v (l : List Int) (h : okN l = true) : sumIE_t l := by
  have hk := okN0 h
  have hlen := hk.len
  have hsum := hk.sum
  unfold sumIE_t
  simp only [toNat_cast, nle]
  refine ⟨⟨0, Nat.zero_le _, (by first | rfl | trivial), (by first | rfl | trivial), (by first | rfl | trivial), (by first | rfl | trivial)⟩, fun i hi => ⟨fun hlt => ?_, fun hge => ?_⟩⟩
  · have hlt : i < l.length := by simpa using hlt
    have hs := sumI_take hlt
    have h0 := sumI_le hk.nn i
    have h1 := sumI_le hk.nn (i + 1)
    have hx := hk.nn _ (getD_mem' hlt)
    rw [wr (by omega) (by omega)]
    refine ⟨by omega, by omega, fun hb => ?_, fun _ => ⟨fun hb => ?_, fun _ => ⟨fun hb => ?_, fun _ => ⟨i + 1, by omega, by rw [Nat.sub_eq, Nat.sub_eq]; omega, hs.symm, (by first | rfl | trivial), (by first | rfl | trivial), cnt_wrap (by omega)⟩⟩⟩⟩
    · simp only [decide_eq_true_eq] at hb; omega
    · simp only [gt_iff_lt, decide_eq_true_eq] at hb; omega
    · simp only [gt_iff_lt, decide_eq_true_eq] at hb; omega
  · have hge : ¬ i < l.length := by simpa using hge
    exact ⟨by rw [List.take_of_length_le (by omega)], (by first | rfl | trivial)⟩
theorem weighE_v (n : Int) : weighE_t n := ⟨fun h => (pt_neg h).symm, fun h => (pt_pos h).symm⟩
theorem cckE_v (l : List Int) (h : okN l = true) : cckE_t l := by
  have hk := okN0 h
  have hlen := hk.len
  unfold cckE_t
  refine ⟨fun hb => ?_, fun _ => ⟨h, fun hb => ?_, fun _ => (by first | rfl | trivial)⟩⟩
  · simp only [gt_iff_lt, decide_eq_true_eq] at hb; omega
  · cases hb
theorem occ_app : ∀ (s : Nat) (a b : List Int), occL s (a ++ b) = occL s a ++ occL (s + a.length) b
  | s, [], b => rfl
  | s, x :: a, b => by
    have ih := occ_app (s + 1) a b
    have e : s + (x :: a).length = s + 1 + a.length := by rw [List.length_cons]; omega
    show cond (decide (0 < x)) ((s, x) :: occL (s + 1) (a ++ b)) (occL (s + 1) (a ++ b)) = cond (decide (0 < x)) ((s, x) :: occL (s + 1) a) (occL (s + 1) a) ++ _
    rw [ih, e]
    cases decide (0 < x) <;> rfl
theorem occ_take {l : List Int} {i : Nat} (h : i < l.length) : occL 0 (l.take (i + 1)) = occL 0 (l.take i) ++ cond (decide (0 < l.getD i 0)) [(i, l.getD i 0)] [] := by
  rw [take_succ l 0 h, occ_app, List.length_take, Nat.min_eq_left (by omega), Nat.zero_add]
  rfl
theorem ocC_yes {l : List Int} {i : Nat} (h : i < l.length) (hx : 0 < l.getD i 0) : ocC l (i + 1) = ocC l i + 1 := by
  unfold ocC
  rw [occ_take h, decide_eq_true hx, List.length_append]
  rfl
theorem ocC_no {l : List Int} {i : Nat} (h : i < l.length) (hx : ¬ 0 < l.getD i 0) : ocC l (i + 1) = ocC l i := by
  unfold ocC
  rw [occ_take h, decide_eq_false hx, List.length_append]
  rfl
theorem ocC_all (l : List Int) : ocC l l.length = ocM l := by unfold ocC ocM; rw [List.take_length]
theorem occ_at {l : List Int} {i : Nat} (h : i < l.length) (hx : 0 < l.getD i 0) : (occL 0 l)[ocC l i]? = some (i, l.getD i 0) := by
  have e := occ_app 0 (l.take (i + 1)) (l.drop (i + 1))
  rw [List.take_append_drop, occ_take h, decide_eq_true hx] at e
  rw [e]
  show ((occL 0 (l.take i) ++ [(i, l.getD i 0)]) ++ _)[(occL 0 (l.take i)).length]? = _
  rw [List.append_assoc, List.getElem?_append_right (Nat.le_refl _), Nat.sub_self]
  rfl
theorem itOc_len (l : List Int) : (itOc l).length = ocM l := by unfold itOc; rw [List.length_map, List.length_range]
theorem itOc_at {l : List Int} {j : Nat} (h : j < ocM l) : (itOc l)[j]? = some [.int .i64 (ocS l j), .int .i64 (ocN l j)] := by
  unfold itOc
  rw [List.getElem?_map, List.getElem?_range h]
  rfl
theorem itOc_occ {l : List Int} {i : Nat} (h : i < l.length) (hx : 0 < l.getD i 0) : (itOc l)[ocC l i]? = some [.int .i64 (i : Nat), .int .i64 (l.getD i 0)] := by
  have e := occ_at h hx
  have hj : ocC l i < ocM l := (List.getElem?_eq_some_iff.1 e).1
  have e2 : ocT l (ocC l i) = (i, l.getD i 0) := by unfold ocT; rw [List.getD_eq_getElem?_getD, e]; rfl
  rw [itOc_at hj]
  unfold ocS ocN
  rw [e2]
theorem occI_v (l : List Int) (hl : l.length ≤ 256) (l0 : Nat) : occI_t l l0 := by
  unfold occI_t
  simp only [toNat_cast, nle]
  refine ⟨(), 0, Nat.zero_le _, (by first | rfl | trivial), ⟨(by first | rfl | trivial), (by first | rfl | trivial), (by first | rfl | trivial), (by first | rfl | trivial)⟩, fun i hi => ⟨fun hlt => ?_, fun hge => ?_⟩⟩
  · have hlt : i < l.length := by simpa using hlt
    refine ⟨by omega, by omega, fun hx => ?_, fun hx => ?_⟩
    · have hx : 0 < l.getD i 0 := by simpa using hx
      exact ⟨(by first | rfl | trivial), itOc_occ hlt hx, ⟨i + 1, by omega, congrArg (fun k : Nat => (k, true)) (ocC_yes hlt hx).symm, by rw [Nat.sub_eq, Nat.sub_eq]; omega, (by first | rfl | trivial), (by first | rfl | trivial), (by first | rfl | trivial), cnt_wrap (by omega)⟩, (by first | rfl | trivial)⟩
    · have hx : ¬ 0 < l.getD i 0 := by simpa using hx
      exact ⟨i + 1, by omega, congrArg (fun k : Nat => (k, true)) (ocC_no hlt hx).symm, by rw [Nat.sub_eq, Nat.sub_eq]; omega, (by first | rfl | trivial), (by first | rfl | trivial), (by first | rfl | trivial), cnt_wrap (by omega)⟩
  · have hge : i = l.length := by simp at hge; omega
    rw [hge, itOc_len]
    exact ocC_all l
theorem pairI_v (l : List Int) (hl : l.length ≤ 256) (l0 : Nat) : pairI_t l l0 := occI_v l hl l0
theorem grI_lt {l : List Int} : ∀ i, i ≤ l.length → 0 < l.length → grI l i < l.length
  | 0, _, h => h
  | i + 1, hi, h => by
    have ih := grI_lt i (by omega) h
    show cond (decide (l.getD (grI l i) 0 < l.getD i 0)) i (grI l i) < _
    cases decide (l.getD (grI l i) 0 < l.getD i 0)
    · exact ih
    · show i < l.length; omega
theorem grE_v (l : List Int) (hl : l.length ≤ 4294967296) : grE_t l := by
  unfold grE_t
  simp only [toNat_cast, nle]
  refine ⟨⟨0, Nat.zero_le _, (by first | rfl | trivial), (by first | rfl | trivial), (by first | rfl | trivial), (by first | rfl | trivial), (by first | rfl | trivial)⟩, fun i hi => ⟨fun hlt => ?_, fun hge => ?_⟩⟩
  · have hlt : i < l.length := by simpa using hlt
    have hg := grI_lt i (by omega) (by omega)
    refine ⟨by omega, by omega, by omega, by omega, fun hx => ⟨i + 1, by omega, by rw [Nat.sub_eq, Nat.sub_eq]; omega, (by first | rfl | trivial), ?_, (by first | rfl | trivial), (by first | rfl | trivial), cnt_wrap64 (by omega)⟩, fun hx => ⟨i + 1, by omega, by rw [Nat.sub_eq, Nat.sub_eq]; omega, (by first | rfl | trivial), ?_, (by first | rfl | trivial), (by first | rfl | trivial), cnt_wrap64 (by omega)⟩⟩
    · have hx : decide (l.getD (grI l i) 0 < l.getD i 0) = true := hx
      show (i : Int) = ((cond (decide (l.getD (grI l i) 0 < l.getD i 0)) i (grI l i) : Nat) : Int)
      rw [hx]
      rfl
    · have hx : decide (l.getD (grI l i) 0 < l.getD i 0) = false := hx
      show _ = ((cond (decide (l.getD (grI l i) 0 < l.getD i 0)) i (grI l i) : Nat) : Int)
      rw [hx]
      rfl
  · have hge : i = l.length := by simp at hge; omega
    rw [hge]
    rfl
theorem totE_v (l : List Int) (h : okN l = true) : totE_t l := by
  unfold totE_t
  exact ⟨h, fun hb => (by cases hb), fun _ => ⟨h, (by first | rfl | trivial), (by first | rfl | trivial)⟩⟩
theorem sumIE_sound : Sound Tryz.prog 72 sSum.ctr := sSum.sound (by kernel_rfl) sSum_enc fun l hc => by
  have h0 := hc _ (.head _)
  exact satG G8n_ok mixed Tryz.func72 (sumIE_e l) (sumIE_v l h0)
theorem occuE_sound : Sound Tryz.prog 81 sOccu.ctr := sOccu.sound (by kernel_rfl) sOccu_enc fun l hc => by
  exact satG G8n_ok mixed Tryz.func81 (occuE_e l) ((rfl : l = l))
theorem pairE_sound : Sound Tryz.prog 85 sPairs.ctr := sPairs.sound (by kernel_rfl) sPairs_enc fun l hc => by
  exact satG G8n_ok mixed Tryz.func85 (pairE_e l) ((rfl : l = l))
theorem weighE_sound : Sound Tryz.prog 86 sWeigh.ctr := sWeigh.sound (by kernel_rfl) sWeigh_enc fun n hc => by
  exact satG G8n_ok mixed Tryz.func86 (weighE_e n) (weighE_v n)
theorem idnE_sound : Sound Tryz.prog 88 sSame.ctr := sSame.sound (by kernel_rfl) sSame_enc fun n hc => by
  exact satG G8n_ok mixed Tryz.func88 (idnE_e n) ((rfl : n = n))
theorem GIa_ok : AllOk Tryz.prog GIa := .cons sumIE_sound <| .cons occuE_sound <| .cons pairE_sound <| .cons weighE_sound <| .cons idnE_sound <| G8n_ok
theorem occ_isat (k : Nat) (l : List Int) (hl : l.length ≤ 256) : ISat Tryz.prog 109 [.p k 0 0] [(k, .cells 22 [.dat (.ints .i64 l)])] (itOc l) := by
  have h0 : ISat Tryz.prog 109 [.p 0 0 0] [(0, .cells 22 [.dat (.ints .i64 l)])] (itOc l) :=
    isat_of_vcI (Ωi := fun l0 => oOcF l0 l) G8n_ok mixed Tryz.func109 (by kernel_rfl) fun l0 => by
      have := occI_v l hl l0
      rw [occI_e] at this
      exact this
  exact h0.ren (fun i => k + i) (by intro a b _ _ e; omega) rfl rfl
theorem pair_isat (k : Nat) (l : List Int) (hl : l.length ≤ 256) : ISat Tryz.prog 112 [.p k 0 0] [(k, .cells 22 [.dat (.ints .i64 l)])] (itOc l) := by
  have h0 : ISat Tryz.prog 112 [.p 0 0 0] [(0, .cells 22 [.dat (.ints .i64 l)])] (itOc l) :=
    isat_of_vcI (Ωi := fun l0 => oOcF l0 l) G8n_ok mixed Tryz.func112 (by kernel_rfl) fun l0 => by
      have := pairI_v l hl l0
      rw [pairI_e] at this
      exact this
  exact h0.ren (fun i => k + i) (by intro a b _ _ e; omega) rfl rfl
theorem cckE_sound : Sound Tryz.prog 41 sCck.ctr := sCck.sound (by kernel_rfl) sCck_enc fun l hc => by
  have h0 := hc _ (.head _)
  exact satG GIa_ok mixed Tryz.func41 (cckE_e l) (cckE_v l h0)
theorem grE_sound : Sound Tryz.prog 87 sGreat.ctr := sGreat.sound (by kernel_rfl) sGreat_enc fun l hc => by
  have h0 := hc _ (.head _)
  exact satG GIa_ok mixed Tryz.func87 (grE_e l) (grE_v l h0)
theorem GIb_ok : AllOk Tryz.prog GIb := .cons cckE_sound <| .cons grE_sound <| GIa_ok
theorem disNE_v (l : List Int) (h : okN l = true) : disNE_t l := by
  have hk := okN0 h
  have hlen := hk.len
  have hm : ocM l ≤ 256 := by
    have : ∀ i, i ≤ l.length → ocC l i ≤ i := fun i => by
      induction i with
      | zero => intro _; exact Nat.le_refl _
      | succ i ih =>
        intro hi
        by_cases hx : 0 < l.getD i 0
        · rw [ocC_yes (by omega) hx]; have := ih (by omega); omega
        · rw [ocC_no (by omega) hx]; have := ih (by omega); omega
    have := this l.length (Nat.le_refl _)
    rw [ocC_all] at this
    omega
  have hl := itOc_len l
  unfold disNE_t
  unfold itOc at hl
  simp only [hl]
  refine ⟨h, fun hb => (by cases hb), fun _ => ⟨0, occ_isat _ l hlen, (by first | rfl | trivial), (by first | rfl | trivial), (by first | rfl | trivial), fun i hi _ => ⟨itOc_at hi, (by first | rfl | trivial), (by first | rfl | trivial), cnt_wrap (by omega)⟩, fun _ => ⟨(by first | rfl | trivial), (by first | rfl | trivial)⟩⟩⟩
theorem lastNE_v (l : List Int) (h : okN l = true) : lastNE_t l := by
  have hk := okN0 h
  have hlen := hk.len
  have hl := itOc_len l
  unfold lastNE_t
  unfold itOc at hl
  simp only [hl]
  refine ⟨h, fun hb => (by cases hb), fun _ => ⟨0, occ_isat _ l hlen, (by first | rfl | trivial), (by first | rfl | trivial), (by first | rfl | trivial), fun i hi _ => ⟨itOc_at hi, (by first | rfl | trivial), (by first | rfl | trivial), (by first | rfl | trivial)⟩, fun _ => ⟨fun hb => ?_, fun hb => ?_⟩⟩⟩
  · cases hm : ocM l with
    | zero => unfold laI laE; rw [hm]; exact ⟨rfl, rfl⟩
    | succ m =>
      rw [hm] at hb
      change decide (ocS l m < 0) = true at hb
      unfold ocS at hb
      simp only [decide_eq_true_eq] at hb
      omega
  · cases hm : ocM l with
    | zero => rw [hm] at hb; cases hb
    | succ m => unfold laI laE; rw [hm]; exact ⟨rfl, rfl⟩
theorem totE_sound : Sound Tryz.prog 111 sTot.ctr := sTot.sound (by kernel_rfl) sTot_enc fun l hc => by
  have h0 := hc _ (.head _)
  exact satG GIb_ok mixed Tryz.func111 (totE_e l) (totE_v l h0)
theorem disNE_sound : Sound Tryz.prog 53 sDisN.ctr := sDisN.sound (by kernel_rfl) sDisN_enc fun l hc => by
  have h0 := hc _ (.head _)
  exact satG GIb_ok mixed Tryz.func53 (disNE_e l) (disNE_v l h0)
theorem lastNE_sound : Sound Tryz.prog 54 sLastN.ctr := sLastN.sound (by kernel_rfl) sLastN_enc fun l hc => by
  have h0 := hc _ (.head _)
  exact satG GIb_ok mixed Tryz.func54 (lastNE_e l) (lastNE_v l h0)
theorem GIc_ok : AllOk Tryz.prog GIc := .cons totE_sound <| .cons disNE_sound <| .cons lastNE_sound <| GIb_ok
theorem chkNE_v (l : List Int) (h : okN l = true) : chkNE_t l := by
  unfold chkNE_t ckT laE
  refine ⟨h, fun hb => (by cases hb), fun _ => ⟨h, fun hb => ?_, fun hb => ?_⟩⟩
  · have hm : ocM l = 0 := by simp only [beq_iff_eq] at hb; omega
    rw [hm]
    exact ⟨rfl, rfl, rfl⟩
  · have hm : Nat.beq (ocM l) 0 = false := by
      simp only [beq_eq_false_iff_ne, ne_eq] at hb
      cases hn : Nat.beq (ocM l) 0
      · rfl
      · have := Nat.eq_of_beq_eq_true hn; omega
    rw [hm]
    exact ⟨rfl, rfl, rfl⟩
theorem chkNE_sound : Sound Tryz.prog 83 sChkN.ctr := sChkN.sound (by kernel_rfl) sChkN_enc fun l hc => by
  have h0 := hc _ (.head _)
  exact satG GIc_ok mixed Tryz.func83 (chkNE_e l) (chkNE_v l h0)
theorem GId_ok : AllOk Tryz.prog GId := .cons chkNE_sound <| GIc_ok
end Go.Proofs.YtcoogfifjibkhaaGreat
namespace Go.Proofs.YtcoogfifjibkhaaGreat
open Go Go.RowKit
set_option linter.unusedVariables false
set_option linter.unusedSimpArgs false
set_option maxRecDepth 100000
def sF (f : Int → Int) : List Int → Int
  | [] => 0
  | x :: r => f x + sF f r
def nzF (x : Int) : Int := cond (x == 0) 0 1
theorem sF_set (f : Int → Int) : ∀ (l : List Int) (i : Nat) (v : Int), i < l.length → sF f (l.set i v) = sF f l - f (l.getD i 0) + f v
  | [], i, v, h => by simp at h
  | x :: r, 0, v, h => by
    show f v + sF f r = f x + sF f r - f x + f v
    omega
  | x :: r, i + 1, v, h => by
    have ih := sF_set f r i v (by simpa using h)
    show f x + sF f (r.set i v) = f x + sF f r - f (r.getD i 0) + f v
    omega
theorem sF_pts : ∀ l : List Int, pts l = sF pt l
  | [] => rfl
  | x :: r => by
    rw [pts_cons, sF_pts r]
    rfl
theorem sF_le {f g : Int → Int} : ∀ {l : List Int}, (∀ x ∈ l, f x ≤ g x) → sF f l ≤ sF g l
  | [], _ => Int.le_refl _
  | x :: r, h => by
    have ih := sF_le fun y hy => h y (List.mem_cons_of_mem _ hy)
    have := h x (by simp)
    show f x + sF f r ≤ g x + sF g r
    omega
theorem sF_rep (f : Int → Int) (h0 : f 0 = 0) : ∀ n : Nat, sF f (List.replicate n 0) = 0
  | 0 => rfl
  | n + 1 => by
    have := sF_rep f h0 n
    show f 0 + sF f (List.replicate n 0) = 0
    omega
theorem pt_0 : pt 0 = 0 := rfl
theorem nz_0 : nzF 0 = 0 := rfl
theorem nz_1 {x : Int} (h : x ≠ 0) : nzF x = 1 := by
  unfold nzF
  rw [show (x == 0) = false by simpa using h]
  rfl
theorem occ_prop : ∀ (l : List Int) (s : Nat), (occL s l).Pairwise (fun a b => a.1 < b.1) ∧ ∀ x ∈ occL s l, s ≤ x.1 ∧ x.1 < s + l.length ∧ 0 < x.2 ∧ l.getD (x.1 - s) 0 = x.2
  | [], s => ⟨List.Pairwise.nil, fun x hx => by cases hx⟩
  | y :: r, s => by
    obtain ⟨i1, i2⟩ := occ_prop r (s + 1)
    have hr : ∀ x ∈ occL (s + 1) r, s ≤ x.1 ∧ x.1 < s + (y :: r).length ∧ 0 < x.2 ∧ (y :: r).getD (x.1 - s) 0 = x.2 := fun x hx => by
      obtain ⟨a, b, c, d⟩ := i2 x hx
      refine ⟨by omega, by rw [List.length_cons]; omega, c, ?_⟩
      rw [show x.1 - s = (x.1 - (s + 1)) + 1 by omega]
      exact d
    have e : occL s (y :: r) = cond (decide (0 < y)) ((s, y) :: occL (s + 1) r) (occL (s + 1) r) := rfl
    cases hy : decide (0 < y)
    · rw [hy, cond_false] at e
      rw [e]
      exact ⟨i1, hr⟩
    · rw [hy, cond_true] at e
      rw [e]
      have hy : 0 < y := by simpa using hy
      refine ⟨List.Pairwise.cons (fun x hx => ?_) i1, fun x hx => ?_⟩
      · have := (i2 x hx).1
        show s < x.1
        omega
      · rcases List.mem_cons.1 hx with rfl | hx
        · refine ⟨Nat.le_refl _, by rw [List.length_cons]; omega, hy, ?_⟩
          rw [Nat.sub_self]
          rfl
        · exact hr x hx
def ocP (l : List Int) (i : Nat) : Nat := (ocT l i).1
theorem ocS_P (l : List Int) (i : Nat) : ocS l i = (ocP l i : Nat) := rfl
theorem ocT_get {l : List Int} {j : Nat} (h : j < ocM l) : ocT l j = (occL 0 l)[j]'h := by
  unfold ocT
  rw [List.getD_eq_getElem?_getD, List.getElem?_eq_getElem h]
  rfl
theorem ocT_mem {l : List Int} {j : Nat} (h : j < ocM l) : ocP l j < l.length ∧ 0 < ocN l j ∧ l.getD (ocP l j) 0 = ocN l j := by
  have hm : ocT l j ∈ occL 0 l := by rw [ocT_get h]; exact List.getElem_mem _
  obtain ⟨_, b, c, d⟩ := (occ_prop l 0).2 _ hm
  exact ⟨by unfold ocP; omega, c, d⟩
theorem ocP_lt {l : List Int} {j k : Nat} (h : j < k) (hk : k < ocM l) : ocP l j < ocP l k := by
  have := List.pairwise_iff_getElem.1 (occ_prop l 0).1 j k (by unfold ocM at hk; omega) hk h
  unfold ocP
  rw [ocT_get (by omega), ocT_get hk]
  exact this
theorem ocP_of {l : List Int} {i : Nat} (h : i < l.length) (hx : 0 < l.getD i 0) : ∃ j, j < ocM l ∧ ocP l j = i := by
  have e := occ_at h hx
  refine ⟨ocC l i, (List.getElem?_eq_some_iff.1 e).1, ?_⟩
  unfold ocP ocT
  rw [List.getD_eq_getElem?_getD, e]
  rfl
theorem laI_eq {l : List Int} (h : 0 < ocM l) : laI l = (ocP l (ocM l - 1) : Nat) := by
  unfold laI
  have : Nat.beq (ocM l) 0 = false := by
    cases hb : Nat.beq (ocM l) 0
    · rfl
    · have := Nat.eq_of_beq_eq_true hb; omega
  rw [this]
  rfl
theorem ocP_le {l : List Int} {j : Nat} (h : j < ocM l) : ((ocP l j : Nat) : Int) ≤ laI l := by
  rw [laI_eq (by omega)]
  rcases Nat.lt_or_ge j (ocM l - 1) with h1 | h1
  · have := ocP_lt (l := l) h1 (by omega)
    omega
  · rw [show j = ocM l - 1 by omega]
    exact Int.le_refl _
theorem mem_sum : ∀ {l : List Int}, (∀ x ∈ l, 0 ≤ x) → ∀ x ∈ l, x ≤ sumI l
  | [], _, x, hx => by cases hx
  | y :: r, h, x, hx => by
    have h0 := sumI_nn (l := r) fun y hy => h y (List.mem_cons_of_mem _ hy)
    have hy := h y (by simp)
    show x ≤ y + sumI r
    rcases List.mem_cons.1 hx with rfl | hx
    · omega
    · have := mem_sum (fun y hy => h y (List.mem_cons_of_mem _ hy)) x hx
      omega
theorem grI_max {l : List Int} : ∀ n, ∀ i, i < n → l.getD i 0 ≤ l.getD (grI l n) 0
  | n + 1, i, h => by
    show l.getD i 0 ≤ l.getD (cond (decide (l.getD (grI l n) 0 < l.getD n 0)) n (grI l n)) 0
    have ih := grI_max (l := l) n i
    cases hb : decide (l.getD (grI l n) 0 < l.getD n 0)
    · simp only [decide_eq_false_iff_not] at hb
      simp only [cond_false]
      by_cases hi : i = n
      · rw [hi]; omega
      · exact ih (by omega)
    · simp only [decide_eq_true_eq] at hb
      simp only [cond_true]
      by_cases hi : i = n
      · rw [hi]; exact Int.le_refl _
      · have := ih (by omega); omega
theorem grA_lt {l : List Int} (h : 0 < l.length) : grA l < l.length := grI_lt l.length (Nat.le_refl _) h
theorem grA_max {l : List Int} (i : Nat) (h : i < l.length) : l.getD i 0 ≤ l.getD (grA l) 0 := grI_max l.length i h
structure WiH (l : List Int) (g : Int) : Prop where
  k : OkN l
  g5 : 5 ≤ g
  g12 : g ≤ 12
  m : 0 < ocM l
  m2 : (ocM l : Int) ≤ 2 ^ g.toNat
theorem wiE_0 {l : List Int} {g : Int} (hk : okN l = true) (h : wiE l g = 0) : WiH l g := by
  unfold wiE at h
  cases h1 : Nat.beq (ocM l) 0
  · rw [h1, cond_false] at h
    cases h2 : decide (g < 5) || decide (12 < g)
    · rw [h2, cond_false] at h
      cases h3 : decide (2 ^ g.toNat < (ocM l : Int))
      · simp only [Bool.or_eq_false_iff, decide_eq_false_iff_not] at h2 h3
        refine ⟨okN0 hk, by omega, by omega, ?_, by omega⟩
        rcases Nat.eq_zero_or_pos (ocM l) with h0 | h0
        · rw [h0] at h1; cases h1
        · exact h0
      · rw [h3] at h; cases h
    · rw [h2] at h; cases h
  · rw [h1] at h; cases h
theorem WiH.tot {l : List Int} {g : Int} (h : WiH l g) {j : Nat} (hj : j < ocM l) : 1 ≤ ocN l j ∧ ocN l j ≤ sumI l := by
  obtain ⟨a, b, c⟩ := ocT_mem hj
  have := mem_sum h.k.nn _ (getD_mem' a)
  omega
theorem WiH.pw {l : List Int} {g : Int} (h : WiH l g) : 32 ≤ (2 : Int) ^ g.toNat ∧ (2 : Int) ^ g.toNat ≤ 4096 := by
  have h5 := h.g5
  have h12 := h.g12
  have a := pow_mono (show 5 ≤ g.toNat by omega)
  have b := pow_mono (show g.toNat ≤ 12 by omega)
  rw [show (2 : Int) ^ 5 = 32 from rfl] at a
  rw [show (2 : Int) ^ 12 = 4096 from rfl] at b
  exact ⟨a, b⟩
theorem WiH.q {l : List Int} {g : Int} (h : WiH l g) {j : Nat} (hj : j < ocM l) : 0 ≤ wiQ l g j ∧ wiQ l g j ≤ 4096 ∧ 0 ≤ ocN l j * 2 ^ g.toNat ∧ ocN l j * 2 ^ g.toNat ≤ 1099511627776 * 4096 := by
  obtain ⟨t1, t2⟩ := h.tot hj
  obtain ⟨p1, p2⟩ := h.pw
  have hs := h.k.sum
  have n0 : 0 ≤ ocN l j * 2 ^ g.toNat := Int.mul_nonneg (by omega) (by omega)
  have n1 : ocN l j * 2 ^ g.toNat ≤ 1099511627776 * 4096 := Int.mul_le_mul (by omega) p2 (by omega) (by decide)
  unfold wiQ
  rw [Int.tdiv_eq_ediv_of_nonneg n0]
  refine ⟨Int.ediv_nonneg n0 (by omega), ?_, n0, n1⟩
  have : ocN l j * 2 ^ g.toNat / sumI l ≤ 2 ^ g.toNat := by
    refine Int.ediv_le_of_le_mul (by omega) ?_
    rw [Int.mul_comm (2 ^ g.toNat)]
    exact Int.mul_le_mul_of_nonneg_right t2 (by omega)
  omega
theorem WiH.v {l : List Int} {g : Int} (h : WiH l g) {j : Nat} (hj : j < ocM l) : wiV l g j ≠ 0 ∧ -1 ≤ wiV l g j ∧ wiV l g j ≤ 4096 ∧ 1 ≤ pt (wiV l g j) ∧ pt (wiV l g j) ≤ 4096 := by
  obtain ⟨q0, q1, _⟩ := h.q hj
  unfold wiV
  cases hb : wiQ l g j == 0
  · have hb : wiQ l g j ≠ 0 := by simpa using hb
    simp only [cond_false]
    have e : pt (wiQ l g j) = wiQ l g j := pt_pos (decide_eq_false (by omega))
    rw [e]
    omega
  · simp only [cond_true]
    decide
structure WOk (l : List Int) (g : Int) (p : List Int) (left : Int) (n : Nat) : Prop where
  len : p.length = (laI l + 1).toNat
  lo : ∀ i, -1 ≤ p.getD i 0
  hi : ∀ i, p.getD i 0 ≤ 4096 + 2 ^ g.toNat
  nz : sF nzF p ≤ n
  sum : sF pt p + left = 2 ^ g.toNat
structure WiI (l : List Int) (g : Int) (i : Nat) : Prop where
  w : WOk l g (wiAL l g i) (wiAn l g i) i
  hi : ∀ k, (wiAL l g i).getD k 0 ≤ 4096
  z : ∀ s, (∀ j, j < i → ocP l j ≠ s) → (wiAL l g i).getD s 0 = 0
  y : ∀ j, j < i → (wiAL l g i).getD (ocP l j) 0 ≠ 0
  b : -((i : Int) * 4096) ≤ wiAn l g i
  b2 : wiAn l g i ≤ 4096
theorem getD_rep (n i : Nat) : (List.replicate n (0 : Int)).getD i 0 = 0 := by
  rw [List.getD_eq_getElem?_getD, List.getElem?_replicate]
  split <;> rfl
theorem laI_bd {l : List Int} (h : 0 < ocM l) : 0 ≤ laI l ∧ laI l < l.length := by
  rw [laI_eq h]
  have := (ocT_mem (l := l) (j := ocM l - 1) (by omega)).1
  omega
theorem wi_inv {l : List Int} {g : Int} (h : WiH l g) : ∀ i, i ≤ ocM l → WiI l g i
  | 0, _ => by
    obtain ⟨p1, p2⟩ := h.pw
    have e : wiAL l g 0 = List.replicate (laI l + 1).toNat 0 := rfl
    have e2 : wiAn l g 0 = 2 ^ g.toNat := rfl
    refine ⟨⟨?_, fun i => ?_, fun i => ?_, ?_, ?_⟩, fun k => ?_, fun s _ => ?_, fun j hj => by omega, by rw [e2]; omega, by rw [e2]; omega⟩
    · rw [e, List.length_replicate]
    · rw [e, getD_rep]; decide
    · rw [e, getD_rep]; omega
    · rw [e, sF_rep _ nz_0]; decide
    · rw [e, sF_rep _ pt_0, e2]; omega
    · rw [e, getD_rep]; decide
    · rw [e, getD_rep]
  | i + 1, hi => by
    have ih := wi_inv h i (by omega)
    have hj : i < ocM l := by omega
    obtain ⟨v0, v1, v2, v3, v4⟩ := h.v hj
    obtain ⟨p1, p2⟩ := h.pw
    have hle := ocP_le hj
    have hla := laI_bd h.m
    have hlen := ih.w.len
    have hp : ocP l i < (wiAL l g i).length := by omega
    have eP : (ocS l i).toNat = ocP l i := by rw [ocS_P, toNat_cast]
    have e : wiAL l g (i + 1) = (wiAL l g i).set (ocP l i) (wiV l g i) := by rw [← eP]; rfl
    have e2 : wiAn l g (i + 1) = wiAn l g i - pt (wiV l g i) := rfl
    have hz := ih.z (ocP l i) fun j hj2 => by have := ocP_lt hj2 hj; omega
    have hnz := sF_set nzF (wiAL l g i) (ocP l i) (wiV l g i) hp
    have hpt := sF_set pt (wiAL l g i) (ocP l i) (wiV l g i) hp
    rw [hz, nz_0, nz_1 v0] at hnz
    rw [hz, pt_0] at hpt
    have hn := ih.w.nz
    have hs := ih.w.sum
    have hb := ih.b
    have hb2 := ih.b2
    refine ⟨⟨?_, fun k => ?_, fun k => ?_, ?_, ?_⟩, fun k => ?_, fun s hs2 => ?_, fun j hj2 => ?_, by rw [e2]; omega, by rw [e2]; omega⟩
    · rw [e, List.length_set]; exact hlen
    · rw [e]; exact getD_set' (fun z => -1 ≤ z) (by decide) v1 ih.w.lo
    · rw [e]; exact getD_set' (fun z => z ≤ 4096 + 2 ^ g.toNat) (by omega) (by omega) ih.w.hi
    · rw [e, hnz]; omega
    · rw [e, hpt, e2]; omega
    · rw [e]; exact getD_set' (fun z => z ≤ 4096) (by decide) v2 ih.hi
    · rw [e, getD_setn (hs2 i (by omega))]
      exact ih.z s fun j hj => hs2 j (by omega)
    · rw [e]
      by_cases hji : j = i
      · rw [hji, getD_setj hp]; exact v0
      · have := ocP_lt (l := l) (j := j) (k := i) (by omega) hj
        rw [getD_setn (by omega)]
        exact ih.y j (by omega)
structure WiF (l : List Int) (g : Int) (p : List Int) (left : Int) : Prop where
  w : WOk l g p left (ocM l)
  y : ∀ j, j < ocM l → p.getD (ocP l j) 0 ≠ 0
theorem gr_occ {l : List Int} {g : Int} (h : WiH l g) : ∃ j, j < ocM l ∧ ocP l j = grA l := by
  obtain ⟨a, b, c⟩ := ocT_mem (l := l) (j := 0) h.m
  have := grA_max (l := l) (ocP l 0) a
  exact ocP_of (grA_lt (by omega)) (by omega)
theorem pt_up {x : Int} (h : -1 ≤ x) {b : Int} (hb : x ≤ b) (h1 : 1 ≤ b) : pt x ≤ b := by
  unfold pt
  by_cases h1 : x < 0
  · rw [decide_eq_true h1]; simpa using by omega
  · rw [decide_eq_false h1]; simpa using hb
theorem wi_top {l : List Int} {g : Int} (h : WiH l g) : WiF l g (wiB l g) (wiN l g) ∧ wiN l g ≤ 0 ∧ -(256 * 4096) ≤ wiN l g := by
  have hi := wi_inv h (ocM l) (Nat.le_refl _)
  have hla := laI_bd h.m
  have hm := h.m
  have hml : ocM l ≤ l.length := by
    have : ∀ i, i ≤ l.length → ocC l i ≤ i := fun i => by
      induction i with
      | zero => intro _; exact Nat.le_refl _
      | succ i ih =>
        intro hi
        by_cases hx : 0 < l.getD i 0
        · rw [ocC_yes (by omega) hx]; have := ih (by omega); omega
        · rw [ocC_no (by omega) hx]; have := ih (by omega); omega
    have := this l.length (Nat.le_refl _)
    rw [ocC_all] at this
    exact this
  have hl256 := h.k.len
  have hb := hi.b
  obtain ⟨p1, p2⟩ := h.pw
  unfold wiB wiN
  cases hc : decide (0 < wiAn l g (ocM l))
  · simp only [decide_eq_false_iff_not] at hc
    simp only [cond_false]
    exact ⟨⟨hi.w, hi.y⟩, by omega, by omega⟩
  · simp only [decide_eq_true_eq] at hc
    simp only [cond_true]
    obtain ⟨j, hj, hjg⟩ := gr_occ h
    have hle := ocP_le hj
    have hlen := hi.w.len
    have hp : grA l < (wiAL l g (ocM l)).length := by omega
    have hold := hi.y j hj
    rw [hjg] at hold
    have hlo := hi.w.lo (grA l)
    have hh := hi.hi (grA l)
    have h1 := pt_one hlo hold
    have h2 := pt_up hlo hh (by decide)
    have hs := hi.w.sum
    have hnn : 0 ≤ sF pt (wiAL l g (ocM l)) := by rw [← sF_pts]; exact pts_nonneg _
    have hv : pt (pt ((wiAL l g (ocM l)).getD (grA l) 0) + wiAn l g (ocM l)) = pt ((wiAL l g (ocM l)).getD (grA l) 0) + wiAn l g (ocM l) := pt_pos (decide_eq_false (by omega))
    have hnz := sF_set nzF (wiAL l g (ocM l)) (grA l) (pt ((wiAL l g (ocM l)).getD (grA l) 0) + wiAn l g (ocM l)) hp
    have hpt := sF_set pt (wiAL l g (ocM l)) (grA l) (pt ((wiAL l g (ocM l)).getD (grA l) 0) + wiAn l g (ocM l)) hp
    rw [nz_1 hold, nz_1 (by omega)] at hnz
    rw [hv] at hpt
    have hn := hi.w.nz
    refine ⟨⟨⟨?_, fun k => ?_, fun k => ?_, ?_, ?_⟩, fun i hi2 => ?_⟩, Int.le_refl _, by omega⟩
    · rw [List.length_set]; exact hlen
    · exact getD_set' (fun z => -1 ≤ z) (by decide) (by omega) hi.w.lo
    · exact getD_set' (fun z => z ≤ 4096 + 2 ^ g.toNat) (by omega) (by omega) hi.w.hi
    · rw [hnz]; omega
    · rw [hpt]; omega
    · by_cases he : grA l = ocP l i
      · rw [← he, getD_setj hp]; omega
      · rw [getD_setn he]; exact hi.y i hi2
theorem mem_getD {p : List Int} {x : Int} (h : x ∈ p) : ∃ i, i < p.length ∧ p.getD i 0 = x := by
  obtain ⟨i, hi, e⟩ := List.getElem_of_mem h
  exact ⟨i, hi, by rw [List.getD_eq_getElem?_getD, List.getElem?_eq_getElem hi]; exact e⟩
theorem two_max {l : List Int} {g : Int} (h : WiH l g) {p : List Int} {left : Int} (hw : WOk l g p left (ocM l)) (hl : left < 0) : 2 ≤ p.getD (grA p) 0 ∧ grA p < p.length := by
  have hla := laI_bd h.m
  have hlen := hw.len
  refine ⟨?_, grA_lt (by omega)⟩
  rcases Int.lt_or_le (p.getD (grA p) 0) 2 with h1 | h1
  · exfalso
    have hle : sF pt p ≤ sF nzF p := sF_le fun x hx => by
      obtain ⟨i, hi, e⟩ := mem_getD hx
      have a := hw.lo i
      have b := grA_max (l := p) i hi
      rw [e] at a b
      by_cases h0 : x = 0
      · rw [h0]; decide
      · rw [nz_1 h0]
        exact pt_up a (by omega) (by decide)
    have hs := hw.sum
    have hn := hw.nz
    have := h.m2
    omega
  · exact h1
theorem wi_down {l : List Int} {g : Int} (h : WiH l g) : ∀ k, k ≤ wiK l g → WiF l g (wiD l g k) (wiN l g + (k : Nat))
  | 0, _ => by
    have := (wi_top h).1
    show WiF l g (wiB l g) (wiN l g + ((0 : Nat) : Int))
    rw [show wiN l g + ((0 : Nat) : Int) = wiN l g by omega]
    exact this
  | k + 1, hk => by
    have ih := wi_down h k (by omega)
    have hn0 := (wi_top h).2.1
    have hla := laI_bd h.m
    have hleft : wiN l g + (k : Int) < 0 := by unfold wiK at hk; omega
    obtain ⟨h2, hp⟩ := two_max h ih.w hleft
    have e : wiD l g (k + 1) = (wiD l g k).set (grA (wiD l g k)) ((wiD l g k).getD (grA (wiD l g k)) 0 - 1) := rfl
    have hnz := sF_set nzF (wiD l g k) (grA (wiD l g k)) ((wiD l g k).getD (grA (wiD l g k)) 0 - 1) hp
    have hpt := sF_set pt (wiD l g k) (grA (wiD l g k)) ((wiD l g k).getD (grA (wiD l g k)) 0 - 1) hp
    rw [nz_1 (by omega), nz_1 (by omega)] at hnz
    rw [pt_pos (p := (wiD l g k).getD (grA (wiD l g k)) 0) (decide_eq_false (by omega)), pt_pos (p := (wiD l g k).getD (grA (wiD l g k)) 0 - 1) (decide_eq_false (by omega))] at hpt
    have hs := ih.w.sum
    have hn := ih.w.nz
    have hh := ih.w.hi (grA (wiD l g k))
    obtain ⟨p1, p2⟩ := h.pw
    refine ⟨⟨?_, fun i => ?_, fun i => ?_, ?_, ?_⟩, fun i hi2 => ?_⟩
    · rw [e, List.length_set]; exact ih.w.len
    · rw [e]; exact getD_set' (fun z => -1 ≤ z) (by decide) (by omega) ih.w.lo
    · rw [e]; exact getD_set' (fun z => z ≤ 4096 + 2 ^ g.toNat) (by omega) (by omega) ih.w.hi
    · rw [e, hnz]; omega
    · rw [e, hpt]; push_cast; omega
    · rw [e]
      by_cases he : grA (wiD l g k) = ocP l i
      · rw [← he, getD_setj hp]; omega
      · rw [getD_setn he]; exact ih.y i hi2
theorem with_ok {l : List Int} {g : Int} (hk : okN l = true) (h : wiE l g = 0) : wiG l g = g ∧ dchk g (wiP l g) = 0 ∧ ∀ s, s < l.length → 0 < l.getD s 0 → (wiP l g).getD s 0 ≠ 0 := by
  have hH := wiE_0 hk h
  have hd := wi_down hH (wiK l g) (Nat.le_refl _)
  have hla := laI_bd hH.m
  have hn0 := (wi_top hH).2.1
  have hl256 := hH.k.len
  have hlen := hd.w.len
  have hs := hd.w.sum
  have e : wiP l g = wiD l g (wiK l g) := by unfold wiP; rw [beq0 h]; rfl
  refine ⟨by unfold wiG; rw [beq0 h]; rfl, ?_, fun s hs2 hp => ?_⟩
  case refine_2 =>
    rw [e]
    obtain ⟨j, hj, hjs⟩ := ocP_of hs2 hp
    rw [← hjs]
    exact hd.y j hj
  rw [e]
  refine dchk0' ⟨hH.g5, hH.g12, by omega, by omega, fun x hx => ?_, ?_, ?_⟩
  · obtain ⟨i, hi, ei⟩ := mem_getD hx
    rw [← ei]
    exact hd.w.lo i
  · rw [show (wiD l g (wiK l g)).length - 1 = (laI l).toNat by omega]
    rw [laI_eq hH.m, toNat_cast]
    have := hH.m
    exact hd.y _ (by omega)
  · rw [sF_pts]
    have : wiN l g + (wiK l g : Int) = 0 := by unfold wiK; omega
    omega
end Go.Proofs.YtcoogfifjibkhaaGreat
namespace Go.Proofs.YtcoogfifjibkhaaGreat
open Go Go.RowKit
set_option linter.unusedVariables false
set_option linter.unusedSimpArgs false
set_option maxRecDepth 100000
theorem with_bad {l : List Int} {g e : Int} (h : wiE l g = e) (he : e ≠ 0) : (0 : Int) = wiG l g ∧ (wiP l g).length = 0 ∧ e = wiE l g := by
  have hb : (wiE l g == 0) = false := by rw [h]; simpa using he
  unfold wiG wiP
  rw [hb]
  exact ⟨rfl, rfl, h.symm⟩
theorem wiE_out {l : List Int} {g : Int} (hm : Nat.beq (ocM l) 0 = false) (hg : (decide (g < 5) || decide (12 < g)) = true) : wiE l g = 31 := by
  unfold wiE
  rw [hm, hg]
  rfl
theorem wiE_in {l : List Int} {g : Int} (hm : Nat.beq (ocM l) 0 = false) (h1 : 5 ≤ g) (h2 : g ≤ 12) : wiE l g = cond (decide (2 ^ g.toNat < (ocM l : Int))) 2 0 := by
  unfold wiE
  rw [hm, decide_eq_false (by omega), decide_eq_false (by omega)]
  rfl
theorem ocM_le (l : List Int) : ocM l ≤ l.length := by
  have : ∀ i, i ≤ l.length → ocC l i ≤ i := fun i => by
    induction i with
    | zero => intro _; exact Nat.le_refl _
    | succ i ih =>
      intro hi
      by_cases hx : 0 < l.getD i 0
      · rw [ocC_yes (by omega) hx]; have := ih (by omega); omega
      · rw [ocC_no (by omega) hx]; have := ih (by omega); omega
  have := this l.length (Nat.le_refl _)
  rw [ocC_all] at this
  exact this
theorem quo_u64 {l : List Int} {g : Int} (h : WiH l g) {j : Nat} (hj : j < ocM l) : IntKind.wrap IntKind.i64 (IntKind.wrap IntKind.u64 (Int.tdiv (IntKind.wrap IntKind.u64 (IntKind.wrap IntKind.u64 (ocN l j) * (2 : Int) ^ min (Int.toNat g) (IntKind.bits IntKind.u64))) (IntKind.wrap IntKind.u64 (sumI l)))) = wiQ l g j := by
  obtain ⟨q0, q1, n0, n1⟩ := h.q hj
  obtain ⟨t1, t2⟩ := h.tot hj
  have hs := h.k.sum
  have h12 := h.g12
  have e : min g.toNat (IntKind.bits IntKind.u64) = g.toNat := by rw [bu64]; omega
  rw [e, wru (n := ocN l j) (by omega) (by omega), wru n0 (by omega), wru (n := sumI l) (by omega) (by omega)]
  have e2 : Int.tdiv (ocN l j * 2 ^ g.toNat) (sumI l) = wiQ l g j := rfl
  rw [e2, wru q0 (by omega), wr (by omega) (by omega)]
theorem withE_v (l : List Int) (g : Int) (h : okN l = true) : withE_t l g := by
  have hk := okN0 h
  have hlen := hk.len
  have hl := itOc_len l
  unfold withE_t
  unfold itOc at hl
  simp only [hl, toNat_cast]
  refine ⟨h, fun hb => ?_, fun hb => ?_⟩
  · have hm : Nat.beq (ocM l) 0 = true := by
      cases hn : Nat.beq (ocM l) 0
      · unfold laE at hb; rw [hn] at hb; cases hb
      · rfl
    have e : wiE l g = 7 := by unfold wiE; rw [hm]; rfl
    have e2 : laE l = 7 := by unfold laE; rw [hm]; rfl
    rw [e2]
    exact with_bad e (by decide)
  have hm : Nat.beq (ocM l) 0 = false := by
    cases hn : Nat.beq (ocM l) 0
    · rfl
    · unfold laE at hb; rw [hn] at hb; cases hb
  refine ⟨fun h5 => with_bad (wiE_out hm (by rw [h5]; rfl)) (by decide), fun h5 => ⟨fun h12 => with_bad (wiE_out hm (by rw [show decide (12 < g) = true from h12, Bool.or_true])) (by decide), fun h12 => ?_⟩⟩
  have h5 : 5 ≤ g := by simp only [decide_eq_false_iff_not] at h5; omega
  have h12 : g ≤ 12 := by simp only [gt_iff_lt, decide_eq_false_iff_not] at h12; omega
  simp only [wu h5 h12, sz_wrap h5 h12]
  refine ⟨by omega, fun hbig => ?_, fun hbig => ?_⟩
  · refine with_bad (e := 2) ?_ (by decide)
    rw [wiE_in hm h5 h12]
    have : decide (2 ^ g.toNat < (ocM l : Int)) = true := by rw [← szI]; exact hbig
    rw [this]
    rfl
  have hE : wiE l g = 0 := by
    rw [wiE_in hm h5 h12]
    have : decide (2 ^ g.toNat < (ocM l : Int)) = false := by rw [← szI]; exact hbig
    rw [this]
    rfl
  have hH := wiE_0 h hE
  have hla := laI_bd hH.m
  obtain ⟨hT, hn0, hn1⟩ := wi_top hH
  have hml := ocM_le l
  have hwo := with_ok h hE
  have hck : ckT l = sumI l := by unfold ckT; rw [hm]; rfl
  have hs := hk.sum
  have ht := hH.tot (j := 0) hH.m
  have hA := wi_inv hH (ocM l) (Nat.le_refl _)
  obtain ⟨p1, p2⟩ := hH.pw
  rw [show IntKind.wrap IntKind.i64 (laI l + 1) = laI l + 1 from wr (by omega) (by omega)]
  refine ⟨h, by omega, Int.le_refl _, by omega, by omega, by omega, 0, pair_isat _ l hlen, (by first | rfl | trivial), (by first | rfl | trivial), ⟨(by first | rfl | trivial), hck, (by first | rfl | trivial), (by first | rfl | trivial), (by first | rfl | trivial), ?_, (by first | rfl | trivial)⟩, fun i hi _ => ⟨itOc_at hi, (by first | rfl | trivial), by omega, ?_, fun hq => ?_, fun hq => ?_⟩, fun _ => ⟨fun hc => ?_, fun hc => ?_⟩⟩
  · rw [szI]; rfl
  · rw [wru (by omega) (by omega)]; omega
  · rw [quo_u64 hH hi] at hq
    have hW := wi_inv hH i (by omega)
    have hb1 := hW.b
    have hb2 := hW.b2
    have hle := ocP_le hi
    have hlw := hW.w.len
    have eV : wiV l g i = -1 := by unfold wiV; rw [hq]; rfl
    have e1 : pt (-1) = 1 := rfl
    have eP := ocS_P l i
    refine ⟨by omega, by omega, by omega, (by first | rfl | trivial), (by first | rfl | trivial), (by first | rfl | trivial), (by first | rfl | trivial), (by first | rfl | trivial), ?_, ?_⟩
    · rw [wr (by omega) (by omega)]
      show _ = wiAn l g i - pt (wiV l g i)
      rw [eV]
    · show _ = (wiAL l g i).set (ocS l i).toNat (wiV l g i)
      rw [eV]
  · rw [quo_u64 hH hi] at hq ⊢
    have hW := wi_inv hH i (by omega)
    have hb1 := hW.b
    have hb2 := hW.b2
    have hle := ocP_le hi
    have hlw := hW.w.len
    have eV : wiV l g i = wiQ l g i := by unfold wiV; rw [hq]; rfl
    have hv := hH.v hi
    have eP := ocS_P l i
    rw [← eV]
    refine ⟨by omega, by omega, by omega, (by first | rfl | trivial), (by first | rfl | trivial), (by first | rfl | trivial), (by first | rfl | trivial), (by first | rfl | trivial), ?_, (by first | rfl | trivial)⟩
    rw [wr (by omega) (by omega)]
    rfl
  · have hc' : decide (0 < wiAn l g (ocM l)) = true := hc
    have hN : wiN l g = 0 := by unfold wiN; rw [hc']; rfl
    have hcc : 0 < wiAn l g (ocM l) := by simpa using hc'
    obtain ⟨j, hj, hjg⟩ := gr_occ hH
    have hle := ocP_le hj
    have hlw := hA.w.len
    have hb2 := hA.b2
    have hlo := hA.w.lo (grA l)
    have hpu := pt_up hlo (hA.hi (grA l)) (by decide)
    have hp0 := pt_nonneg ((wiAL l g (ocM l)).getD (grA l) 0)
    refine ⟨by omega, by omega, by omega, by omega, by omega, by omega, by omega, ⟨0, ⟨Nat.zero_le _, hE⟩, (by first | rfl | trivial), (by first | rfl | trivial), (by first | rfl | trivial), by rw [hN]; rfl, ?_⟩, fun k ⟨hk2, _⟩ => ⟨fun h0 => ?_, fun h0 => ?_⟩⟩
    · rw [wr (by omega) (by omega)]
      show _ = wiB l g
      unfold wiB
      rw [hc']
      rfl
    · have hkk : k = wiK l g := by simp only [beq_iff_eq] at h0; unfold wiK; omega
      refine ⟨hwo.1.symm, ?_, hE.symm⟩
      unfold wiP
      rw [beq0 hE, hkk]
      rfl
    · have hne : wiN l g + (k : Int) ≠ 0 := by simpa using h0
      unfold wiK at hk2
      omega
  · have hc' : decide (0 < wiAn l g (ocM l)) = false := hc
    have hN : wiN l g = wiAn l g (ocM l) := by unfold wiN; rw [hc']; rfl
    refine ⟨⟨0, ⟨Nat.zero_le _, hE⟩, (by first | rfl | trivial), (by first | rfl | trivial), (by first | rfl | trivial), by rw [hN]; exact (Int.add_zero _).symm, ?_⟩, fun k ⟨hk2, _⟩ => ⟨fun h0 => ?_, fun h0 => ?_⟩⟩
    · show _ = wiB l g
      unfold wiB
      rw [hc']
      rfl
    · have hkk : k = wiK l g := by simp only [beq_iff_eq] at h0; unfold wiK; omega
      refine ⟨hwo.1.symm, ?_, hE.symm⟩
      unfold wiP
      rw [beq0 hE, hkk]
      rfl
    · have hne : wiN l g + (k : Int) ≠ 0 := by simpa using h0
      have hD := wi_down hH k hk2
      have hlt : wiN l g + (k : Int) < 0 := by unfold wiK at hk2; omega
      have hk3 : k + 1 ≤ wiK l g := by unfold wiK; omega
      obtain ⟨m2, mp⟩ := two_max hH hD.w hlt
      have hlD := hD.w.len
      have hh := hD.w.hi (grA (wiD l g k))
      refine ⟨by omega, by omega, by omega, by omega, by omega, by omega, by omega, k + 1, ⟨hk3, hE⟩, by rw [Nat.sub_eq, Nat.sub_eq]; omega, (by first | rfl | trivial), (by first | rfl | trivial), (by first | rfl | trivial), ?_, ?_⟩
      · rw [wr (by omega) (by omega)]
        push_cast
        omega
      · rw [wr (by omega) (by omega)]
        rfl
theorem withE_sound : Sound Tryz.prog 57 sWith.ctr := sWith.sound (by kernel_rfl) sWith_enc fun ⟨l, g⟩ hc => by
  have h0 := hc _ (.head _)
  exact satG GId_ok mixed Tryz.func57 (withE_e l g) (withE_v l g h0)
theorem GIe_ok : AllOk Tryz.prog GIe := .cons withE_sound <| GId_ok
end Go.Proofs.YtcoogfifjibkhaaGreat
namespace Go.Proofs.YtcoogfifjibkhaaGreat
open Go Go.RowKit
set_option linter.unusedVariables false
set_option linter.unusedSimpArgs false
set_option maxRecDepth 100000
def cosB (p : List Int) (s : Nat) : Bool := p.getD s 0 == 0
def cosOne (g : Int) (p : List Int) (s : Nat) (n : Int) : Int := n * (g - hiI (max 1 (p.getD s 0)))
def cosC (g : Int) (p : List Int) (s : Nat) : List Int → Int
  | [] => 0
  | n :: r => cond (n == 0) (cosC g p (s + 1) r) (cosOne g p s n + cosC g p (s + 1) r)
def cosM (p : List Int) (s : Nat) : List Int → Bool
  | [] => false
  | n :: r => (!(n == 0) && cosB p s) || cosM p (s + 1) r
theorem cosC_app (g : Int) (p : List Int) : ∀ (s : Nat) (a b : List Int), cosC g p s (a ++ b) = cosC g p s a + cosC g p (s + a.length) b
  | s, [], b => by show cosC g p s b = 0 + cosC g p s b; omega
  | s, n :: a, b => by
    have ih := cosC_app g p (s + 1) a b
    have e : s + (n :: a).length = s + 1 + a.length := by rw [List.length_cons]; omega
    show cond (n == 0) (cosC g p (s + 1) (a ++ b)) (cosOne g p s n + cosC g p (s + 1) (a ++ b)) = cond (n == 0) (cosC g p (s + 1) a) (cosOne g p s n + cosC g p (s + 1) a) + _
    rw [ih, e]
    cases n == 0
    · simp only [cond_false]; omega
    · simp only [cond_true]
theorem cosM_app (p : List Int) : ∀ (s : Nat) (a b : List Int), cosM p s (a ++ b) = (cosM p s a || cosM p (s + a.length) b)
  | s, [], b => by show cosM p s b = (false || cosM p s b); rw [Bool.false_or]
  | s, n :: a, b => by
    have ih := cosM_app p (s + 1) a b
    have e : s + (n :: a).length = s + 1 + a.length := by rw [List.length_cons]; omega
    show ((!(n == 0) && cosB p s) || cosM p (s + 1) (a ++ b)) = (((!(n == 0) && cosB p s) || cosM p (s + 1) a) || _)
    rw [ih, e, Bool.or_assoc]
theorem max_pt {x : Int} (h : -1 ≤ x) (h0 : x ≠ 0) : max 1 x = pt x := by
  unfold pt
  by_cases h1 : x < 0
  · rw [decide_eq_true h1]; simp only [cond_true]; omega
  · rw [decide_eq_false h1]; simp only [cond_false]; omega
theorem cosOne_bd {g : Int} {p : List Int} (h : dchk g p = 0) {s : Nat} (hs : s < p.length) (h0 : p.getD s 0 ≠ 0) {n : Int} (hn : 0 ≤ n) : 0 ≤ cosOne g p s n ∧ cosOne g p s n ≤ n * 12 := by
  have hD := dchk0 h
  have hm := getD_mem' hs
  have h1 := pt_one (hD.lo _ hm) h0
  have hle := pts_mem hm
  have hsum := hD.sum
  obtain ⟨b0, b1, b2⟩ := hi_bd h1
  have g5 := hD.g5
  have g12 := hD.g12
  have hlt : (2 : Int) ^ (hiI (pt (p.getD s 0))).toNat < 2 ^ (g.toNat + 1) := by
    rw [Int.pow_succ]
    have := pow_pos' g.toNat
    omega
  have := pow_lt_of hlt
  unfold cosOne
  rw [max_pt (hD.lo _ hm) h0]
  exact ⟨Int.mul_nonneg hn (by omega), Int.mul_le_mul_of_nonneg_left (by omega) hn⟩
end Go.Proofs.YtcoogfifjibkhaaGreat
namespace Go.Proofs.YtcoogfifjibkhaaGreat
open Go Go.RowKit
set_option linter.unusedVariables false
set_option linter.unusedSimpArgs false
set_option maxRecDepth 100000
def sSumA : Spec where
  ι := List Int
  dec l H := match l with
    | [.dat (.ints .i64 l)] => some (l, [])
    | _ => none
  args := fun l => [.dat (.ints .i64 l)]
  pre := fun l => [⟨l.length ≤ 4294967296, inferInstance⟩]
  out := fun l => .leaf (.tu [.v (.int .i64 (suA l)), .v (.bool (okA l))]) []
theorem sSumA_enc : ∀ l H n i ls, sSumA.dec l H = some (i, ls) → l = renL (rho ls n) (sSumA.args i) ∧ givenHp H ls = renH (rho ls n) (sSumA.hp i) := by
  intro l H n i ls h
  simp only [sSumA] at h
  repeat' split at h
  all_goals first
    | (cases h; done)
    | (cases h; exact ⟨rfl, rfl⟩)
def sChA : Spec where
  ι := List Int
  dec l H := match l with
    | [.dat (.ints .i64 l)] => some (l, [])
    | _ => none
  args := fun l => [.dat (.ints .i64 l)]
  pre := fun l => [⟨l.length ≤ 4294967296, inferInstance⟩]
  out := fun l => .leaf (.v (.int .i64 (chA l))) []
theorem sChA_enc : ∀ l H n i ls, sChA.dec l H = some (i, ls) → l = renL (rho ls n) (sChA.args i) ∧ givenHp H ls = renH (rho ls n) (sChA.hp i) := by
  intro l H n i ls h
  simp only [sChA] at h
  repeat' split at h
  all_goals first
    | (cases h; done)
    | (cases h; exact ⟨rfl, rfl⟩)
def oSumA (l : List Int) : LoopInv := { ι := Nat, p := fun i => i ≤ l.length ∧ okA (l.take i) = true, tm := fun i => [(2, .v (.int .i64 (sumI (l.take i)))), (6, .dat (.ints .i64 l)), (7, .v (.int .i64 l.length)), (8, .v (.int .i64 (i : Nat)))], hp := fun _ => [], μ := fun i => l.length - i }
def GJa : List (Nat × Ctr) := (72, sSumA.ctr) :: GIe
end Go.Proofs.YtcoogfifjibkhaaGreat
namespace Go.Proofs.YtcoogfifjibkhaaGreat
open Go Go.RowKit
set_option linter.unusedVariables false
set_option maxRecDepth 100000
def sumAE_t (l : List Int) : Prop :=
 (∃ (x0 : Nat), (x0 ≤ List.length l ∧ okA (List.take x0 l) = true) ∧ (0 : Int) = sumI (List.take x0 l) ∧ l = l ∧ (↑(List.length l) : Int) = (↑(List.length l) : Int) ∧ (0 : Int) = (↑x0 : Int)) ∧
 ∀ (x1 : Nat),
 x1 ≤ List.length l ∧ okA (List.take x1 l) = true →
 (decide ((↑x1 : Int) < (↑(List.length l) : Int)) = true →
 (0 : Int) ≤ (↑x1 : Int) ∧
 (↑x1 : Int) < (↑(List.length l) : Int) ∧
 (decide (List.getD l (Int.toNat (↑x1 : Int)) (0 : Int) < (0 : Int)) = true → (0 : Int) = suA l ∧ false = okA l) ∧
 (decide (List.getD l (Int.toNat (↑x1 : Int)) (0 : Int) < (0 : Int)) = false →
 (decide (List.getD l (Int.toNat (↑x1 : Int)) (0 : Int) > (1099511627776 : Int)) = true → (0 : Int) = suA l ∧ false = okA l) ∧
 (decide (List.getD l (Int.toNat (↑x1 : Int)) (0 : Int) > (1099511627776 : Int)) = false →
 (decide (IntKind.wrap IntKind.i64 (sumI (List.take x1 l) + List.getD l (Int.toNat (↑x1 : Int)) (0 : Int)) > (1099511627776 : Int)) = true → (0 : Int) = suA l ∧ false = okA l) ∧
 (decide (IntKind.wrap IntKind.i64 (sumI (List.take x1 l) + List.getD l (Int.toNat (↑x1 : Int)) (0 : Int)) > (1099511627776 : Int)) = false →
 ∃ (y2 : Nat),
 (y2 ≤ List.length l ∧ okA (List.take y2 l) = true) ∧
 Nat.sub (List.length l) y2 < Nat.sub (List.length l) x1 ∧
 IntKind.wrap IntKind.i64 (sumI (List.take x1 l) + List.getD l (Int.toNat (↑x1 : Int)) (0 : Int)) = sumI (List.take y2 l) ∧
 l = l ∧ (↑(List.length l) : Int) = (↑(List.length l) : Int) ∧ IntKind.wrap IntKind.i64 ((↑x1 : Int) + (1 : Int)) = (↑y2 : Int))))) ∧
 (decide ((↑x1 : Int) < (↑(List.length l) : Int)) = false → sumI (List.take x1 l) = suA l ∧ true = okA l)
theorem sumAE_e (l : List Int) : sumAE_t l = vcG Tryz.prog (Gof GIe) (one (oSumA l)) Tryz.f72 [.dat (.ints .i64 l)] [] (.leaf ((.tu [.v (.int .i64 (suA l)), .v (.bool (okA l))])) ([])) := by kernel_rfl
def chAE_t (l : List Int) : Prop :=
 (decide ((↑(List.length l) : Int) > (256 : Int)) = true → (6 : Int) = chA l) ∧
 (decide ((↑(List.length l) : Int) > (256 : Int)) = false → List.length l ≤ (4294967296 : Nat) ∧ ((!okA l) = true → (2 : Int) = chA l) ∧ ((!okA l) = false → (0 : Int) = chA l))
theorem chAE_e (l : List Int) : chAE_t l = vcG Tryz.prog (Gof GJa) (fun _ => none) Tryz.f41 [.dat (.ints .i64 l)] [] (.leaf ((.v (.int .i64 (chA l)))) ([])) := by kernel_rfl
end Go.Proofs.YtcoogfifjibkhaaGreat
namespace Go.Proofs.YtcoogfifjibkhaaGreat
open Go Go.RowKit
set_option linter.unusedVariables false
set_option linter.unusedSimpArgs false
set_option maxRecDepth 100000
theorem okA_iff {l : List Int} : okA l = true ↔ (∀ x ∈ l, 0 ≤ x ∧ x ≤ 1099511627776) ∧ sumI l ≤ 1099511627776 := by
  unfold okA
  simp only [Bool.and_eq_true, List.all_eq_true, decide_eq_true_eq]
theorem okA_not {l : List Int} (h : ¬ ((∀ x ∈ l, 0 ≤ x ∧ x ≤ 1099511627776) ∧ sumI l ≤ 1099511627776)) : okA l = false := by
  cases hb : okA l
  · rfl
  · exact absurd (okA_iff.1 hb) h
theorem sumAE_v (l : List Int) (hl : l.length ≤ 4294967296) : sumAE_t l := by
  have bad : ∀ i, i < l.length → (l.getD i 0 < 0 ∨ 1099511627776 < l.getD i 0 ∨ 1099511627776 < sumI (l.take i) + l.getD i 0) → (0 : Int) = suA l ∧ false = okA l := by
    intro i hi h
    have e : okA l = false := okA_not fun ⟨h1, h2⟩ => by
      have := h1 _ (getD_mem' hi)
      have hs := sumI_le (l := l) (fun x hx => (h1 x hx).1) (i + 1)
      rw [sumI_take hi] at hs
      omega
    unfold suA
    rw [e]
    exact ⟨rfl, rfl⟩
  unfold sumAE_t
  simp only [toNat_cast]
  refine ⟨⟨0, ⟨Nat.zero_le _, (by first | rfl | trivial)⟩, (by first | rfl | trivial), (by first | rfl | trivial), (by first | rfl | trivial), (by first | rfl | trivial)⟩, fun i ⟨hi, ho⟩ => ⟨fun hlt => ?_, fun hge => ?_⟩⟩
  · have hlt : i < l.length := by simpa using hlt
    have hs := sumI_take hlt
    obtain ⟨o1, o2⟩ := okA_iff.1 ho
    have h0 := sumI_nn (l := l.take i) fun x hx => (o1 x hx).1
    refine ⟨by omega, by omega, fun hb => bad i hlt (.inl (by simpa using hb)), fun hb => ⟨fun hc => bad i hlt (.inr (.inl (by simpa using hc))), fun hc => ?_⟩⟩
    have hb : 0 ≤ l.getD i 0 := by simp only [decide_eq_false_iff_not] at hb; omega
    have hc : l.getD i 0 ≤ 1099511627776 := by simp only [gt_iff_lt, decide_eq_false_iff_not] at hc; omega
    rw [wr (by omega) (by omega)]
    refine ⟨fun hd => bad i hlt (.inr (.inr (by simpa using hd))), fun hd => ⟨i + 1, ⟨by omega, ?_⟩, by rw [Nat.sub_eq, Nat.sub_eq]; omega, hs.symm, (by first | rfl | trivial), (by first | rfl | trivial), cnt_wrap64 (by omega)⟩⟩
    have hd : sumI (l.take i) + l.getD i 0 ≤ 1099511627776 := by simp only [gt_iff_lt, decide_eq_false_iff_not] at hd; omega
    refine okA_iff.2 ⟨fun x hx => ?_, by omega⟩
    rw [take_succ l 0 hlt, List.mem_append] at hx
    rcases hx with hx | hx
    · exact o1 x hx
    · rw [List.mem_singleton.1 hx]; exact ⟨hb, hc⟩
  · have hge : ¬ i < l.length := by simpa using hge
    rw [List.take_of_length_le (by omega)] at ho ⊢
    unfold suA
    rw [ho]
    exact ⟨rfl, rfl⟩
theorem sumAE_sound : Sound Tryz.prog 72 sSumA.ctr := sSumA.sound (by kernel_rfl) sSumA_enc fun l hc => by
  have h0 := hc _ (.head _)
  exact satG GIe_ok mixed Tryz.func72 (sumAE_e l) (sumAE_v l h0)
theorem GJa_ok : AllOk Tryz.prog GJa := .cons sumAE_sound <| GIe_ok
theorem chAE_v (l : List Int) (hl : l.length ≤ 4294967296) : chAE_t l := by
  unfold chAE_t chA
  refine ⟨fun hb => ?_, fun hb => ⟨hl, fun hc => ?_, fun hc => ?_⟩⟩
  · have e : decide (256 < l.length) = true := by simp only [gt_iff_lt, decide_eq_true_eq] at hb ⊢; omega
    rw [e]; rfl
  · have e : decide (256 < l.length) = false := by simp only [gt_iff_lt, decide_eq_false_iff_not] at hb ⊢; omega
    rw [e, show okA l = false by simpa using hc]; rfl
  · have e : decide (256 < l.length) = false := by simp only [gt_iff_lt, decide_eq_false_iff_not] at hb ⊢; omega
    rw [e, show okA l = true by simpa using hc]; rfl
theorem chAE_sound : Sound Tryz.prog 41 sChA.ctr := sChA.sound (by kernel_rfl) sChA_enc fun l hc => by
  have h0 := hc _ (.head _)
  exact satG GJa_ok mixed Tryz.func41 (chAE_e l) (chAE_v l h0)
end Go.Proofs.YtcoogfifjibkhaaGreat
namespace Go.Proofs.YtcoogfifjibkhaaGreat
open Go
set_option linter.unusedVariables false
set_option maxRecDepth 100000
def mostI (k : Int) : Int := cond (k == 0) 35 (cond (k == 1) 31 (cond (k == 2) 52 0))
def kdE (k : Int) : Int := cond (decide (0 ≤ k) && decide (k ≤ 2)) 0 11
def grtI (k : Int) : Int := cond (k == 0) 9 (cond (k == 1) 8 (cond (k == 2) 9 0))
def syT (n : Nat) (l : List Int) : Nat → List Int
  | 0 => List.replicate n 0
  | i + 1 => (syT n l i).set (l.getD i 0).toNat ((syT n l i).getD (l.getD i 0).toNat 0 + 1)
def okS (m : Int) (l : List Int) : Bool := l.all fun x => decide (0 ≤ x) && decide (x ≤ m)
def syE (m : Int) (l : List Int) : Int := cond (okS m l) 0 2
def syL (m : Int) (l : List Int) : List Int := cond (okS m l) (syT (m + 1).toNat l l.length) []
def onI (l : List Int) : Int := cond (Nat.beq (ocM l) 1) (laI l) 0
def onB (l : List Int) : Bool := Nat.beq (ocM l) 1
def loB (l : List Int) : Int := max 5 (hiI (ocM l : Nat) + 1)
def loI (l : List Int) (m : Int) : Int := cond (wiE l m == 0) (min m (cond (decide (1 < sumI l)) (max (loB l) (hiI (sumI l - 1) - 2)) (loB l))) 0
def ofE (l : List Int) (m : Int) : Int := cond (wiE l m == 0) (wiE l (loI l m)) (wiE l m)
def ofG (l : List Int) (m : Int) : Int := cond (wiE l m == 0) (wiG l (loI l m)) 0
def ofP (l : List Int) (m : Int) : List Int := cond (wiE l m == 0) (wiP l (loI l m)) []
end Go.Proofs.YtcoogfifjibkhaaGreat
namespace Go.Proofs.YtcoogfifjibkhaaGreat
open Go Go.RowKit
set_option linter.unusedVariables false
set_option linter.unusedSimpArgs false
set_option maxRecDepth 100000
def sKVal : Spec where
  ι := Int
  dec l H := match l with
    | [.v (.int .i64 k)] => some (k, [])
    | _ => none
  args := fun k => [.v (.int .i64 k)]
  out := fun k => .leaf (.v (.bool (decide (0 ≤ k) && decide (k ≤ 2)))) []
theorem sKVal_enc : ∀ l H n i ls, sKVal.dec l H = some (i, ls) → l = renL (rho ls n) (sKVal.args i) ∧ givenHp H ls = renH (rho ls n) (sKVal.hp i) := by
  intro l H n i ls h
  simp only [sKVal] at h
  repeat' split at h
  all_goals first
    | (cases h; done)
    | (cases h; exact ⟨rfl, rfl⟩)
def sKMost : Spec where
  ι := Int
  dec l H := match l with
    | [.v (.int .i64 k)] => some (k, [])
    | _ => none
  args := fun k => [.v (.int .i64 k)]
  pre := fun k => [⟨0 ≤ k, inferInstance⟩, ⟨k ≤ 2, inferInstance⟩]
  out := fun k => .leaf (.v (.int .i64 (mostI k))) []
theorem sKMost_enc : ∀ l H n i ls, sKMost.dec l H = some (i, ls) → l = renL (rho ls n) (sKMost.args i) ∧ givenHp H ls = renH (rho ls n) (sKMost.hp i) := by
  intro l H n i ls h
  simp only [sKMost] at h
  repeat' split at h
  all_goals first
    | (cases h; done)
    | (cases h; exact ⟨rfl, rfl⟩)
def sMost : Spec where
  ι := Int
  dec l H := match l with
    | [.v (.int .i64 k)] => some (k, [])
    | _ => none
  args := fun k => [.v (.int .i64 k)]
  out := fun k => .leaf (.tu [.v (.int .i64 (mostI k)), .v (.int .i64 (kdE k))]) []
theorem sMost_enc : ∀ l H n i ls, sMost.dec l H = some (i, ls) → l = renL (rho ls n) (sMost.args i) ∧ givenHp H ls = renH (rho ls n) (sMost.hp i) := by
  intro l H n i ls h
  simp only [sMost] at h
  repeat' split at h
  all_goals first
    | (cases h; done)
    | (cases h; exact ⟨rfl, rfl⟩)
def sSyms : Spec where
  ι := List Int × Int
  dec l H := match l with
    | [.dat (.ints .i64 l), .v (.int .i64 m)] => some ((l, m), [])
    | _ => none
  args := fun (l, m) => [.dat (.ints .i64 l), .v (.int .i64 m)]
  pre := fun (l, m) => [⟨0 ≤ m, inferInstance⟩, ⟨m ≤ 255, inferInstance⟩, ⟨l.length ≤ 1000, inferInstance⟩]
  out := fun (l, m) => .leaf (.tu [.dat (.ints .i64 (syL m l)), .v (.int .i64 (syE m l))]) []
theorem sSyms_enc : ∀ l H n i ls, sSyms.dec l H = some (i, ls) → l = renL (rho ls n) (sSyms.args i) ∧ givenHp H ls = renH (rho ls n) (sSyms.hp i) := by
  intro l H n i ls h
  simp only [sSyms] at h
  repeat' split at h
  all_goals first
    | (cases h; done)
    | (cases h; exact ⟨rfl, rfl⟩)
def sOnly : Spec where
  ι := List Int
  dec l H := match l with
    | [.dat (.ints .i64 l)] => some (l, [])
    | _ => none
  args := fun l => [.dat (.ints .i64 l)]
  pre := fun l => [⟨okN l = true, inferInstance⟩]
  out := fun l => .leaf (.tu [.v (.int .i64 (onI l)), .v (.bool (onB l)), .v (.int .i64 0)]) []
theorem sOnly_enc : ∀ l H n i ls, sOnly.dec l H = some (i, ls) → l = renL (rho ls n) (sOnly.args i) ∧ givenHp H ls = renH (rho ls n) (sOnly.hp i) := by
  intro l H n i ls h
  simp only [sOnly] at h
  repeat' split at h
  all_goals first
    | (cases h; done)
    | (cases h; exact ⟨rfl, rfl⟩)
def sLog : Spec where
  ι := List Int × Int
  dec l H := match l with
    | [.dat (.ints .i64 l), .v (.int .i64 m)] => some ((l, m), [])
    | _ => none
  args := fun (l, m) => [.dat (.ints .i64 l), .v (.int .i64 m)]
  pre := fun (l, m) => [⟨okN l = true, inferInstance⟩]
  out := fun (l, m) => .leaf (.tu [.v (.int .i64 (loI l m)), .v (.int .i64 (wiE l m))]) []
theorem sLog_enc : ∀ l H n i ls, sLog.dec l H = some (i, ls) → l = renL (rho ls n) (sLog.args i) ∧ givenHp H ls = renH (rho ls n) (sLog.hp i) := by
  intro l H n i ls h
  simp only [sLog] at h
  repeat' split at h
  all_goals first
    | (cases h; done)
    | (cases h; exact ⟨rfl, rfl⟩)
def sOf : Spec where
  ι := List Int × Int
  dec l H := match l with
    | [.dat (.ints .i64 l), .v (.int .i64 m)] => some ((l, m), [])
    | _ => none
  args := fun (l, m) => [.dat (.ints .i64 l), .v (.int .i64 m)]
  pre := fun (l, m) => [⟨okN l = true, inferInstance⟩]
  out := fun (l, m) => .leaf (.tu [.ag [.v (.int .i64 (ofG l m)), .dat (.ints .i64 (ofP l m))], .v (.int .i64 (ofE l m))]) []
theorem sOf_enc : ∀ l H n i ls, sOf.dec l H = some (i, ls) → l = renL (rho ls n) (sOf.args i) ∧ givenHp H ls = renH (rho ls n) (sOf.hp i) := by
  intro l H n i ls h
  simp only [sOf] at h
  repeat' split at h
  all_goals first
    | (cases h; done)
    | (cases h; exact ⟨rfl, rfl⟩)
def oSymP (l : List Int) (m : Int) : LoopInv := { ι := Nat, p := fun i => i ≤ l.length ∧ okS m (l.take i) = true, tm := fun i => [(1, .v (.int .i64 m)), (6, .p 1001 0 0), (18, .dat (.ints .i64 l)), (19, .v (.int .i64 l.length)), (20, .v (.int .i64 (i : Nat)))], hp := fun i => [(1001, .arr 79 (.ints .i64 (syT 256 l i)))], μ := fun i => l.length - i }
def GVb : List (Nat × Ctr) := GJa
def GKa : List (Nat × Ctr) := (49, sKVal.ctr) :: (50, sKMost.ctr) :: (32, sMost.ctr) :: (20, sSyms.ctr) :: GVb
def GKb : List (Nat × Ctr) := (19, sMost.ctr) :: (22, sOnly.ctr) :: (56, sLog.ctr) :: GKa
def GKc : List (Nat × Ctr) := (26, sOf.ctr) :: GKb
def GKd : List (Nat × Ctr) := GKc
def GKe : List (Nat × Ctr) := GKd
end Go.Proofs.YtcoogfifjibkhaaGreat
namespace Go.Proofs.YtcoogfifjibkhaaGreat
open Go Go.RowKit
set_option linter.unusedVariables false
set_option maxRecDepth 100000
def kvalE_t (k : Int) : Prop :=
 (decide (k ≥ (0 : Int)) = true → decide (k ≤ (2 : Int)) = (decide ((0 : Int) ≤ k) && decide (k ≤ (2 : Int)))) ∧
 (decide (k ≥ (0 : Int)) = false → false = (decide ((0 : Int) ≤ k) && decide (k ≤ (2 : Int))))
theorem kvalE_e (k : Int) : kvalE_t k = vcG Tryz.prog (Gof GVb) (fun _ => none) Tryz.f49 [.v (.int .i64 k)] [] (.leaf ((.v (.bool (decide (0 ≤ k) && decide (k ≤ 2))))) ([])) := by kernel_rfl
def kmost0_t  : Prop :=
 (0 : Int) ≤ (0 : Int) ∧ (0 : Int) < (↑(3 : Nat) : Int) ∧ (35 : Int) = mostI (0 : Int)
theorem kmost0_e  : kmost0_t  = vcG Tryz.prog (Gof GVb) (fun _ => none) Tryz.f50 [.v (.int .i64 0)] [] (.leaf ((.v (.int .i64 (mostI 0)))) ([])) := by kernel_rfl
def kmost1_t  : Prop :=
 (0 : Int) ≤ (1 : Int) ∧ (1 : Int) < (↑(3 : Nat) : Int) ∧ (31 : Int) = mostI (1 : Int)
theorem kmost1_e  : kmost1_t  = vcG Tryz.prog (Gof GVb) (fun _ => none) Tryz.f50 [.v (.int .i64 1)] [] (.leaf ((.v (.int .i64 (mostI 1)))) ([])) := by kernel_rfl
def kmost2_t  : Prop :=
 (0 : Int) ≤ (2 : Int) ∧ (2 : Int) < (↑(3 : Nat) : Int) ∧ (52 : Int) = mostI (2 : Int)
theorem kmost2_e  : kmost2_t  = vcG Tryz.prog (Gof GVb) (fun _ => none) Tryz.f50 [.v (.int .i64 2)] [] (.leaf ((.v (.int .i64 (mostI 2)))) ([])) := by kernel_rfl
def rmostE_t (k : Int) : Prop :=
 ((k == (0 : Int)) = true → (35 : Int) = mostI k ∧ (0 : Int) = kdE k) ∧
 ((k == (0 : Int)) = false →
 ((k == (1 : Int)) = true → (31 : Int) = mostI k ∧ (0 : Int) = kdE k) ∧
 ((k == (1 : Int)) = false → ((k == (2 : Int)) = true → (52 : Int) = mostI k ∧ (0 : Int) = kdE k) ∧ ((k == (2 : Int)) = false → (0 : Int) = mostI k ∧ (11 : Int) = kdE k)))
theorem rmostE_e (k : Int) : rmostE_t k = vcG Tryz.prog (Gof GVb) (fun _ => none) Tryz.f32 [.v (.int .i64 k)] [] (.leaf ((.tu [.v (.int .i64 (mostI k)), .v (.int .i64 (kdE k))])) ([])) := by kernel_rfl
def mostE_t (k : Int) : Prop :=
 ((!(decide ((0 : Int) ≤ k) && decide (k ≤ (2 : Int)))) = true → (0 : Int) = mostI k ∧ (11 : Int) = kdE k) ∧
 ((!(decide ((0 : Int) ≤ k) && decide (k ≤ (2 : Int)))) = false → (0 : Int) ≤ k ∧ k ≤ (2 : Int) ∧ mostI k = mostI k ∧ (0 : Int) = kdE k)
theorem mostE_e (k : Int) : mostE_t k = vcG Tryz.prog (Gof GKa) (fun _ => none) Tryz.f19 [.v (.int .i64 k)] [] (.leaf ((.tu [.v (.int .i64 (mostI k)), .v (.int .i64 (kdE k))])) ([])) := by kernel_rfl
def symsE_t (l : List Int) (m : Int) : Prop :=
 (decide (m < (0 : Int)) = true → List.length (syL m l) = (0 : Nat) ∧ (2 : Int) = syE m l) ∧
 (decide (m < (0 : Int)) = false →
 (decide (m ≥ (256 : Int)) = true → List.length (syL m l) = (0 : Nat) ∧ (2 : Int) = syE m l) ∧
 (decide (m ≥ (256 : Int)) = false →
 (decide ((↑(List.length l) : Int) > (1048576 : Int)) = true → List.length (syL m l) = (0 : Nat) ∧ (4 : Int) = syE m l) ∧
 (decide ((↑(List.length l) : Int) > (1048576 : Int)) = false →
 (∃ (x0 : Nat),
 (x0 ≤ List.length l ∧ okS m (List.take x0 l) = true) ∧
 m = m ∧ l = l ∧ (↑(List.length l) : Int) = (↑(List.length l) : Int) ∧ (0 : Int) = (↑x0 : Int) ∧ List.replicate (256 : Nat) (0 : Int) = syT (256 : Nat) l x0) ∧
 ∀ (x1 : Nat),
 x1 ≤ List.length l ∧ okS m (List.take x1 l) = true →
 (decide ((↑x1 : Int) < (↑(List.length l) : Int)) = true →
 (0 : Int) ≤ (↑x1 : Int) ∧
 (↑x1 : Int) < (↑(List.length l) : Int) ∧
 (decide (List.getD l (Int.toNat (↑x1 : Int)) (0 : Int) < (0 : Int)) = true → List.length (syL m l) = (0 : Nat) ∧ (2 : Int) = syE m l) ∧
 (decide (List.getD l (Int.toNat (↑x1 : Int)) (0 : Int) < (0 : Int)) = false →
 (decide (List.getD l (Int.toNat (↑x1 : Int)) (0 : Int) > m) = true → List.length (syL m l) = (0 : Nat) ∧ (2 : Int) = syE m l) ∧
 (decide (List.getD l (Int.toNat (↑x1 : Int)) (0 : Int) > m) = false →
 (0 : Int) ≤ List.getD l (Int.toNat (↑x1 : Int)) (0 : Int) ∧
 List.getD l (Int.toNat (↑x1 : Int)) (0 : Int) < (↑(256 : Nat) : Int) ∧
 Int.toNat (List.getD l (Int.toNat (↑x1 : Int)) (0 : Int)) < List.length (syT (256 : Nat) l x1) ∧
 (0 : Int) ≤ List.getD l (Int.toNat (↑x1 : Int)) (0 : Int) ∧
 List.getD l (Int.toNat (↑x1 : Int)) (0 : Int) < (↑(256 : Nat) : Int) ∧
 Int.toNat (List.getD l (Int.toNat (↑x1 : Int)) (0 : Int)) < List.length (syT (256 : Nat) l x1) ∧
 ∃ (y2 : Nat),
 (y2 ≤ List.length l ∧ okS m (List.take y2 l) = true) ∧
 Nat.sub (List.length l) y2 < Nat.sub (List.length l) x1 ∧
 m = m ∧
 l = l ∧
 (↑(List.length l) : Int) = (↑(List.length l) : Int) ∧
 IntKind.wrap IntKind.i64 ((↑x1 : Int) + (1 : Int)) = (↑y2 : Int) ∧
 List.set (syT (256 : Nat) l x1) (Int.toNat (List.getD l (Int.toNat (↑x1 : Int)) (0 : Int)))
 (IntKind.wrap IntKind.i64
 (List.getD (syT (256 : Nat) l x1) (Int.toNat (List.getD l (Int.toNat (↑x1 : Int)) (0 : Int))) (0 : Int) + (1 : Int))) =
 syT (256 : Nat) l y2))) ∧
 (decide ((↑x1 : Int) < (↑(List.length l) : Int)) = false →
 (0 : Int) = (0 : Int) ∧
 (0 : Int) ≤ IntKind.wrap IntKind.i64 (m + (1 : Int)) ∧
 IntKind.wrap IntKind.i64 (m + (1 : Int)) ≤ IntKind.wrap IntKind.i64 (m + (1 : Int)) ∧
 (0 : Int) < IntKind.wrap IntKind.i64 (m + (1 : Int)) ∧
 IntKind.wrap IntKind.i64 (m + (1 : Int)) ≤ (↑(256 : Nat) : Int) ∧
 (256 : Nat) = List.length (syT (256 : Nat) l x1) ∧
 (256 : Nat) ≤ (4294967296 : Nat) ∧
 List.take (Int.toNat (IntKind.wrap IntKind.i64 (m + (1 : Int)))) (List.drop (0 : Nat) (syT (256 : Nat) l x1)) = syL m l ∧ (0 : Int) = syE m l))))
theorem symsE_e (l : List Int) (m : Int) : symsE_t l m = vcG Tryz.prog (Gof GVb) (one (oSymP l m)) Tryz.f20 [.dat (.ints .i64 l), .v (.int .i64 m)] [] (.leaf ((.tu [.dat (.ints .i64 (syL m l)), .v (.int .i64 (syE m l))])) ([])) := by kernel_rfl
def onlyE_t (l : List Int) : Prop :=
 okN l = true ∧
 (((0 : Int) != (0 : Int)) = true → (0 : Int) = onI l ∧ false = onB l ∧ (0 : Int) = (0 : Int)) ∧
 (((0 : Int) != (0 : Int)) = false →
 (((↑(ocM l) : Int) != (1 : Int)) = true → (0 : Int) = onI l ∧ false = onB l ∧ (0 : Int) = (0 : Int)) ∧
 (((↑(ocM l) : Int) != (1 : Int)) = false → okN l = true ∧ laI l = onI l ∧ true = onB l ∧ (0 : Int) = (0 : Int)))
theorem onlyE_e (l : List Int) : onlyE_t l = vcG Tryz.prog (Gof GKa) (fun _ => none) Tryz.f22 [.dat (.ints .i64 l)] [] (.leaf ((.tu [.v (.int .i64 (onI l)), .v (.bool (onB l)), .v (.int .i64 0)])) ([])) := by kernel_rfl
def logE_t (l : List Int) (m : Int) : Prop :=
 okN l = true ∧
 ((laE l != (0 : Int)) = true → (0 : Int) = loI l m ∧ laE l = wiE l m) ∧
 ((laE l != (0 : Int)) = false →
 (decide (m < (5 : Int)) = true → (0 : Int) = loI l m ∧ (31 : Int) = wiE l m) ∧
 (decide (m < (5 : Int)) = false →
 (decide (m > (12 : Int)) = true → (0 : Int) = loI l m ∧ (31 : Int) = wiE l m) ∧
 (decide (m > (12 : Int)) = false →
 (0 : Int) ≤ IntKind.wrap IntKind.u64 m ∧
 (decide ((↑(ocM l) : Int) > IntKind.wrap IntKind.i64 ((1 : Int) * (2 : Int) ^ min (Int.toNat (IntKind.wrap IntKind.u64 m)) (IntKind.bits IntKind.i64))) = true →
 (0 : Int) = loI l m ∧ (2 : Int) = wiE l m) ∧
 (decide ((↑(ocM l) : Int) > IntKind.wrap IntKind.i64 ((1 : Int) * (2 : Int) ^ min (Int.toNat (IntKind.wrap IntKind.u64 m)) (IntKind.bits IntKind.i64))) = false →
 (↑(ocM l) : Int) ≤ (9223372036854775807 : Int) ∧
 (decide (ckT l > (1 : Int)) = true →
 IntKind.wrap IntKind.i64 (ckT l - (1 : Int)) ≤ (9223372036854775807 : Int) ∧
 min m (max (max (5 : Int) (hiI (↑(ocM l) : Int) + (1 : Int))) (IntKind.wrap IntKind.i64 (hiI (IntKind.wrap IntKind.i64 (ckT l - (1 : Int))) - (2 : Int)))) = loI l m ∧
 (0 : Int) = wiE l m) ∧
 (decide (ckT l > (1 : Int)) = false → min m (max (5 : Int) (hiI (↑(ocM l) : Int) + (1 : Int))) = loI l m ∧ (0 : Int) = wiE l m)))))
theorem logE_e (l : List Int) (m : Int) : logE_t l m = vcG Tryz.prog (Gof GKa) (fun _ => none) Tryz.f56 [.dat (.ints .i64 l), .v (.int .i64 m)] [] (.leaf ((.tu [.v (.int .i64 (loI l m)), .v (.int .i64 (wiE l m))])) ([])) := by kernel_rfl
def nofE_t (l : List Int) (m : Int) : Prop :=
 okN l = true ∧
 ((wiE l m != (0 : Int)) = true → (0 : Int) = ofG l m ∧ List.length (ofP l m) = (0 : Nat) ∧ wiE l m = ofE l m) ∧
 ((wiE l m != (0 : Int)) = false → okN l = true ∧ wiG l (loI l m) = ofG l m ∧ wiP l (loI l m) = ofP l m ∧ wiE l (loI l m) = ofE l m)
theorem nofE_e (l : List Int) (m : Int) : nofE_t l m = vcG Tryz.prog (Gof GKb) (fun _ => none) Tryz.f26 [.dat (.ints .i64 l), .v (.int .i64 m)] [] (.leaf ((.tu [.ag [.v (.int .i64 (ofG l m)), .dat (.ints .i64 (ofP l m))], .v (.int .i64 (ofE l m))])) ([])) := by kernel_rfl
end Go.Proofs.YtcoogfifjibkhaaGreat
namespace Go.Proofs.YtcoogfifjibkhaaGreat
open Go Go.RowKit
set_option linter.unusedVariables false
set_option linter.unusedSimpArgs false
set_option maxRecDepth 100000
theorem GVb_ok : AllOk Tryz.prog GVb := GJa_ok
theorem kvalE_v (k : Int) : kvalE_t k := by
  unfold kvalE_t
  refine ⟨fun h => ?_, fun h => ?_⟩
  · rw [show decide (0 ≤ k) = true from h, Bool.true_and]
  · rw [show decide (0 ≤ k) = false from h, Bool.false_and]
theorem kvalE_sound : Sound Tryz.prog 49 sKVal.ctr := sKVal.sound (by kernel_rfl) sKVal_enc fun k hc => by
  exact satG GVb_ok mixed Tryz.func49 (kvalE_e k) (kvalE_v k)
theorem kmostE_sound : Sound Tryz.prog 50 sKMost.ctr := sKMost.sound (by kernel_rfl) sKMost_enc fun (k : Int) hc => by
  have h0 : 0 ≤ k := hc _ (.head _)
  have h1 : k ≤ 2 := hc _ (.tail _ (.head _))
  have h : k = 0 ∨ k = 1 ∨ k = 2 := by omega
  rcases h with rfl | rfl | rfl
  · exact satG GVb_ok mixed Tryz.func50 kmost0_e (by unfold kmost0_t; decide)
  · exact satG GVb_ok mixed Tryz.func50 kmost1_e (by unfold kmost1_t; decide)
  · exact satG GVb_ok mixed Tryz.func50 kmost2_e (by unfold kmost2_t; decide)
theorem kd_in {k : Int} (h : k = 0 ∨ k = 1 ∨ k = 2) : kdE k = 0 := by rcases h with rfl | rfl | rfl <;> rfl
theorem kd_out {k : Int} (h : ¬ (k = 0 ∨ k = 1 ∨ k = 2)) : kdE k = 11 ∧ mostI k = 0 ∧ grtI k = 0 := by
  have e0 : (k == 0) = false := by simp; omega
  have e1 : (k == 1) = false := by simp; omega
  have e2 : (k == 2) = false := by simp; omega
  unfold kdE mostI grtI
  rw [e0, e1, e2]
  refine ⟨?_, rfl, rfl⟩
  cases hb : decide (0 ≤ k) && decide (k ≤ 2)
  · rfl
  · simp only [Bool.and_eq_true, decide_eq_true_eq] at hb; omega
theorem rmostE_v (k : Int) : rmostE_t k := by
  unfold rmostE_t
  refine ⟨fun h => ?_, fun h0 => ⟨fun h => ?_, fun h1 => ⟨fun h => ?_, fun h2 => ?_⟩⟩⟩
  · have : k = 0 := by simpa using h
    subst this; exact ⟨rfl, rfl⟩
  · have : k = 1 := by simpa using h
    subst this; exact ⟨rfl, rfl⟩
  · have : k = 2 := by simpa using h
    subst this; exact ⟨rfl, rfl⟩
  · simp only [beq_eq_false_iff_ne] at h0 h1 h2
    obtain ⟨a, b, _⟩ := kd_out (k := k) (by omega)
    exact ⟨b.symm, a.symm⟩
theorem mostE_v (k : Int) : mostE_t k := by
  unfold mostE_t
  refine ⟨fun h => ?_, fun h => ?_⟩
  · simp only [Bool.not_eq_true', Bool.and_eq_false_iff, decide_eq_false_iff_not] at h
    obtain ⟨a, b, _⟩ := kd_out (k := k) (by omega)
    exact ⟨b.symm, a.symm⟩
  · simp only [Bool.not_eq_false', Bool.and_eq_true, decide_eq_true_eq] at h
    exact ⟨h.1, h.2, (by first | rfl | trivial), (kd_in (by omega)).symm⟩
theorem syT_len (n : Nat) (l : List Int) : ∀ i, (syT n l i).length = n
  | 0 => by simp [syT]
  | i + 1 => by simp only [syT, List.length_set]; exact syT_len n l i
theorem syT_bd (n : Nat) (l : List Int) : ∀ i j, 0 ≤ (syT n l i).getD j 0 ∧ (syT n l i).getD j 0 ≤ i
  | 0, j => by rw [show syT n l 0 = List.replicate n 0 from rfl, getD_rep]; exact ⟨Int.le_refl _, Int.le_refl _⟩
  | i + 1, j => by
    have h1 := syT_bd n l i j
    have h2 := syT_bd n l i (l.getD i 0).toNat
    show 0 ≤ ((syT n l i).set _ _).getD j 0 ∧ _
    exact getD_set' (fun x => 0 ≤ x ∧ x ≤ ((i + 1 : Nat) : Int)) ⟨by omega, by omega⟩ ⟨by omega, by omega⟩ (fun j => by have := syT_bd n l i j; omega)
theorem okS_iff {m : Int} {l : List Int} : okS m l = true ↔ ∀ x ∈ l, 0 ≤ x ∧ x ≤ m := by
  unfold okS
  simp only [List.all_eq_true, Bool.and_eq_true, decide_eq_true_eq]
theorem okS_not {m : Int} {l : List Int} {i : Nat} (hi : i < l.length) (h : l.getD i 0 < 0 ∨ m < l.getD i 0) : (syL m l).length = 0 ∧ (2 : Int) = syE m l := by
  have e : okS m l = false := by
    cases hb : okS m l
    · rfl
    · have := okS_iff.1 hb _ (getD_mem' hi); omega
  unfold syL syE
  rw [e]
  exact ⟨rfl, rfl⟩
theorem syT_take {n m : Nat} (hm : m ≤ n) (l : List Int) (h : ∀ i, i < l.length → (l.getD i 0).toNat < m) : ∀ i, i ≤ l.length → (syT n l i).take m = syT m l i
  | 0, _ => by simp [syT, List.take_replicate, Nat.min_eq_left hm]
  | i + 1, hi => by
    have ih := syT_take hm l h i (by omega)
    have hx := h i (by omega)
    simp only [syT]
    rw [List.take_set, ih]
    congr 2
    rw [← ih]
    generalize (l.getD i 0).toNat = k at hx
    rw [List.getD_eq_getElem?_getD, List.getD_eq_getElem?_getD, List.getElem?_take, if_pos hx]
theorem symsE_v (l : List Int) (m : Int) (h0 : 0 ≤ m) (h1 : m ≤ 255) (hl : l.length ≤ 1000) : symsE_t l m := by
  unfold symsE_t
  simp only [toNat_cast]
  rw [wr (n := m + 1) (by omega) (by omega)]
  refine ⟨fun h => by simp only [decide_eq_true_eq] at h; omega, fun _ => ⟨fun h => by simp only [ge_iff_le, decide_eq_true_eq] at h; omega, fun _ => ⟨fun h => by simp only [gt_iff_lt, decide_eq_true_eq] at h; omega, fun _ => ⟨⟨0, ⟨Nat.zero_le _, (by first | rfl | trivial)⟩, (by first | rfl | trivial), (by first | rfl | trivial), (by first | rfl | trivial), (by first | rfl | trivial), (by first | rfl | trivial)⟩, fun i ⟨hi, ho⟩ => ?_⟩⟩⟩⟩
  have ho := okS_iff.1 ho
  refine ⟨fun hlt => ?_, fun hge => ?_⟩
  · have hlt : i < l.length := by simpa using hlt
    have hb := syT_bd 256 l i (l.getD i 0).toNat
    refine ⟨by omega, by omega, fun hx => okS_not hlt (.inl (by simpa using hx)), fun hx => ⟨fun hy => okS_not hlt (.inr (by simpa using hy)), fun hy => ?_⟩⟩
    simp only [gt_iff_lt, decide_eq_false_iff_not] at hx hy
    rw [wr (n := (syT 256 l i).getD (l.getD i 0).toNat 0 + 1) (by omega) (by omega), syT_len]
    refine ⟨by omega, by omega, by omega, by omega, by omega, by omega, i + 1, ⟨by omega, okS_iff.2 fun x hx' => ?_⟩, by rw [Nat.sub_eq, Nat.sub_eq]; omega, (by first | rfl | trivial), (by first | rfl | trivial), (by first | rfl | trivial), cnt_wrap (by omega), (by first | rfl | trivial)⟩
    rw [take_succ l 0 hlt, List.mem_append] at hx'
    rcases hx' with hx' | hx'
    · exact ho x hx'
    · rw [List.mem_singleton.1 hx']; omega
  · have hge : i = l.length := by simp at hge; omega
    subst hge
    rw [List.take_length] at ho
    have e : okS m l = true := okS_iff.2 ho
    refine ⟨(by first | rfl | trivial), by omega, by omega, by omega, by omega, (syT_len _ _ _).symm, by omega, ?_, ?_⟩
    · unfold syL
      rw [e, List.drop_zero]
      refine syT_take (by omega) l (fun i hi => ?_) l.length (Nat.le_refl _)
      have := ho _ (getD_mem' hi); omega
    · unfold syE; rw [e]; rfl
theorem rmostE_sound : Sound Tryz.prog 32 sMost.ctr := sMost.sound (by kernel_rfl) sMost_enc fun k hc => by
  exact satG GVb_ok mixed Tryz.func32 (rmostE_e k) (rmostE_v k)
theorem symsE_sound : Sound Tryz.prog 20 sSyms.ctr := sSyms.sound (by kernel_rfl) sSyms_enc fun ⟨l, m⟩ hc => by
  have h0 := hc _ (.head _)
  have h1 := hc _ (.tail _ (.head _))
  have h2 := hc _ (.tail _ (.tail _ (.head _)))
  exact satG GVb_ok mixed Tryz.func20 (symsE_e l m) (symsE_v l m h0 h1 h2)
end Go.Proofs.YtcoogfifjibkhaaGreat
namespace Go.Proofs.YtcoogfifjibkhaaGreat
open Go Go.RowKit
set_option linter.unusedVariables false
set_option linter.unusedSimpArgs false
set_option maxRecDepth 100000
theorem chA_ok {l : List Int} (h : okN l = true) : chA l = 0 := by
  have hk := okN0 h
  unfold chA
  rw [decide_eq_false (by have := hk.len; omega), okA_iff.2 ⟨fun x hx => ⟨hk.nn x hx, by have := mem_sum hk.nn x hx; have := hk.sum; omega⟩, hk.sum⟩]
  rfl
theorem pw12 {i : Nat} (h : i ≤ 12) : 1 ≤ (2 : Int) ^ i ∧ (2 : Int) ^ i ≤ 4096 := by
  have h1 := Nat.pow_le_pow_right (show 0 < 2 by omega) h
  have h2 := Nat.two_pow_pos i
  have e : ((2 ^ i : Nat) : Int) = (2 : Int) ^ i := by simp
  omega
theorem oc_pos {l : List Int} {i : Nat} (hi : i < l.length) (hx : 0 < l.getD i 0) : 0 < ocM l := by
  obtain ⟨j, hj, _⟩ := ocP_of hi hx
  omega
theorem oc_none {l : List Int} (hz : ∀ j, j < l.length → ¬ 0 < l.getD j 0) : ocM l = 0 := by
  rcases Nat.eq_zero_or_pos (ocM l) with h | h
  · exact h
  · obtain ⟨m1, m2, m3⟩ := ocT_mem (l := l) (j := 0) h
    exact absurd (by omega) (hz _ m1)
theorem onlyE_v (l : List Int) (h : okN l = true) : onlyE_t l := by
  unfold onlyE_t onI onB
  refine ⟨h, fun hb => (by cases hb), fun _ => ⟨fun hb => ?_, fun hb => ?_⟩⟩
  · have hb : ocM l ≠ 1 := by simp at hb; omega
    rw [show Nat.beq (ocM l) 1 = false by cases hc : Nat.beq (ocM l) 1 <;> first | rfl | exact absurd (Nat.eq_of_beq_eq_true hc) hb]
    exact ⟨rfl, rfl, rfl⟩
  · have hb : ocM l = 1 := by simp at hb; omega
    rw [hb]
    exact ⟨h, rfl, rfl, rfl⟩
theorem laE_cases (l : List Int) : (ocM l = 0 ∧ laE l = 7 ∧ laI l = 0) ∨ (0 < ocM l ∧ laE l = 0) := by
  unfold laE laI
  rcases Nat.eq_zero_or_pos (ocM l) with h | h
  · rw [h]; exact .inl ⟨rfl, rfl, rfl⟩
  · rw [show Nat.beq (ocM l) 0 = false by cases hb : Nat.beq (ocM l) 0 <;> first | rfl | (have := Nat.eq_of_beq_eq_true hb; omega)]
    exact .inr ⟨h, rfl⟩
theorem sum_oc {l : List Int} (h : okN l = true) : sumI l = 0 ↔ ocM l = 0 := by
  have hk := okN0 h
  constructor
  · intro hs
    refine oc_none fun j hj hx => ?_
    have := mem_sum hk.nn _ (getD_mem' hj)
    omega
  · intro hm
    have hz : ∀ x ∈ l, x = 0 := by
      intro x hx
      obtain ⟨i, hi, e⟩ := mem_getD hx
      have := hk.nn x hx
      rcases Int.lt_or_eq_of_le this with h1 | h1
      · have := oc_pos hi (by omega); omega
      · omega
    clear hm hk h
    induction l with
    | nil => rfl
    | cons x r ih =>
      have := ih fun y hy => hz y (List.mem_cons_of_mem _ hy)
      have := hz x (by simp)
      show x + sumI r = 0
      omega
theorem logE_v (l : List Int) (m : Int) (h : okN l = true) : logE_t l m := by
  have hk := okN0 h
  have hlen := hk.len
  have hsum := hk.sum
  have hnn := sumI_nn hk.nn
  unfold logE_t
  rcases laE_cases l with ⟨h0, h1, _⟩ | ⟨h0, h1⟩
  · have hw : wiE l m = 7 := by unfold wiE; rw [h0]; rfl
    unfold loI
    rw [hw, h1]
    exact ⟨h, fun _ => ⟨rfl, rfl⟩, fun hb => (by cases hb)⟩
  have hb0 : Nat.beq (ocM l) 0 = false := by cases hb : Nat.beq (ocM l) 0 <;> first | rfl | (have := Nat.eq_of_beq_eq_true hb; omega)
  have hck : ckT l = sumI l := by unfold ckT; rw [hb0]; rfl
  have hM := ocM_le l
  rw [h1, hck]
  refine ⟨h, fun hb => (by cases hb), fun _ => ⟨fun hb => ?_, fun hb => ⟨fun hc => ?_, fun hc => ?_⟩⟩⟩
  · have hw : wiE l m = 31 := wiE_out hb0 (by rw [show decide (m < 5) = true from hb]; rfl)
    unfold loI; rw [hw]; exact ⟨rfl, rfl⟩
  · have hw : wiE l m = 31 := wiE_out hb0 (by rw [show decide (12 < m) = true from hc, Bool.or_true])
    unfold loI; rw [hw]; exact ⟨rfl, rfl⟩
  · simp only [gt_iff_lt, decide_eq_false_iff_not] at hb hc
    have hw := wiE_in (l := l) hb0 (by omega) (by omega : m ≤ 12)
    rw [wu (by omega) (by omega), sz_wrap (by omega) (by omega), szI]
    refine ⟨by omega, fun hd => ?_, fun hd => ⟨by omega, fun he => ?_, fun he => ?_⟩⟩
    · rw [show decide (2 ^ m.toNat < (ocM l : Int)) = true from hd] at hw
      unfold loI; rw [hw]; exact ⟨rfl, rfl⟩
    · rw [show decide (2 ^ m.toNat < (ocM l : Int)) = false from hd] at hw
      have he2 : 1 < sumI l := by simpa using he
      have hh : 0 ≤ hiI (sumI l - 1) ∧ hiI (sumI l - 1) ≤ 64 := by
        obtain ⟨a, b, _⟩ := hi_bd (y := sumI l - 1) (by omega)
        refine ⟨a, ?_⟩
        have : (2 : Int) ^ (hiI (sumI l - 1)).toNat < 2 ^ 41 := by omega
        have := pow_lt_of this
        omega
      rw [wr (n := sumI l - 1) (by omega) (by omega), wr (n := hiI (sumI l - 1) - 2) (by omega) (by omega)]
      unfold loI loB
      rw [hw, show decide (1 < sumI l) = true from he]
      exact ⟨by omega, rfl, rfl⟩
    · rw [show decide (2 ^ m.toNat < (ocM l : Int)) = false from hd] at hw
      unfold loI loB
      rw [hw, show decide (1 < sumI l) = false from he]
      exact ⟨rfl, rfl⟩
theorem nofE_v (l : List Int) (m : Int) (h : okN l = true) : nofE_t l m := by
  unfold nofE_t ofG ofP ofE
  refine ⟨h, fun hb => ?_, fun hb => ?_⟩
  · rw [show (wiE l m == 0) = false by simpa using hb]
    exact ⟨rfl, rfl, rfl⟩
  · rw [show (wiE l m == 0) = true by simpa using hb]
    exact ⟨h, rfl, rfl, rfl⟩
theorem GKa_ok : AllOk Tryz.prog GKa := .cons kvalE_sound <| .cons kmostE_sound <| .cons rmostE_sound <| .cons symsE_sound <| GVb_ok
theorem mostE_sound : Sound Tryz.prog 19 sMost.ctr := sMost.sound (by kernel_rfl) sMost_enc fun k hc => by
  exact satG GKa_ok mixed Tryz.func19 (mostE_e k) (mostE_v k)
theorem onlyE_sound : Sound Tryz.prog 22 sOnly.ctr := sOnly.sound (by kernel_rfl) sOnly_enc fun l hc => by
  have h0 := hc _ (.head _)
  exact satG GKa_ok mixed Tryz.func22 (onlyE_e l) (onlyE_v l h0)
theorem logE_sound : Sound Tryz.prog 56 sLog.ctr := sLog.sound (by kernel_rfl) sLog_enc fun ⟨l, m⟩ hc => by
  have h0 := hc _ (.head _)
  exact satG GKa_ok mixed Tryz.func56 (logE_e l m) (logE_v l m h0)
theorem GKb_ok : AllOk Tryz.prog GKb := .cons mostE_sound <| .cons onlyE_sound <| .cons logE_sound <| GKa_ok
theorem nofE_sound : Sound Tryz.prog 26 sOf.ctr := sOf.sound (by kernel_rfl) sOf_enc fun ⟨l, m⟩ hc => by
  have h0 := hc _ (.head _)
  exact satG GKb_ok mixed Tryz.func26 (nofE_e l m) (nofE_v l m h0)
theorem GKc_ok : AllOk Tryz.prog GKc := .cons nofE_sound <| GKb_ok
end Go.Proofs.YtcoogfifjibkhaaGreat
namespace Go.Proofs.YtcoogfifjibkhaaGreat
open Go Go.RowKit
set_option linter.unusedVariables false
set_option linter.unusedSimpArgs false
set_option maxRecDepth 100000
theorem GKd_ok : AllOk Tryz.prog GKd := GKc_ok
theorem GKe_ok : AllOk Tryz.prog GKe := GKd_ok
end Go.Proofs.YtcoogfifjibkhaaGreat
namespace Go.Proofs.YtcoogfifjibkhaaGreat
open Go
set_option linter.unusedVariables false
set_option maxRecDepth 100000
def emD (g : Int) (p : List Int) : Bool := (g == 0) && Nat.beq p.length 0
def saD (g : Int) (p : List Int) (h : Int) (q : List Int) : Bool := (g == h) && eqI p q
def saT (m s g : Int) (p : List Int) (n t h : Int) (q : List Int) : Bool := (m == n) && ((s == t) && saD g p h q)
def tb0 (k s g : Int) (p : List Int) : Int := cond ((s == 0) && saD g p (preL k) (preP k)) 0 2
def tb1 (k s g : Int) (p : List Int) : Int := cond (decide (s < 0) || decide (mostI k < s)) 24 (cond (emD g p) 0 2)
def tb2 (k s g : Int) (p : List Int) : Int := cond (dchk g p == 0) (cond (decide (grtI k < g)) 31 (cond (decide (mostI k + 1 < (p.length : Int))) 23 (cond (s == 0) 0 2))) (dchk g p)
def tbN (s g : Int) (p : List Int) : Int := cond ((s == 0) && emD g p) 0 2
def tbE (k m s g : Int) (p : List Int) : Int := cond (kdE k == 0) (cond (m == 0) (tb0 k s g p) (cond (m == 1) (tb1 k s g p) (cond (m == 2) (tb2 k s g p) (cond (m == -1) (tbN s g p) 11)))) 11
def coE (g : Int) (p l : List Int) : Int := cond (dchk g p == 0) (cond (chA l == 0) (cond (cosM p 0 l) 7 0) (chA l)) (dchk g p)
def coN (g : Int) (p l : List Int) : Int := cond (coE g p l == 0) (cosC g p 0 l) 0
def byA (s : ByteArray) (a : Int) : Int := ((s.data.toList.getD a.toNat 0).toNat : Nat)
def rfA (k : Int) (s : ByteArray) (a : Int) : (Int × List Int) × Int × Int × Int := readF 2000 s a (grtI k) (mostI k + 1)
def trC (k : Int) (s : ByteArray) (a lm ls lg : Int) (lp : List Int) : Int := cond (kdE k == 0) (cond (decide (a < 0) || decide ((s.size : Int) < a)) 2 (tbE k lm ls lg lp)) 11
def trX (k m : Int) (s : ByteArray) (a lm : Int) : Int := cond (m == 0) 0 (cond (m == 1) (cond (a == (s.size : Int)) 5 (cond (decide (mostI k < byA s a)) 24 0)) (cond (m == 2) (rfA k s a).2.2.1 (cond (m == 3) (cond (lm == -1) 26 0) 11)))
def trY (k m : Int) (s : ByteArray) (a lm : Int) : Int := cond (trX k m s a lm == 0) 0 (cond (m == 1) a (cond (m == 2) (rfA k s a).2.2.2 (cond (m == 3) a 0)))
def trE (k m : Int) (s : ByteArray) (a lm ls lg : Int) (lp : List Int) : Int := cond (trC k s a lm ls lg lp == 0) (trX k m s a lm) (trC k s a lm ls lg lp)
def trA (k m : Int) (s : ByteArray) (a lm ls lg : Int) (lp : List Int) : Int := cond (trC k s a lm ls lg lp == 0) (trY k m s a lm) 0
def trB (k m : Int) (s : ByteArray) (a lm ls lg : Int) (lp : List Int) : Bool := trE k m s a lm ls lg lp == 0
def trM (k m : Int) (s : ByteArray) (a lm ls lg : Int) (lp : List Int) : Int := cond (trB k m s a lm ls lg lp) (cond (m == 3) lm m) 0
def trS (k m : Int) (s : ByteArray) (a lm ls lg : Int) (lp : List Int) : Int := cond (trB k m s a lm ls lg lp) (cond (m == 1) (byA s a) (cond (m == 3) ls 0)) 0
def trG (k m : Int) (s : ByteArray) (a lm ls lg : Int) (lp : List Int) : Int := cond (trB k m s a lm ls lg lp) (cond (m == 0) (preL k) (cond (m == 2) (rfA k s a).1.1 (cond (m == 3) lg 0))) 0
def trP (k m : Int) (s : ByteArray) (a lm ls lg : Int) (lp : List Int) : List Int := cond (trB k m s a lm ls lg lp) (cond (m == 0) (preP k) (cond (m == 2) (rfA k s a).1.2 (cond (m == 3) lp []))) []
def trN (k m : Int) (s : ByteArray) (a lm ls lg : Int) (lp : List Int) : Int := cond (trB k m s a lm ls lg lp) (cond (m == 1) (a + 1) (cond (m == 2) (rfA k s a).2.1 a)) 0
def trR (k : Int) (s : ByteArray) (a : Int) : Int := cond (kdE k == 0) (cond (decide (a < 0) || decide ((s.size : Int) < a)) 2 0) 11
def trD (k m : Int) (s : ByteArray) (a lm ls lg : Int) (lp : List Int) : Int := cond (trC k s a lm ls lg lp == 0) (cond (decide (m < 0) || decide (3 < m)) 11 0) (trC k s a lm ls lg lp)
end Go.Proofs.YtcoogfifjibkhaaGreat
