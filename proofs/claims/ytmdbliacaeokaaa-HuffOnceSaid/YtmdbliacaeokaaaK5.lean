/-
  Texts joined: BB, BM, UI, C7At, C7B, UB, UC, UD, UE, UJf, UK, UJ, UJt, UL, UM, UNf, UN, UNt. Conditions: each theorem's own.
-/
import Derived.Test.YtmdbliacaeokaaaK4
import Derived.Test.YtmdbliacaeokaaaK3
namespace Go.Proofs.Ytmdbliacaeokaaa
open Go Go.RowKit
set_option linter.unusedVariables false
set_option linter.unusedSimpArgs false
set_option maxRecDepth 100000
theorem drop_at {l : List Int} {k : Nat} (hk : k < l.length) : l.drop k = l.getD k 0 :: l.drop (k + 1) := by
  rw [List.drop_eq_getElem_cons hk, List.getD_eq_getElem?_getD, List.getElem?_eq_getElem hk]
  rfl
theorem nez0 {a : Int} (h : (a != (0 : Int)) = true) : (a == 0) = false := by
  cases hb : a == 0
  · rfl
  · have : a = 0 := by simpa using hb
    subst this
    cases h
theorem beq0 {a : Int} (h : a = 0) : (a == 0) = true := by rw [h]; rfl
theorem eq0 {a : Int} (h : (a != (0 : Int)) = false) : a = 0 := by simpa using h
theorem nz {a : Int} (h : (a != (0 : Int)) = true) : a ≠ 0 := by simpa using h
theorem and_pow64 (a n : Nat) (ha : a ≤ 100000) (hn : n ≤ 20) : bits .and .i64 (a : Int) ((2 : Int) ^ n - 1) = ((a % 2 ^ n : Nat) : Int) := by
  have hx : ∀ a : Nat, a ≤ 4294967295 → (BitVec.ofInt 64 (a : Int)).toNat = a := fun a ha => by
    rw [BitVec.ofInt_natCast, BitVec.toNat_ofNat]; exact Nat.mod_eq_of_lt (by omega)
  have h1 := Nat.two_pow_pos n
  have h2 := Nat.pow_le_pow_right (show 0 < 2 by omega) hn
  have e : (2 : Int) ^ n - 1 = ((2 ^ n - 1 : Nat) : Int) := by rw [pow_cast]; omega
  rw [e]
  show IntKind.i64.wrap ((BitVec.ofInt 64 (a : Int) &&& BitVec.ofInt 64 ((2 ^ n - 1 : Nat) : Int)).toNat : Int) = _
  rw [BitVec.toNat_and, hx a (by omega), hx _ (by omega), Nat.and_two_pow_sub_one_eq_mod, IntKind.wrap_i64]
  have h3 : a % 2 ^ n ≤ a := Nat.mod_le _ _
  omega
theorem cnt_wrap {i : Nat} (h : i ≤ 100000) : IntKind.wrap IntKind.i64 ((i : Int) + 1) = ((i + 1 : Nat) : Int) := by rw [wr (by omega) (by omega)]; push_cast; rfl
theorem str_data (xs : List Int) : (strOfNums xs).data = (xs.map fun n => UInt8.ofNat n.toNat).toArray := rfl
theorem str_app (a b : List Int) : strOfNums (a ++ b) = strOfNums a ++ strOfNums b := by
  apply ByteArray.ext
  rw [ByteArray.data_append]
  simp [str_data]
theorem str_bytes (s : ByteArray) : strOfNums (bytesN s) = s := by
  apply ByteArray.ext
  rw [str_data]
  unfold bytesN
  rw [List.map_map]
  have e : ((fun n : Int => UInt8.ofNat n.toNat) ∘ fun b : UInt8 => (b.toNat : Int)) = id := by
    funext b
    simp
  rw [e, List.map_id, Array.toArray_toList]
theorem app_size (a b : ByteArray) : (a ++ b).size = a.size + b.size := by
  show (a ++ b).data.size = _
  rw [ByteArray.data_append, Array.size_append]
  rfl
theorem lowB_len : ∀ (m : Nat) (x : Int), (lowB m x).length = m
  | 0, _ => rfl
  | m + 1, x => by simp [lowB, lowB_len m]
theorem lowB_snoc : ∀ (m : Nat) (x : Int), lowB (m + 1) x = lowB m x ++ [x / 256 ^ m % 256]
  | 0, x => by simp [lowB]
  | m + 1, x => by
    have ih := lowB_snoc m (x / 256)
    have e : x / 256 / 256 ^ m = x / 256 ^ (m + 1) := by
      rw [Int.pow_succ, Int.mul_comm, Int.ediv_ediv_of_nonneg (by omega)]
    rw [show lowB (m + 1 + 1) x = x % 256 :: lowB (m + 1) (x / 256) from rfl, ih, e]
    rfl
theorem wS_str (s : ByteArray) (p n k v : Int) : strOfNums (wBytes s (wX p n v) (wM n k)) = wS s p n k v := by
  unfold wBytes wS
  rw [str_app, str_bytes]
theorem whenF_v (b : Bool) (e : Int) : whenF_t b e := by
  unfold whenF_t
  exact ⟨fun h => by rw [h]; rfl, fun h => by rw [h]; rfl⟩
theorem fst_at {l : List Int} {i : Nat} (h : i < l.length) : fstE (l.drop i) = cond (l.getD i 0 == 0) (fstE (l.drop (i + 1))) (l.getD i 0) := by
  rw [drop_at h]
  rfl
theorem fstF_v (l : List Int) (h0 : l.length ≤ 1000) : fstF_t l := by
  unfold fstF_t
  refine ⟨⟨0, ⟨by omega, rfl⟩, (by first | rfl | trivial), (by first | rfl | trivial), (by first | rfl | trivial), rfl⟩, fun i ⟨hi, he⟩ => ⟨fun hlt => ?_, fun hge => ?_⟩⟩
  · have hlt : i < l.length := by simpa using hlt
    rw [fst_at hlt] at he
    simp only [toNat_cast]
    refine ⟨by omega, by omega, fun hn => ?_, fun hn => ⟨i + 1, ⟨by omega, ?_⟩, by rw [Nat.sub_eq, Nat.sub_eq]; omega, (by first | rfl | trivial), (by first | rfl | trivial), (by first | rfl | trivial), by rw [wr (by omega) (by omega)]; rfl⟩⟩
    · rw [he, nez0 hn]; rfl
    · rw [he, beq0 (eq0 hn)]; rfl
  · have : i = l.length := by simp only [decide_eq_false_iff_not] at hge; omega
    subst this
    rw [List.drop_length] at he
    rw [he]
    rfl
theorem opnF_v (s : ByteArray) (p n : Int) (h0 : 0 ≤ p) (h1 : p ≤ 255) : opnF_t s p n := ⟨rfl, wru (by omega) (by omega), rfl⟩
theorem nn7 {n : Int} (h0 : 0 ≤ n) (h1 : n ≤ 7) : (2 : Int) ^ n.toNat ≤ 128 := by
  have := pow_mono (show n.toNat ≤ 7 by omega)
  simpa using this
theorem and7 {n : Int} (h0 : 0 ≤ n) (h1 : n ≤ 7) : bits .and .i64 n 7 = n := by
  obtain ⟨a, rfl⟩ := Int.eq_ofNat_of_zero_le h0
  have h := and_pow64 a 3 (by omega) (by omega)
  rw [show (2 : Int) ^ 3 - 1 = 7 by decide] at h
  rw [h, Nat.mod_eq_of_lt (by omega)]
theorem one_shl {n : Int} (h0 : 0 ≤ n) (h1 : n ≤ 7) : IntKind.wrap IntKind.i64 ((1 : Int) * (2 : Int) ^ min (Int.toNat (IntKind.wrap IntKind.u64 n)) (IntKind.bits IntKind.i64)) = 2 ^ n.toNat := by
  rw [wru (by omega) (by omega), b64, Nat.min_eq_left (by omega), Int.one_mul]
  have := nn7 h0 h1
  have := pow_pos' n.toNat
  exact wr (by omega) (by omega)
theorem chkF_v (s : ByteArray) (p n : Int) (h0 : 0 ≤ n) (h1 : n ≤ 7) (h2 : 0 ≤ p) (h3 : p < 2 ^ n.toNat) (h4 : s.size ≤ 1048576) : chkF_t s p n := by
  unfold chkF_t
  rw [and7 h0 h1, one_shl h0 h1, wru (show 0 ≤ n by omega) (by omega), decide_eq_false (show ¬ (s.size : Int) > 1048576 by omega)]
  refine ⟨fun h => ?_, fun _ => ⟨fun h => ?_, fun _ => ⟨fun h => ?_, fun _ => ⟨h0, fun h => ?_, fun _ => rfl⟩⟩⟩⟩ <;> (simp only [gt_iff_lt, ge_iff_le, decide_eq_true_eq] at h; omega)
theorem whenF_sound : Sound Try.prog 69 sWhen.ctr := sWhen.sound (by kernel_rfl) sWhen_enc fun ⟨b, e⟩ hc => by
  exact satG AllOk.nil mixed Try.func69 (whenF_e b e) (whenF_v b e)
theorem fstF_sound : Sound Try.prog 68 sFst.ctr := sFst.sound (by kernel_rfl) sFst_enc fun l hc => by
  have h0 := hc _ (.head _)
  exact satG AllOk.nil mixed Try.func68 (fstF_e l) (fstF_v l h0)
theorem opnF_sound : Sound Try.prog 79 sOpenW.ctr := sOpenW.sound (by kernel_rfl) sOpenW_enc fun ⟨s, p, n⟩ hc => by
  have h0 := hc _ (.head _)
  have h1 := hc _ (.tail _ (.head _))
  exact satG AllOk.nil mixed Try.func79 (opnF_e s p n) (opnF_v s p n h0 h1)
theorem or_u64 (p v n : Nat) (hp : p < 2 ^ n) (hX : p + v * 2 ^ n < 18446744073709551616) : bits .or .u64 (p : Int) ((v * 2 ^ n : Nat) : Int) = ((p + v * 2 ^ n : Nat) : Int) := by
  have hx : ∀ a : Nat, a < 18446744073709551616 → (BitVec.ofInt 64 (a : Int)).toNat = a := fun a ha => by
    rw [BitVec.ofInt_natCast, BitVec.toNat_ofNat]; exact Nat.mod_eq_of_lt (by omega)
  show IntKind.u64.wrap ((BitVec.ofInt 64 (p : Int) ||| BitVec.ofInt 64 ((v * 2 ^ n : Nat) : Int)).toNat : Int) = _
  rw [BitVec.toNat_or, hx p (by omega), hx _ (by omega), Nat.or_comm, Nat.mul_comm v (2 ^ n), ← Nat.two_pow_add_eq_or_of_lt hp]
  rw [Nat.mul_comm] at hX
  generalize 2 ^ n * v = y at hX ⊢
  rw [IntKind.wrap_u64]
  omega
structure PutN (p n k v : Int) : Prop where
  n0 : 0 ≤ n
  n7 : n ≤ 7
  p0 : 0 ≤ p
  p1 : p < 2 ^ n.toNat
  k0 : 0 ≤ k
  k1 : k ≤ 32
  v0 : 0 ≤ v
  v1 : v < 2 ^ k.toNat
theorem pow256 (m : Nat) : (256 : Int) ^ m = 2 ^ (8 * m) := by
  rw [Int.pow_mul]; rfl
theorem PutN.X {p n k v : Int} (h : PutN p n k v) : 0 ≤ wX p n v ∧ wX p n v < 2 ^ (n + k).toNat ∧ wX p n v < 1099511627776 := by
  obtain ⟨n0, n7, p0, p1, k0, k1, v0, v1⟩ := h
  have h1 := nn7 n0 n7
  have h2 := pow_pos' n.toNat
  have h3 : (2 : Int) ^ k.toNat ≤ 4294967296 := by
    have := pow_mono (show k.toNat ≤ 32 by omega)
    simpa using this
  have e : (n + k).toNat = n.toNat + k.toNat := by omega
  have h4 : 0 ≤ v * 2 ^ n.toNat := Int.mul_nonneg v0 (by omega)
  have h5 : (v + 1) * 2 ^ n.toNat ≤ 2 ^ k.toNat * 2 ^ n.toNat := Int.mul_le_mul_of_nonneg_right (by omega) (by omega)
  have h6 : (2 : Int) ^ k.toNat * 2 ^ n.toNat ≤ 4294967296 * 128 := Int.mul_le_mul h3 h1 (by omega) (by omega)
  rw [Int.add_mul, Int.one_mul] at h5
  unfold wX
  rw [e, Int.pow_add, Int.mul_comm ((2 : Int) ^ n.toNat)]
  exact ⟨by omega, by omega, by omega⟩
theorem wM_eq {n k : Int} (h0 : 0 ≤ n) (h1 : 0 ≤ k) : n + k = 8 * (wM n k : Int) + wN n k ∧ 0 ≤ wN n k ∧ wN n k ≤ 7 := by
  unfold wM wN
  omega
theorem PutN.P {p n k v : Int} (h : PutN p n k v) : 0 ≤ wP p n k v ∧ wP p n k v < 2 ^ (wN n k).toNat := by
  obtain ⟨x0, x1, _⟩ := h.X
  obtain ⟨e, r0, r1⟩ := wM_eq h.n0 h.k0
  unfold wP
  have hp : (0 : Int) < 256 ^ wM n k := by rw [pow256]; exact pow_pos' _
  refine ⟨Int.ediv_nonneg x0 (by omega), Int.ediv_lt_of_lt_mul hp ?_⟩
  rw [pow256, ← Int.pow_add]
  have : (wN n k).toNat + 8 * wM n k = (n + k).toNat := by omega
  rw [this]
  exact x1
theorem bytes_len (s : ByteArray) : (bytesN s).length = s.size := by unfold bytesN; rw [List.length_map]; rfl
theorem wrap8 {x : Int} : IntKind.wrap IntKind.u8 x = x % 256 := rfl
theorem div_step (x : Int) (j : Nat) : Int.fdiv (x / (256 : Int) ^ j) ((2 : Int) ^ min (Int.toNat (8 : Int)) (IntKind.bits IntKind.u64)) = x / (256 : Int) ^ (j + 1) := by
  rw [show min (Int.toNat (8 : Int)) (IntKind.bits IntKind.u64) = 8 from rfl, show (2 : Int) ^ 8 = 256 from rfl, fdivp (by decide), Int.pow_succ, ← Int.ediv_ediv_of_nonneg (by rw [pow256]; exact Int.le_of_lt (pow_pos' (8 * j)))]
theorem wputF_v (s : ByteArray) (p n k v : Int) (h : PutN p n k v) (hs : s.size ≤ 1048576) : wputF_t s p n k v := by
  obtain ⟨x0, x1, x2⟩ := h.X
  obtain ⟨e, r0, r1⟩ := wM_eq h.n0 h.k0
  obtain ⟨n0, n7, p0, p1, k0, k1, v0, v1⟩ := h
  have e1 : IntKind.wrap IntKind.i64 ((0 : Int) + (1 : Int)) = 1 := by rw [wr (by omega) (by omega)]; rfl
  have en : IntKind.wrap IntKind.u64 n = n := wru (by omega) (by omega)
  have ek : IntKind.wrap IntKind.i64 k = k := wr (by omega) (by omega)
  have eor : bits BinOp.or IntKind.u64 p (IntKind.wrap IntKind.u64 (v * (2 : Int) ^ min (Int.toNat n) (IntKind.bits IntKind.u64))) = wX p n v := by
    obtain ⟨a, rfl⟩ := Int.eq_ofNat_of_zero_le p0
    obtain ⟨b, rfl⟩ := Int.eq_ofNat_of_zero_le v0
    rw [bu64, Nat.min_eq_left (by omega)]
    unfold wX at x0 x1 x2 ⊢
    have hv : 0 ≤ (b : Int) * 2 ^ n.toNat := Int.mul_nonneg (by omega) (Int.le_of_lt (pow_pos' _))
    rw [wru hv (by omega)]
    have ep : ((b : Int) * 2 ^ n.toNat) = ((b * 2 ^ n.toNat : Nat) : Int) := by push_cast; rfl
    rw [ep] at x2 ⊢
    rw [or_u64 a b n.toNat (by have := p1; rw [pow_cast] at this; omega) (by omega)]
    omega
  unfold wputF_t
  rw [e1, en, ek, eor]
  have key : ∀ x1 : Nat, Nat.le x1 (wM n k) → _ := fun x1 hx => hx
  refine ⟨fun _ => ⟨Int.le_refl _, by decide, by omega, by decide, n0, Int.le_refl _, by decide, fun hb => by simp at hb, fun _ => ⟨by omega, ⟨0, Nat.zero_le _, rfl, rfl, .inl rfl, rfl, by rw [Int.pow_zero, Int.ediv_one], by rw [wr (by omega) (by omega)]; simp, rfl, rfl, by simp [wBytes, lowB, bytesN]⟩, fun j hj => ⟨fun hlt => ?_, fun hge => ?_⟩⟩⟩, fun hb => by simp at hb⟩
  · rw [nle] at hj
    simp only [ge_iff_le, decide_eq_true_eq] at hlt
    refine ⟨?_, by omega, j + 1, by rw [nle]; omega, by rw [Nat.sub_eq, Nat.sub_eq]; omega, rfl, rfl, .inl rfl, rfl, div_step _ _, by rw [wr (by omega) (by omega)]; push_cast; omega, rfl, rfl, ?_⟩
    · unfold wBytes
      rw [List.length_append, bytes_len, lowB_len]
      omega
    · unfold wBytes
      rw [wrap8, lowB_snoc, List.append_assoc]
  · rw [nle] at hj
    simp only [ge_iff_le, decide_eq_false_iff_not] at hge
    have : j = wM n k := by omega
    subst this
    exact ⟨wS_str s p n k v, rfl, by omega, rfl, rfl⟩
theorem done_wS {s : ByteArray} {p n : Int} (n0 : 0 ≤ n) (n7 : n ≤ 7) (p0 : 0 ≤ p) (p1 : p < 2 ^ n.toNat) : wS s p n (8 - n) 1 = dS s p n := by
  have h1 := nn7 n0 n7
  have hm : wM n (8 - n) = 1 := by unfold wM; omega
  unfold wS dS
  rw [hm]
  have hx : wX p n 1 = p + 2 ^ n.toNat := by unfold wX; rw [Int.one_mul]
  rw [show lowB 1 (wX p n 1) = [wX p n 1 % 256] from rfl, hx, Int.emod_eq_of_lt (by have := pow_pos' n.toNat; omega) (by omega)]
theorem dnF_v (s : ByteArray) (p n : Int) (n0 : 0 ≤ n) (n7 : n ≤ 7) (p0 : 0 ≤ p) (p1 : p < 2 ^ n.toNat) (hs : s.size ≤ 1000000) : dnF_t s p n := by
  have h1 := nn7 n0 n7
  have h2 := pow_pos' n.toNat
  unfold dnF_t
  rw [show IntKind.wrap IntKind.i64 ((s.size : Int) + 1) = (s.size : Int) + 1 from wr (by omega) (by omega), decide_eq_false (show ¬ (s.size : Int) + 1 > 1048576 by omega)]
  rw [show IntKind.wrap IntKind.u64 (IntKind.wrap IntKind.i64 ((8 : Int) - n)) = 8 - n by rw [wr (by omega) (by omega)]; exact wru (by omega) (by omega)]
  have h3 : (1 : Int) < 2 ^ (8 - n).toNat := by
    have := pow_mono (show 1 ≤ (8 - n).toNat by omega)
    simp at this
    omega
  exact ⟨n0, n7, p0, p1, by omega, by decide, fun h => by simp [fstE] at h, fun _ => ⟨p0, by omega, n0, n7, p0, p1, by omega, by omega, by omega, h3, by omega, done_wS n0 n7 p0 p1, rfl⟩⟩
theorem and63 {k : Int} (h0 : 0 ≤ k) (h1 : k ≤ 32) : bits .and .i64 k 63 = k := by
  obtain ⟨a, rfl⟩ := Int.eq_ofNat_of_zero_le h0
  have h := and_pow64 a 6 (by omega) (by omega)
  rw [show (2 : Int) ^ 6 - 1 = 63 by decide] at h
  rw [h, Nat.mod_eq_of_lt (by omega)]
theorem pwF_v (s : ByteArray) (p n k v : Int) (h : PutN p n k v) (hs : s.size ≤ 1000000) : pwF_t s p n k v := by
  have hP := h.P
  have hN := wM_eq h.n0 h.k0
  have hr := nn7 hN.2.1 hN.2.2
  obtain ⟨n0, n7, p0, p1, k0, k1, v0, v1⟩ := h
  have h1 := nn7 n0 n7
  unfold pwF_t
  rw [and63 k0 k1, show IntKind.wrap IntKind.u64 k = k from wru (by omega) (by omega), bu64, Nat.min_eq_left (show k.toNat ≤ 64 by omega)]
  have ef : Int.fdiv v (2 ^ k.toNat) = 0 := by rw [fdivp (Int.le_of_lt (pow_pos' _)), Int.ediv_eq_zero_of_lt v0 v1]
  have et : Int.tdiv (IntKind.wrap IntKind.i64 (n + k)) 8 = (n + k) / 8 := by rw [wr (by omega) (by omega), Int.tdiv_eq_ediv_of_nonneg (by omega)]
  rw [ef, et, show IntKind.wrap IntKind.i64 ((n + k) / 8) = (n + k) / 8 from wr (by omega) (by omega), show IntKind.wrap IntKind.i64 ((s.size : Int) + (n + k) / 8) = (s.size : Int) + (n + k) / 8 from wr (by omega) (by omega), decide_eq_false (show ¬ (s.size : Int) + (n + k) / 8 > 1048576 by omega)]
  have eP : IntKind.wrap IntKind.i64 (wP p n k v) = wP p n k v := wr (by omega) (by omega)
  refine ⟨n0, n7, p0, p1, by omega, fun h => ?_, fun _ => ⟨fun h => ?_, fun _ => ⟨k0, by decide, by decide, fun h => by simp [fstE] at h, fun _ => ⟨p0, by omega, n0, n7, p0, p1, k0, k1, v0, v1, by omega, rfl, eP, rfl, rfl⟩⟩⟩⟩
  · simp only [decide_eq_true_eq] at h; omega
  · simp only [gt_iff_lt, decide_eq_true_eq] at h; omega
theorem wputF_sound : Sound Try.prog 80 sWput.ctr := sWput.sound (by kernel_rfl) sWput_enc fun ⟨s, p, n, k, v⟩ hc => by
  have h0 := hc _ (.head _)
  have h1 := hc _ (.tail _ (.head _))
  have h2 := hc _ (.tail _ (.tail _ (.head _)))
  have h3 := hc _ (.tail _ (.tail _ (.tail _ (.head _))))
  have h4 := hc _ (.tail _ (.tail _ (.tail _ (.tail _ (.head _)))))
  have h5 := hc _ (.tail _ (.tail _ (.tail _ (.tail _ (.tail _ (.head _))))))
  have h6 := hc _ (.tail _ (.tail _ (.tail _ (.tail _ (.tail _ (.tail _ (.head _)))))))
  have h7 := hc _ (.tail _ (.tail _ (.tail _ (.tail _ (.tail _ (.tail _ (.tail _ (.head _))))))))
  have h8 := hc _ (.tail _ (.tail _ (.tail _ (.tail _ (.tail _ (.tail _ (.tail _ (.tail _ (.head _)))))))))
  exact satG AllOk.nil mixed Try.func80 (wputF_e s p n k v) (wputF_v s p n k v ⟨h0, h1, h2, h3, h4, h5, h6, h7⟩ h8)
theorem and1_u64 (a : Nat) (ha : a < 18446744073709551616) : bits .and .u64 (a : Int) 1 = ((a % 2 : Nat) : Int) := by
  have hx : (BitVec.ofInt 64 (a : Int)).toNat = a := by
    rw [BitVec.ofInt_natCast, BitVec.toNat_ofNat]; exact Nat.mod_eq_of_lt (by omega)
  show IntKind.u64.wrap ((BitVec.ofInt 64 (a : Int) &&& BitVec.ofInt 64 1).toNat : Int) = _
  rw [BitVec.toNat_and, hx, show (BitVec.ofInt 64 1).toNat = 2 ^ 1 - 1 from rfl, Nat.and_two_pow_sub_one_eq_mod, IntKind.wrap_u64]
  omega
theorem PutN.part {p n k v : Int} (h : PutN p n k v) {i : Nat} (hi : (i : Int) ≤ k) : PutN p n i (lowV v i) :=
  ⟨h.n0, h.n7, h.p0, h.p1, by omega, by have := h.k1; omega, Int.emod_nonneg _ (by have := pow_pos' i; omega), by rw [toNat_cast]; exact Int.emod_lt_of_pos _ (pow_pos' i)⟩
theorem wS_size (s : ByteArray) (p n k v : Int) : (wS s p n k v).size = s.size + wM n k := by
  unfold wS
  rw [app_size, strOfNums_size, lowB_len]
theorem toList_loop (s : ByteArray) : ∀ (k i : Nat) (r : List UInt8), s.size - i = k → ByteArray.toList.loop s i r = r.reverse ++ s.data.toList.drop i
  | 0, i, r, h => by
    rw [ByteArray.toList.loop, if_neg (by omega), List.drop_eq_nil_of_le (by show s.data.toList.length ≤ i; have : s.data.toList.length = s.size := rfl; omega), List.append_nil]
  | k + 1, i, r, h => by
    rw [ByteArray.toList.loop, if_pos (by omega), toList_loop s k (i + 1) _ (by omega)]
    have hl : i < s.data.toList.length := by have : s.data.toList.length = s.size := rfl; omega
    rw [List.drop_eq_getElem_cons hl, List.reverse_cons, List.append_assoc]
    have : s.get! i = s.data.toList[i] := by
      show s.data[i]! = _
      rw [getElem!_pos s.data i (by simpa using hl)]
      simp
    rw [this]
    rfl
theorem toList_data (s : ByteArray) : s.toList = s.data.toList := by
  unfold ByteArray.toList
  rw [toList_loop s s.size 0 [] (by omega)]
  simp
theorem bytes_eq {a b : ByteArray} (h : a.toList = b.toList) : a = b := by
  rw [toList_data, toList_data] at h
  cases a; cases b
  simp only [ByteArray.mk.injEq]
  exact Array.toList_inj.1 h
theorem toList_nil (s : ByteArray) : (s.toList == ByteArray.empty.toList) = Nat.beq s.size 0 := by
  cases h : Nat.beq s.size 0
  · refine beq_eq_false_iff_ne.2 fun he => ?_
    rw [bytes_eq he] at h
    cases h
  · have h0 := Nat.eq_of_beq_eq_true h
    have : s = ByteArray.empty := by
      cases s with
      | mk d =>
        have : d.size = 0 := h0
        rw [Array.size_eq_zero_iff.1 this]
        rfl
    rw [this]
    simp
theorem byI_rng (s : ByteArray) (i : Nat) : 0 ≤ byI s i ∧ byI s i < 256 := by
  unfold byI
  have := (s.data.toList.getD i 0).toNat_lt
  omega
def l8S : ByteArray := ⟨(([0, 1] ++ List.replicate 2 2 ++ List.replicate 4 3 ++ List.replicate 8 4 ++ List.replicate 16 5 ++ List.replicate 32 6 ++ List.replicate 64 7 ++ List.replicate 128 8 : List UInt8)).toArray⟩
def len8H_t (x : Int) : Prop := (0 : Int) ≤ x ∧ x < (l8S.size : Int) ∧ IntKind.wrap IntKind.i64 ((UInt8.toNat (List.getD l8S.data.toList (Int.toNat x) 0) : Nat) : Int) = hiI x + 1
theorem len8H_e (x : Int) : len8H_t x = vcG Try.prog (Gof []) (fun _ => none) Try.f95 [.v (.int .u8 x)] [] (.leaf (.v (.int .i64 (hiI x + 1))) []) := by kernel_rfl
theorem len8_tab : ∀ n : Fin 256, ((UInt8.toNat (List.getD l8S.data.toList n.val 0) : Nat) : Int) = hiI (n.val : Int) + 1 := by decide +kernel
theorem len8H_v (x : Int) (h0 : 0 ≤ x) (h1 : x ≤ 255) : len8H_t x := by
  obtain ⟨n, rfl⟩ := Int.eq_ofNat_of_zero_le h0
  have h := len8_tab ⟨n, by omega⟩
  simp only at h
  have hb : hiI (n : Int) ≤ 100 ∧ -1 ≤ hiI (n : Int) := by
    unfold hiI
    cases hd : decide ((n : Int) ≤ 0)
    · simp only [cond_false, toNat_cast]
      have : Nat.log2 n < 9 := (Nat.log2_lt (by simp only [decide_eq_false_iff_not] at hd; omega)).2 (by omega)
      omega
    · simp only [cond_true]; omega
  refine ⟨h0, by show (n : Int) < 256; omega, ?_⟩
  rw [toNat_cast, h, wr (by omega) (by omega)]
theorem hi_8 : ∀ b : Fin 256, b.val ≠ 0 → 0 ≤ hiI (b.val : Int) ∧ hiI (b.val : Int) ≤ 7 := by decide +kernel
theorem noB_size {s : ByteArray} (h : noB s = false) : 0 < s.size ∧ lastB s ≠ 0 := by
  unfold noB at h
  simp only [Bool.or_eq_false_iff, beq_eq_false_iff_ne] at h
  refine ⟨?_, h.2⟩
  rcases Nat.eq_zero_or_pos s.size with h0 | h0
  · rw [h0] at h; cases h.1
  · exact h0
theorem lastB_rng (s : ByteArray) : 0 ≤ lastB s ∧ lastB s < 256 := byI_rng s _
theorem bkN_rng {s : ByteArray} (h : noB s = false) : 8 * ((s.size : Int) - 1) ≤ bkN s ∧ bkN s < 8 * s.size ∧ 0 ≤ bkN s := by
  obtain ⟨h0, h1⟩ := noB_size h
  obtain ⟨b0, b1⟩ := lastB_rng s
  have hh := hi_8 ⟨(lastB s).toNat, by omega⟩ (by simp only; omega)
  simp only at hh
  rw [show (((lastB s).toNat : Nat) : Int) = lastB s by omega] at hh
  unfold bkN
  rw [h]
  simp only [cond_false]
  omega
theorem bkN_no {s : ByteArray} (h : noB s = true) : bkN s = -1 := by unfold bkN; rw [h]; rfl
theorem bkN_neg (s : ByteArray) : decide (bkN s < 0) = noB s := by
  cases h : noB s
  · exact decide_eq_false (by have := (bkN_rng h).2.2; omega)
  · rw [bkN_no h]; rfl
theorem bkBit_eq {s : ByteArray} {k : Nat} : bkBit s (k : Int) = ((byI s (k / 8)).toNat / 2 ^ (k % 8) % 2 : Nat) := by
  have hb := (byI_rng s (k / 8)).1
  unfold bkBit
  rw [decide_eq_false (by omega)]
  simp only [cond_false]
  rw [show ((k : Int) / 8).toNat = k / 8 by omega, show ((k : Int) % 8).toNat = k % 8 by omega]
  obtain ⟨b, he⟩ := Int.eq_ofNat_of_zero_le hb
  rw [he, toNat_cast]
  push_cast
  rfl
theorem bkBit_01 (s : ByteArray) (k : Int) : bkBit s k = 0 ∨ bkBit s k = 1 := by
  unfold bkBit
  cases decide (k < 0)
  · simp only [cond_false]
    omega
  · exact .inl rfl
theorem bit_u64 {s : ByteArray} {k : Nat} : bits BinOp.and IntKind.u64 (Int.fdiv (byI s (k / 8)) (2 ^ min (k % 8) 64)) 1 = bkBit s (k : Int) := by
  obtain ⟨b0, b1⟩ := byI_rng s (k / 8)
  rw [bkBit_eq, Nat.min_eq_left (by omega), fdivp (Int.le_of_lt (pow_pos' _))]
  obtain ⟨b, he⟩ := Int.eq_ofNat_of_zero_le b0
  rw [he, toNat_cast]
  have : (b : Int) / 2 ^ (k % 8) = ((b / 2 ^ (k % 8) : Nat) : Int) := by push_cast; rfl
  rw [this, and1_u64 _ (by have := Nat.div_le_self b (2 ^ (k % 8)); omega)]
theorem wr_div {k : Nat} (h : k ≤ 100000000000) : IntKind.wrap IntKind.i64 (Int.tdiv (k : Int) 8) = ((k / 8 : Nat) : Int) := by
  rw [Int.tdiv_eq_ediv_of_nonneg (by omega), wr (by omega) (by omega)]
  omega
theorem wr_mod (k : Nat) : IntKind.wrap IntKind.u64 (Int.tmod (k : Int) 8) = ((k % 8 : Nat) : Int) := by
  rw [Int.tmod_eq_emod_of_nonneg (by omega), wru (by omega) (by omega)]
  omega
theorem longH_v (s : ByteArray) : longH_t s := decide_eq_decide.2 (by omega)
theorem bitH_v (s : ByteArray) (i : Int) (h0 : 0 ≤ i) (h1 : i < 8 * s.size) (h2 : s.size ≤ 4294967296) : bitH_t s i := by
  obtain ⟨k, rfl⟩ := Int.eq_ofNat_of_zero_le h0
  unfold bitH_t
  rw [wr_div (by omega), wr_mod]
  simp only [toNat_cast, bu64]
  have hb := byI_rng s (k / 8)
  refine ⟨by decide, by omega, by omega, by decide, by omega, ?_⟩
  have : IntKind.wrap IntKind.u64 ((UInt8.toNat (List.getD s.data.toList (k / 8) 0) : Nat) : Int) = byI s (k / 8) := wru (n := byI s (k / 8)) (by omega) (by omega)
  rw [this]
  exact bit_u64
theorem bk_no {s : ByteArray} (h : noB s = true) (hl : ¬ 1048576 < s.size) : (0 : Int) = bkR s ∧ (22 : Int) = bkE s := by
  have : bkE s = 22 := by unfold bkE; rw [decide_eq_false hl, h]; rfl
  exact ⟨by unfold bkR; rw [this]; rfl, this.symm⟩
theorem bk_long {s : ByteArray} (hl : 1048576 < s.size) : (0 : Int) = bkR s ∧ (4 : Int) = bkE s := by
  have : bkE s = 4 := by unfold bkE; rw [decide_eq_true hl]; rfl
  exact ⟨by unfold bkR; rw [this]; rfl, this.symm⟩
theorem bk_yes {s : ByteArray} (h : noB s = false) (hl : ¬ 1048576 < s.size) : bkN s = bkR s ∧ (0 : Int) = bkE s := by
  have : bkE s = 0 := by unfold bkE; rw [decide_eq_false hl, h]; rfl
  exact ⟨by unfold bkR; rw [this]; rfl, this.symm⟩
theorem bkE_0 {s : ByteArray} (h : bkE s = 0) : noB s = false ∧ ¬ 1048576 < s.size ∧ bkR s = bkN s ∧ bkS s = s := by
  have hl : ¬ 1048576 < s.size := fun hl => by have := (bk_long hl).2; omega
  have hn : noB s = false := by
    cases hn : noB s
    · rfl
    · have := (bk_no hn hl).2; omega
  exact ⟨hn, hl, (bk_yes hn hl).1.symm, by unfold bkS; rw [h]; rfl⟩
theorem wr_len {s : ByteArray} (h : 0 < s.size) (h2 : s.size ≤ 4294967296) : IntKind.wrap IntKind.i64 ((s.size : Int) - 1) = ((s.size - 1 : Nat) : Int) := by rw [wr (by omega) (by omega)]; omega
theorem size_pos {s : ByteArray} (h : Nat.beq s.size 0 = false) : 0 < s.size := by
  rcases Nat.eq_zero_or_pos s.size with h0 | h0
  · rw [h0] at h; cases h
  · exact h0
theorem noB_empty {s : ByteArray} (h : Nat.beq s.size 0 = true) : noB s = true := by unfold noB; rw [h]; rfl
theorem noB_last {s : ByteArray} (h : Nat.beq s.size 0 = false) : noB s = (lastB s == 0) := by unfold noB; rw [h]; rfl
theorem sizeH_v (s : ByteArray) (h2 : s.size ≤ 4294967296) : sizeH_t s := by
  unfold sizeH_t
  rw [toList_nil]
  refine ⟨fun h => (bkN_no (noB_empty h)).symm, fun h => ?_⟩
  have hz := size_pos h
  have hn := noB_last h
  rw [wr_len hz h2]
  simp only [toNat_cast]
  have hb := lastB_rng s
  refine ⟨by omega, by omega, fun h => (bkN_no (by rw [hn]; exact h)).symm, fun h => ?_⟩
  have hn : noB s = false := by rw [hn]; exact h
  obtain ⟨r1, r2, r3⟩ := bkN_rng hn
  have hN : bkN s = 8 * ((s.size : Int) - 1) + hiI (lastB s) := by unfold bkN; rw [hn]; rfl
  refine ⟨by omega, by omega, hb.1, by have := hb.2; unfold lastB at this; omega, ?_⟩
  show IntKind.wrap IntKind.i64 (IntKind.wrap IntKind.i64 (IntKind.wrap IntKind.i64 (8 * ((s.size - 1 : Nat) : Int)) + (hiI (lastB s) + 1)) - 1) = bkN s
  rw [show IntKind.wrap IntKind.i64 (8 * ((s.size - 1 : Nat) : Int)) = 8 * ((s.size : Int) - 1) by rw [wr (by omega) (by omega)]; omega]
  rw [show IntKind.wrap IntKind.i64 (8 * ((s.size : Int) - 1) + (hiI (lastB s) + 1)) = 8 * ((s.size : Int) - 1) + (hiI (lastB s) + 1) from wr (by omega) (by omega), wr (by omega) (by omega)]
  omega
theorem longH_sound : Sound Try.prog 84 sLong.ctr := sLong.sound (by kernel_rfl) sLong_enc fun s hc => by
  exact satG AllOk.nil mixed Try.func84 (longH_e s) (longH_v s)
theorem len8H_sound : Sound Try.prog 95 sLen8.ctr := sLen8.sound (by kernel_rfl) sLen8_enc fun x hc => by
  have h0 := hc _ (.head _)
  have h1 := hc _ (.tail _ (.head _))
  exact satG AllOk.nil mixed Try.func95 (len8H_e x) (len8H_v x h0 h1)
theorem bitH_sound : Sound Try.prog 103 sBitT.ctr := sBitT.sound (by kernel_rfl) sBitT_enc fun ⟨s, i⟩ hc => by
  have h0 := hc _ (.head _)
  have h1 := hc _ (.tail _ (.head _))
  have h2 := hc _ (.tail _ (.tail _ (.head _)))
  exact satG AllOk.nil mixed Try.func103 (bitH_e s i) (bitH_v s i h0 h1 h2)
theorem nnI (a : Int) : Int.NonNeg a ↔ 0 ≤ a := ⟨fun h => by cases h; exact Int.natCast_nonneg _, fun h => by obtain ⟨m, rfl⟩ := Int.eq_ofNat_of_zero_le h; exact ⟨m⟩⟩
theorem pkF_succ (s : ByteArray) (l : Int) (i : Nat) : pkF s l (i + 1) = 2 * pkF s l i + bkBit s (l - 1 - (i : Nat)) := rfl
theorem pkF_rng (s : ByteArray) (l : Int) : ∀ i, 0 ≤ pkF s l i ∧ pkF s l i < 2 ^ i
  | 0 => by show (0 : Int) ≤ 0 ∧ (0 : Int) < 2 ^ 0; decide
  | i + 1 => by
    have ih := pkF_rng s l i
    have hb := bkBit_01 s (l - 1 - (i : Nat))
    rw [pkF_succ, Int.pow_succ]
    omega
theorem bkBit_neg {s : ByteArray} {k : Int} (h : k < 0) : bkBit s k = 0 := by unfold bkBit; rw [decide_eq_true h]; rfl
theorem or1_u64 (a b : Nat) (hb : b < 2) (h : 2 * a + b < 18446744073709551616) : bits .or .u64 ((2 * a : Nat) : Int) (b : Int) = ((2 * a + b : Nat) : Int) := by
  have hx : ∀ a : Nat, a < 18446744073709551616 → (BitVec.ofInt 64 (a : Int)).toNat = a := fun a ha => by
    rw [BitVec.ofInt_natCast, BitVec.toNat_ofNat]; exact Nat.mod_eq_of_lt (by omega)
  show IntKind.u64.wrap ((BitVec.ofInt 64 ((2 * a : Nat) : Int) ||| BitVec.ofInt 64 (b : Int)).toNat : Int) = _
  rw [BitVec.toNat_or, hx _ (by omega), hx _ (by omega)]
  have := Nat.two_pow_add_eq_or_of_lt (i := 1) (b := b) (by omega) a
  rw [Nat.pow_one] at this
  rw [← this, IntKind.wrap_u64]
  omega
theorem min1 : min (Int.toNat (1 : Int)) 64 = 1 := rfl
theorem dbl {s : ByteArray} {l : Int} {i : Nat} (h : i ≤ 32) : IntKind.wrap IntKind.u64 (pkF s l i * (2 : Int) ^ min (Int.toNat (1 : Int)) (IntKind.bits IntKind.u64)) = 2 * pkF s l i := by
  have h1 := pkF_rng s l i
  have h2 := pow_mono h
  rw [bu64, min1, Int.pow_one, wru (by omega) (by simp at h2; omega)]
  omega
theorem idx_wr {l : Int} {i : Nat} (h0 : 0 ≤ l) (h1 : l ≤ 100000000000) (hi : i ≤ 100) : IntKind.wrap IntKind.i64 (IntKind.wrap IntKind.i64 (l - 1) - (i : Int)) = l - 1 - (i : Int) := by
  rw [show IntKind.wrap IntKind.i64 (l - 1) = l - 1 from wr (by omega) (by omega), wr (by omega) (by omega)]
theorem numH_v (s : ByteArray) (l n : Int) (h0 : 0 ≤ n) (h1 : n ≤ 32) (h2 : 0 ≤ l) (h3 : l ≤ 8 * s.size) (h4 : s.size ≤ 4294967296) : numH_t s l n := by
  unfold numH_t
  simp only [nnI]
  refine ⟨⟨0, by omega, rfl, (by first | rfl | trivial), (by first | rfl | trivial), (by first | rfl | trivial), (by first | rfl | trivial)⟩, fun i hi => ⟨fun hlt => ⟨by decide, fun hk => ?_, fun hk => ?_⟩, fun hge => ⟨?_, (by first | rfl | trivial), (by first | rfl | trivial)⟩⟩⟩
  · have hlt : (i : Int) < n := by simpa using hlt
    rw [idx_wr h2 (by omega) (by omega)] at hk ⊢
    simp only [ge_iff_le, decide_eq_true_eq] at hk
    have hr := pkF_rng s l i
    have hp := pow_mono (show i ≤ 32 by omega)
    have hb := bkBit_01 s (l - 1 - (i : Nat))
    refine ⟨hk, by omega, h4, i + 1, by omega, by rw [Nat.sub_eq, Nat.sub_eq]; omega, ?_, (by first | rfl | trivial), cnt_wrap (by omega), (by first | rfl | trivial), (by first | rfl | trivial)⟩
    rw [dbl (by omega), pkF_succ]
    obtain ⟨a, ha⟩ := Int.eq_ofNat_of_zero_le hr.1
    obtain ⟨b, hb2⟩ := Int.eq_ofNat_of_zero_le (show 0 ≤ bkBit s (l - 1 - (i : Nat)) by omega)
    rw [ha, hb2]
    have := or1_u64 a b (by omega) (by simp at hp; omega)
    push_cast at this
    exact this
  · have hlt : (i : Int) < n := by simpa using hlt
    rw [idx_wr h2 (by omega) (by omega)] at hk
    simp only [ge_iff_le, decide_eq_false_iff_not] at hk
    refine ⟨i + 1, by omega, by rw [Nat.sub_eq, Nat.sub_eq]; omega, ?_, (by first | rfl | trivial), cnt_wrap (by omega), (by first | rfl | trivial), (by first | rfl | trivial)⟩
    rw [dbl (by omega), pkF_succ, bkBit_neg (by omega)]
    omega
  · have : i = n.toNat := by simp only [decide_eq_false_iff_not] at hge; omega
    rw [this]
theorem rgE_bad {s : ByteArray} {l : Int} (h : bkE s ≠ 0) : rgE s l = 10 := by
  unfold rgE
  rw [show (bkE s == 0) = false by simpa using h]
  rfl
theorem rgE_out {s : ByteArray} {l : Int} (h : l < 0 ∨ bkN s < l) : rgE s l = 10 := by
  unfold rgE
  cases bkE s == 0
  · rfl
  · have : (decide (l < 0) || decide (bkN s < l)) = true := by simpa using h
    rw [this]; rfl
theorem rgE_ok {s : ByteArray} {l : Int} (h : bkE s = 0) (h0 : 0 ≤ l) (h1 : l ≤ bkN s) : rgE s l = 0 := by
  unfold rgE
  rw [beq0 h, decide_eq_false (by omega), decide_eq_false (by omega)]
  rfl
theorem rgE_0 {s : ByteArray} {l : Int} (h : rgE s l = 0) : bkE s = 0 ∧ 0 ≤ l ∧ l ≤ bkN s := by
  have h1 : bkE s = 0 := Classical.byContradiction fun hn => by rw [rgE_bad hn] at h; cases h
  have h2 : ¬ (l < 0 ∨ bkN s < l) := fun hn => by rw [rgE_out hn] at h; cases h
  exact ⟨h1, by omega, by omega⟩
theorem pk_bad {s : ByteArray} {l n : Int} (h : rgE s l ≠ 0) : pkE s l n = rgE s l := by
  unfold pkE
  rw [show (rgE s l == 0) = false by simpa using h]
  rfl
theorem pk_out {s : ByteArray} {l n : Int} (h : rgE s l = 0) (hn : n < 0 ∨ 32 < n) : pkE s l n = 2 := by
  unfold pkE
  have : (decide (n < 0) || decide (32 < n)) = true := by simpa using hn
  rw [beq0 h, this]
  rfl
theorem pk_ok {s : ByteArray} {l n : Int} (h : rgE s l = 0) (h0 : 0 ≤ n) (h1 : n ≤ 32) : pkE s l n = 0 := by
  unfold pkE
  rw [beq0 h, decide_eq_false (by omega), decide_eq_false (by omega)]
  rfl
theorem pk_0 {s : ByteArray} {l n : Int} (h : pkE s l n = 0) : rgE s l = 0 ∧ 0 ≤ n ∧ n ≤ 32 := by
  have h1 : rgE s l = 0 := Classical.byContradiction fun hn => hn (by rw [← pk_bad hn (n := n)]; exact h)
  have h2 : ¬ (n < 0 ∨ 32 < n) := fun hn => by rw [pk_out h1 hn] at h; cases h
  exact ⟨h1, by omega, by omega⟩
theorem pkV_bad {s : ByteArray} {l n : Int} (h : pkE s l n ≠ 0) : 0 = pkV s l n := by
  unfold pkV
  rw [show (pkE s l n == 0) = false by simpa using h]
  rfl
theorem pkV_ok {s : ByteArray} {l n : Int} (h : pkE s l n = 0) : pkV s l n = pkF s l n.toNat := by
  unfold pkV
  rw [beq0 h]
  rfl
theorem tk_bad {s : ByteArray} {l n : Int} (h : pkE s l n ≠ 0) : tkE s l n = pkE s l n := by
  unfold tkE
  rw [show (pkE s l n == 0) = false by simpa using h]
  rfl
theorem tk_short {s : ByteArray} {l n : Int} (h : pkE s l n = 0) (h2 : l < n) : tkE s l n = 5 := by
  unfold tkE
  rw [beq0 h, decide_eq_true h2]
  rfl
theorem tk_good {s : ByteArray} {l n : Int} (h : pkE s l n = 0) (h2 : n ≤ l) : tkE s l n = 0 := by
  unfold tkE
  rw [beq0 h, decide_eq_false (by omega)]
  rfl
theorem tk_0 {s : ByteArray} {l n : Int} (h : tkE s l n = 0) : pkE s l n = 0 ∧ n ≤ l := by
  have h1 : pkE s l n = 0 := Classical.byContradiction fun hn => hn (by rw [← tk_bad hn]; exact h)
  have h2 : ¬ l < n := fun hn => by rw [tk_short h1 hn] at h; cases h
  exact ⟨h1, by omega⟩
structure TkOk (s : ByteArray) (l n : Int) : Prop where
  nb : noB s = false
  le : ¬ 1048576 < s.size
  l0 : 0 ≤ l
  l1 : l ≤ bkN s
  l2 : bkN s < 8 * s.size
  n0 : 0 ≤ n
  n1 : n ≤ 32
theorem pk_ok0 {s : ByteArray} {l n : Int} (h : pkE s l n = 0) : TkOk s l n := by
  obtain ⟨h1, h2, h3⟩ := pk_0 h
  obtain ⟨h4, h5, h6⟩ := rgE_0 h1
  obtain ⟨h7, h8, _⟩ := bkE_0 h4
  exact ⟨h7, h8, h5, h6, (bkN_rng h7).2.1, h2, h3⟩
theorem tk_vals {s : ByteArray} {l n : Int} (h : tkE s l n = 0) : s = tkS s l n ∧ l - n = tkL s l n ∧ pkF s l n.toNat = tkV s l n ∧ (true = tkO s l n) ∧ nxL s l n = l - n := by
  unfold tkS tkL tkV tkO nxL
  rw [beq0 h]
  exact ⟨rfl, rfl, rfl, rfl, rfl⟩
theorem tk_none {s : ByteArray} {l n : Int} (h : tkE s l n ≠ 0) : ByteArray.empty = tkS s l n ∧ 0 = tkL s l n ∧ 0 = tkV s l n ∧ (false = tkO s l n) ∧ l = nxL s l n := by
  unfold tkS tkL tkV tkO nxL
  rw [show (tkE s l n == 0) = false by simpa using h]
  exact ⟨rfl, rfl, rfl, rfl, rfl⟩
theorem bkS_bad {s : ByteArray} (h : bkE s ≠ 0) : ByteArray.empty = bkS s ∧ 0 = bkR s := by
  unfold bkS bkR
  rw [show (bkE s == 0) = false by simpa using h]
  exact ⟨rfl, rfl⟩
theorem rreadH_v (s : ByteArray) (h : s.size ≤ 4294967296) : rreadH_t s := by
  unfold rreadH_t
  exact ⟨h, fun hb => ⟨(bkS_bad (nz hb)).1, (bkS_bad (nz hb)).2, rfl⟩, fun hb => ⟨(bkE_0 (eq0 hb)).2.2.2.symm, rfl, (eq0 hb).symm⟩⟩
theorem fst2 (a b : Int) : fstE [a, b] = cond (a == 0) (cond (b == 0) 0 b) a := rfl
theorem bits_first (s : ByteArray) : fstE [bif decide (1048576 < s.size) then (4 : Int) else 0, bif decide (bkN s < 0) then (22 : Int) else 0] = bkE s := by
  rw [fst2, bkN_neg]
  unfold bkE
  cases decide (1048576 < s.size) <;> cases noB s <;> rfl
theorem bitsH_v (s : ByteArray) (h : s.size ≤ 4294967296) : bitsH_t s := by
  unfold bitsH_t
  rw [bits_first]
  exact ⟨h, by simp, fun hb => ⟨(bkS_bad (nz hb)).2, rfl⟩, fun hb => ⟨h, (bkE_0 (eq0 hb)).2.2.1.symm, (eq0 hb).symm⟩⟩
theorem rightH_v (s : ByteArray) (l : Int) (h : s.size ≤ 4294967296) : rightH_t s l := by
  unfold rightH_t
  refine ⟨fun hb => (rgE_bad ?_).symm, fun hb => ⟨h, fun hn => (rgE_bad ?_).symm, fun hn => ⟨fun hl => (rgE_out (.inl (by simpa using hl))).symm, fun hl => ⟨h, ?_⟩⟩⟩⟩
  · rw [← (bk_long (by simpa using hb)).2]; decide
  · rw [bkN_neg] at hn
    rw [← (bk_no hn (by simpa using hb)).2]; decide
  · rw [bkN_neg] at hn
    have h0 := (bk_yes hn (by simpa using hb)).2
    simp only [decide_eq_false_iff_not] at hl
    cases hg : decide (l > bkN s)
    · simp only [gt_iff_lt, decide_eq_false_iff_not] at hg
      exact (rgE_ok h0.symm (by omega) (by omega)).symm
    · exact (rgE_out (.inr (by simpa using hg))).symm
theorem readH_v (s : ByteArray) (h : s.size ≤ 4294967296) : readH_t s := rreadH_v s h
theorem peek_first (s : ByteArray) (l n : Int) : (decide (n < 0) = true → fstE [rgE s l, 2] = pkE s l n) ∧ (decide (n < 0) = false → fstE [rgE s l, bif decide (n > 32) then (2 : Int) else 0] = pkE s l n) := by
  rw [fst2, fst2]
  unfold pkE
  have e : decide (n > 32) = decide (32 < n) := rfl
  rw [e]
  refine ⟨fun h => ?_, fun h => ?_⟩
  · rw [h]; cases rgE s l == 0 <;> rfl
  · rw [h]; cases rgE s l == 0 <;> cases decide (32 < n) <;> rfl
theorem peekH_v (s : ByteArray) (l n : Int) (h : s.size ≤ 4294967296) : peekH_t s l n := by
  unfold peekH_t
  obtain ⟨p1, p2⟩ := peek_first s l n
  have good : pkE s l n = 0 → (0 : Int) ≤ n ∧ n ≤ (32 : Int) ∧ (0 : Int) ≤ l ∧ l ≤ (8 : Int) * (s.size : Int) ∧ s.size ≤ (4294967296 : Nat) ∧ pkF s l (Int.toNat n) = pkV s l n ∧ (0 : Int) = pkE s l n := fun h0 => by
    have hk := pk_ok0 h0
    have := hk.l1
    have := hk.l2
    exact ⟨hk.n0, hk.n1, hk.l0, by omega, h, (pkV_ok h0).symm, h0.symm⟩
  refine ⟨h, fun hn => ?_, fun hn => ?_⟩
  · rw [p1 hn]
    exact ⟨by simp, fun hb => ⟨pkV_bad (nz hb), rfl⟩, fun hb => good (eq0 hb)⟩
  · rw [p2 hn]
    exact ⟨by simp, fun hb => ⟨pkV_bad (nz hb), rfl⟩, fun hb => good (eq0 hb)⟩
theorem take_first (s : ByteArray) (l n : Int) : fstE [pkE s l n, bif decide (n > l) then (5 : Int) else 0] = tkE s l n := by
  rw [fst2]
  unfold tkE
  have e : decide (n > l) = decide (l < n) := rfl
  rw [e]
  cases pkE s l n == 0 <;> cases decide (l < n) <;> rfl
theorem takeH_v (s : ByteArray) (l n : Int) (h : s.size ≤ 4294967296) : takeH_t s l n := by
  unfold takeH_t
  rw [take_first]
  refine ⟨h, by simp, fun hb => ⟨(tk_none (nz hb)).1, (tk_none (nz hb)).2.1, (tk_none (nz hb)).2.2.1, rfl⟩, fun hb => ?_⟩
  have h0 := eq0 hb
  have hk := pk_ok0 (tk_0 h0).1
  have h1 := hk.l1; have h2 := hk.l2; have h3 := hk.n0; have h4 := hk.n1; have h5 := hk.l0
  have hv := tk_vals h0
  exact ⟨hv.1, by rw [wr (by omega) (by omega)]; exact hv.2.1, by rw [pkV_ok (tk_0 h0).1]; exact hv.2.2.1, h0.symm⟩
theorem GBa_ok : AllOk Try.prog GBa := .cons whenF_sound <| .cons fstF_sound <| .cons opnF_sound <| .cons wputF_sound <| .cons longH_sound <| .cons len8H_sound <| .cons bitH_sound <| AllOk.nil
theorem chkF_sound : Sound Try.prog 78 sChkW.ctr := sChkW.sound (by kernel_rfl) sChkW_enc fun ⟨s, p, n⟩ hc => by
  have h0 := hc _ (.head _)
  have h1 := hc _ (.tail _ (.head _))
  have h2 := hc _ (.tail _ (.tail _ (.head _)))
  have h3 := hc _ (.tail _ (.tail _ (.tail _ (.head _))))
  have h4 := hc _ (.tail _ (.tail _ (.tail _ (.tail _ (.head _)))))
  exact satG GBa_ok mixed Try.func78 (chkF_e s p n) (chkF_v s p n h0 h1 h2 h3 h4)
theorem sizeH_sound : Sound Try.prog 85 sSizeT.ctr := sSizeT.sound (by kernel_rfl) sSizeT_enc fun s hc => by
  have h0 := hc _ (.head _)
  exact satG GBa_ok mixed Try.func85 (sizeH_e s) (sizeH_v s h0)
theorem numH_sound : Sound Try.prog 90 sNumT.ctr := sNumT.sound (by kernel_rfl) sNumT_enc fun ⟨s, l, n⟩ hc => by
  have h0 := hc _ (.head _)
  have h1 := hc _ (.tail _ (.head _))
  have h2 := hc _ (.tail _ (.tail _ (.head _)))
  have h3 := hc _ (.tail _ (.tail _ (.tail _ (.head _))))
  have h4 := hc _ (.tail _ (.tail _ (.tail _ (.tail _ (.head _)))))
  exact satG GBa_ok mixed Try.func90 (numH_e s l n) (numH_v s l n h0 h1 h2 h3 h4)
theorem GBb_ok : AllOk Try.prog GBb := .cons chkF_sound <| .cons sizeH_sound <| .cons numH_sound <| GBa_ok
theorem pwF_sound : Sound Try.prog 56 sPutW.ctr := sPutW.sound (by kernel_rfl) sPutW_enc fun ⟨s, p, n, k, v⟩ hc => by
  have h0 := hc _ (.head _)
  have h1 := hc _ (.tail _ (.head _))
  have h2 := hc _ (.tail _ (.tail _ (.head _)))
  have h3 := hc _ (.tail _ (.tail _ (.tail _ (.head _))))
  have h4 := hc _ (.tail _ (.tail _ (.tail _ (.tail _ (.head _)))))
  have h5 := hc _ (.tail _ (.tail _ (.tail _ (.tail _ (.tail _ (.head _))))))
  have h6 := hc _ (.tail _ (.tail _ (.tail _ (.tail _ (.tail _ (.tail _ (.head _)))))))
  have h7 := hc _ (.tail _ (.tail _ (.tail _ (.tail _ (.tail _ (.tail _ (.tail _ (.head _))))))))
  have h8 := hc _ (.tail _ (.tail _ (.tail _ (.tail _ (.tail _ (.tail _ (.tail _ (.tail _ (.head _)))))))))
  exact satG GBb_ok mixed Try.func56 (pwF_e s p n k v) (pwF_v s p n k v ⟨h0, h1, h2, h3, h4, h5, h6, h7⟩ h8)
theorem dnF_sound : Sound Try.prog 57 sDoneW.ctr := sDoneW.sound (by kernel_rfl) sDoneW_enc fun ⟨s, p, n⟩ hc => by
  have h0 := hc _ (.head _)
  have h1 := hc _ (.tail _ (.head _))
  have h2 := hc _ (.tail _ (.tail _ (.head _)))
  have h3 := hc _ (.tail _ (.tail _ (.tail _ (.head _))))
  have h4 := hc _ (.tail _ (.tail _ (.tail _ (.tail _ (.head _)))))
  exact satG GBb_ok mixed Try.func57 (dnF_e s p n) (dnF_v s p n h0 h1 h2 h3 h4)
theorem bitsH_sound : Sound Try.prog 65 sBits.ctr := sBits.sound (by kernel_rfl) sBits_enc fun s hc => by
  have h0 := hc _ (.head _)
  exact satG GBb_ok mixed Try.func65 (bitsH_e s) (bitsH_v s h0)
theorem rightH_sound : Sound Try.prog 89 sRight.ctr := sRight.sound (by kernel_rfl) sRight_enc fun ⟨s, l⟩ hc => by
  have h0 := hc _ (.head _)
  exact satG GBb_ok mixed Try.func89 (rightH_e s l) (rightH_v s l h0)
theorem GBc_ok : AllOk Try.prog GBc := .cons pwF_sound <| .cons dnF_sound <| .cons bitsH_sound <| .cons rightH_sound <| GBb_ok
theorem readH_sound : Sound Try.prog 47 sReadB.ctr := sReadB.sound (by kernel_rfl) sReadB_enc fun s hc => by
  have h0 := hc _ (.head _)
  exact satG GBc_ok mixed Try.func47 (readH_e s) (readH_v s h0)
theorem peekH_sound : Sound Try.prog 67 sPeek.ctr := sPeek.sound (by kernel_rfl) sPeek_enc fun ⟨s, l, n⟩ hc => by
  have h0 := hc _ (.head _)
  exact satG GBc_ok mixed Try.func67 (peekH_e s l n) (peekH_v s l n h0)
theorem GBd_ok : AllOk Try.prog GBd := .cons readH_sound <| .cons peekH_sound <| GBc_ok
theorem takeH_sound : Sound Try.prog 49 sTake.ctr := sTake.sound (by kernel_rfl) sTake_enc fun ⟨s, l, n⟩ hc => by
  have h0 := hc _ (.head _)
  exact satG GBd_ok mixed Try.func49 (takeH_e s l n) (takeH_v s l n h0)
theorem GBe_ok : AllOk Try.prog GBe := .cons takeH_sound <| GBd_ok
end Go.Proofs.Ytmdbliacaeokaaa
namespace Go.Proofs.Ytmdbliacaeokaaa
open Go Go.RowKit
set_option linter.unusedVariables false
set_option linter.unusedSimpArgs false
set_option maxRecDepth 100000
theorem hiI_pos {n : Int} (h : 0 < n) : hiI n = (Nat.log2 n.toNat : Nat) := by
  unfold hiI
  rw [decide_eq_false (by omega)]
  rfl
theorem hi_bd {y : Int} (h : 1 ≤ y) : 0 ≤ hiI y ∧ 2 ^ (hiI y).toNat ≤ y ∧ y < 2 ^ ((hiI y).toNat + 1) := by
  rw [hiI_pos (by omega), toNat_cast]
  obtain ⟨n, rfl⟩ := Int.eq_ofNat_of_zero_le (show 0 ≤ y by omega)
  rw [toNat_cast]
  have h1 := Nat.log2_self_le (n := n) (by omega)
  have h2 := Nat.lt_log2_self (n := n)
  refine ⟨by omega, ?_, ?_⟩
  · exact_mod_cast h1
  · exact_mod_cast h2
theorem pow_lt_of {a b : Nat} (h : (2 : Int) ^ a < 2 ^ b) : a < b := by
  rcases Nat.lt_or_ge a b with h1 | h1
  · exact h1
  · have := pow_mono h1; omega
theorem tk_iff {s : ByteArray} {l n : Int} (hb : bkE s = 0) (h0 : 0 ≤ l) (h1 : l ≤ bkN s) (n0 : 0 ≤ n) (n1 : n ≤ 32) : (n ≤ l → tkE s l n = 0) ∧ (l < n → tkE s l n = 5) := by
  have hp := pk_ok (rgE_ok hb h0 h1) n0 n1
  exact ⟨tk_good hp, tk_short hp⟩
def dgL : List Int → Int
  | [] => 0
  | x :: r => x + 256 * dgL r
def dgS (s : ByteArray) : Int := dgL (bytesN s)
def byteR (l : List Int) : Prop := ∀ x ∈ l, 0 ≤ x ∧ x < 256
theorem dgL_app : ∀ a b : List Int, dgL (a ++ b) = dgL a + 256 ^ a.length * dgL b
  | [], b => by show dgL b = 0 + 256 ^ 0 * dgL b; rw [Int.pow_zero]; omega
  | x :: a, b => by
    show x + 256 * dgL (a ++ b) = x + 256 * dgL a + 256 ^ (a.length + 1) * dgL b
    rw [dgL_app a b, Int.pow_succ, Int.mul_add, Int.mul_comm (256 ^ a.length) 256, Int.mul_assoc]
    omega
theorem dgL_rng : ∀ a : List Int, byteR a → 0 ≤ dgL a ∧ dgL a < 256 ^ a.length
  | [], _ => by show (0 : Int) ≤ 0 ∧ (0 : Int) < 256 ^ 0; decide
  | x :: a, h => by
    have ih := dgL_rng a fun y hy => h y (List.mem_cons_of_mem _ hy)
    have hx := h x (by simp)
    show 0 ≤ x + 256 * dgL a ∧ x + 256 * dgL a < 256 ^ (a.length + 1)
    rw [Int.pow_succ]
    omega
theorem emod_mul' (X : Int) {a b : Int} (ha : 0 < a) (hb : 0 < b) : X % (a * b) = X % a + a * (X / a % b) := by
  have e1 := Int.emod_add_mul_ediv X a
  have e2 := Int.emod_add_mul_ediv (X / a) b
  have h1 := Int.emod_nonneg X (show a ≠ 0 by omega)
  have h2 := Int.emod_lt_of_pos X ha
  have h3 := Int.emod_nonneg (X / a) (show b ≠ 0 by omega)
  have h4 := Int.emod_lt_of_pos (X / a) hb
  have m1 : 0 ≤ a * (X / a % b) := Int.mul_nonneg (by omega) h3
  have m2 : a * (X / a % b) ≤ a * (b - 1) := Int.mul_le_mul_of_nonneg_left (by omega) (by omega)
  rw [Int.mul_sub, Int.mul_one] at m2
  have e3 : X = X % a + a * (X / a % b) + a * b * (X / a / b) := by
    rw [Int.mul_assoc, Int.add_assoc, ← Int.mul_add, e2, e1]
  conv => lhs; rw [e3]
  rw [Int.add_mul_emod_self_left, Int.emod_eq_of_lt (by omega) (by omega)]
theorem dgL_low : ∀ (m : Nat) (x : Int), dgL (lowB m x) = x % 256 ^ m
  | 0, x => by show (0 : Int) = x % 256 ^ 0; rw [Int.pow_zero, Int.emod_one]
  | m + 1, x => by
    have hp : (0 : Int) < 256 ^ m := by rw [pow256]; exact pow_pos' _
    show x % 256 + 256 * dgL (lowB m (x / 256)) = x % 256 ^ (m + 1)
    rw [dgL_low m, Int.pow_succ, Int.mul_comm (256 ^ m) 256, emod_mul' x (by decide) hp]
theorem bytesN_app (a b : ByteArray) : bytesN (a ++ b) = bytesN a ++ bytesN b := by
  unfold bytesN
  rw [ByteArray.data_append, Array.toList_append, List.map_append]
theorem bytesN_str {xs : List Int} (h : byteR xs) : bytesN (strOfNums xs) = xs := by
  unfold bytesN
  rw [str_data]
  show List.map _ (List.map _ xs) = xs
  rw [List.map_map]
  conv => rhs; rw [← List.map_id xs]
  refine List.map_congr_left fun x hx => ?_
  have := h x hx
  show ((UInt8.ofNat x.toNat).toNat : Int) = x
  have e : (UInt8.ofNat x.toNat).toNat = x.toNat % 256 := UInt8.toNat_ofNat'
  rw [e]
  omega
theorem bytesN_rng (s : ByteArray) : byteR (bytesN s) := by
  intro x hx
  unfold bytesN at hx
  obtain ⟨b, _, rfl⟩ := List.mem_map.1 hx
  have := b.toNat_lt
  omega
theorem lowB_rng : ∀ (m : Nat) (x : Int), byteR (lowB m x)
  | 0, x => fun y hy => by cases hy
  | m + 1, x => fun y hy => by
    change y ∈ x % 256 :: lowB m (x / 256) at hy
    rcases List.mem_cons.1 hy with rfl | hy
    · omega
    · exact lowB_rng m _ y hy
theorem dgS_app (s t : ByteArray) : dgS (s ++ t) = dgS s + 2 ^ (8 * s.size) * dgS t := by
  unfold dgS
  rw [bytesN_app, dgL_app, bytes_len, pow256]
theorem dgS_rng (s : ByteArray) : 0 ≤ dgS s ∧ dgS s < 2 ^ (8 * s.size) := by
  have := dgL_rng _ (bytesN_rng s)
  rw [bytes_len, pow256] at this
  exact this
theorem dgS_str {xs : List Int} (h : byteR xs) : dgS (strOfNums xs) = dgL xs := by unfold dgS; rw [bytesN_str h]
theorem dig : ∀ (l : List Int), byteR l → ∀ i, i < l.length → dgL l / 256 ^ i % 256 = l.getD i 0
  | [], _, i, h => by simp at h
  | x :: r, hb, 0, h => by
    have hx := hb x (by simp)
    show (x + 256 * dgL r) / 256 ^ 0 % 256 = x
    rw [Int.pow_zero, Int.ediv_one]
    omega
  | x :: r, hb, i + 1, h => by
    have hx := hb x (by simp)
    have ih := dig r (fun y hy => hb y (List.mem_cons_of_mem _ hy)) i (by simpa using h)
    show (x + 256 * dgL r) / 256 ^ (i + 1) % 256 = r.getD i 0
    rw [← ih, Int.pow_succ, Int.mul_comm (256 ^ i) 256, ← Int.ediv_ediv_of_nonneg (by decide)]
    congr 2
    omega
theorem byI_dig {s : ByteArray} {i : Nat} (h : i < s.size) : byI s i = dgS s / 256 ^ i % 256 := by
  unfold dgS
  rw [dig _ (bytesN_rng s) i (by rw [bytes_len]; exact h)]
  unfold byI bytesN
  have hl : i < s.data.toList.length := h
  rw [List.getD_eq_getElem?_getD, List.getD_eq_getElem?_getD, List.getElem?_map, List.getElem?_eq_getElem hl]
  rfl
theorem bit_of_byte (Y : Int) (r : Nat) (h : r < 8) : Y % 256 / 2 ^ r % 2 = Y / 2 ^ r % 2 := by
  have : r = 0 ∨ r = 1 ∨ r = 2 ∨ r = 3 ∨ r = 4 ∨ r = 5 ∨ r = 6 ∨ r = 7 := by omega
  rcases this with rfl | rfl | rfl | rfl | rfl | rfl | rfl | rfl
  · rw [show (2 : Int) ^ 0 = 1 from rfl]; omega
  · rw [show (2 : Int) ^ 1 = 2 from rfl]; omega
  · rw [show (2 : Int) ^ 2 = 4 from rfl]; omega
  · rw [show (2 : Int) ^ 3 = 8 from rfl]; omega
  · rw [show (2 : Int) ^ 4 = 16 from rfl]; omega
  · rw [show (2 : Int) ^ 5 = 32 from rfl]; omega
  · rw [show (2 : Int) ^ 6 = 64 from rfl]; omega
  · rw [show (2 : Int) ^ 7 = 128 from rfl]; omega
theorem bkBit_le {s : ByteArray} {k : Nat} (h : k < 8 * s.size) : bkBit s (k : Int) = dgS s / 2 ^ k % 2 := by
  unfold bkBit
  rw [decide_eq_false (by omega)]
  simp only [cond_false]
  rw [show ((k : Int) / 8).toNat = k / 8 by omega, show ((k : Int) % 8).toNat = k % 8 by omega, byI_dig (by omega), bit_of_byte _ _ (by omega), pow256, Int.ediv_ediv_of_nonneg (Int.le_of_lt (pow_pos' _)), ← Int.pow_add, show 8 * (k / 8) + k % 8 = k by omega]
def valW (s : ByteArray) (p : Int) : Int := dgS s + p * 2 ^ (8 * s.size)
def lenW (s : ByteArray) (n : Int) : Nat := 8 * s.size + n.toNat
theorem put_val {s : ByteArray} {p n k v : Int} (h : PutN p n k v) : valW (wS s p n k v) (wP p n k v) = valW s p + v * 2 ^ lenW s n ∧ lenW (wS s p n k v) (wN n k) = lenW s n + k.toNat := by
  obtain ⟨x0, x1, x2⟩ := h.X
  obtain ⟨e, r0, r1⟩ := wM_eq h.n0 h.k0
  have n0 := h.n0
  have k0 := h.k0
  refine ⟨?_, by unfold lenW; rw [wS_size]; omega⟩
  unfold valW
  rw [wS_size]
  unfold wS wP
  rw [dgS_app, dgS_str (lowB_rng _ _), dgL_low]
  have e1 := Int.emod_add_mul_ediv (wX p n v) (256 ^ wM n k)
  have e2 : (2 : Int) ^ (8 * (s.size + wM n k)) = 2 ^ (8 * s.size) * 256 ^ wM n k := by rw [pow256, ← Int.pow_add]; congr 1; omega
  have e3 : wX p n v / 256 ^ wM n k * (2 ^ (8 * s.size) * 256 ^ wM n k) = 2 ^ (8 * s.size) * (256 ^ wM n k * (wX p n v / 256 ^ wM n k)) := by
    rw [Int.mul_comm, Int.mul_assoc]
  rw [e2, e3, Int.add_assoc, ← Int.mul_add, e1]
  unfold wX lenW
  rw [Int.mul_add, Int.mul_comm _ p, Int.mul_comm _ (v * 2 ^ n.toNat), Int.mul_assoc, ← Int.pow_add, Nat.add_comm n.toNat, Int.add_assoc]
theorem hi_eq {x : Int} {n : Nat} (h0 : 2 ^ n ≤ x) (h1 : x < 2 ^ (n + 1)) : hiI x = n := by
  have hp := pow_pos' n
  obtain ⟨k0, k1, k2⟩ := hi_bd (show 1 ≤ x by omega)
  have a := pow_lt_of (a := n) (b := (hiI x).toNat + 1) (by omega)
  have b := pow_lt_of (a := (hiI x).toNat) (b := n + 1) (by omega)
  omega
structure DoneV (s : ByteArray) (p n : Int) : Prop where
  nb : noB (dS s p n) = false
  bn : bkN (dS s p n) = (lenW s n : Nat)
  le : dgS (dS s p n) = valW s p + 2 ^ lenW s n
  sz : (dS s p n).size = s.size + 1
theorem done_val {s : ByteArray} {p n : Int} (n0 : 0 ≤ n) (n7 : n ≤ 7) (p0 : 0 ≤ p) (p1 : p < 2 ^ n.toNat) : DoneV s p n := by
  have h7 := nn7 n0 n7
  have hp := pow_pos' n.toNat
  have hb : byteR [p + 2 ^ n.toNat] := fun x hx => by
    rw [List.mem_singleton.1 hx]
    omega
  have hsz : (dS s p n).size = s.size + 1 := by
    unfold dS
    rw [app_size, strOfNums_size]
    rfl
  have hlast : lastB (dS s p n) = p + 2 ^ n.toNat := by
    have e := byI_dig (s := dS s p n) (i := s.size) (by omega)
    have e2 : dgS (dS s p n) = dgS s + 2 ^ (8 * s.size) * (p + 2 ^ n.toNat) := by
      unfold dS
      rw [dgS_app, dgS_str hb]
      show _ = dgS s + 2 ^ (8 * s.size) * (p + 2 ^ n.toNat)
      show dgS s + 2 ^ (8 * s.size) * (p + 2 ^ n.toNat + 256 * 0) = _
      rw [Int.mul_zero, Int.add_zero]
    have hs := dgS_rng s
    have hpp := pow_pos' (8 * s.size)
    rw [e2, pow256, Int.add_mul_ediv_left _ _ (by omega), Int.ediv_eq_zero_of_lt hs.1 hs.2, Int.zero_add, Int.emod_eq_of_lt (by omega) (by omega)] at e
    unfold lastB
    rw [hsz, Nat.add_sub_cancel]
    exact e
  have hnb : noB (dS s p n) = false := by
    unfold noB
    rw [hlast, hsz]
    have h1 : Nat.beq (s.size + 1) 0 = false := rfl
    have h2 : (p + 2 ^ n.toNat == 0) = false := beq_eq_false_iff_ne.2 (by omega)
    rw [h1, h2]
    rfl
  refine ⟨hnb, ?_, ?_, hsz⟩
  · unfold bkN
    rw [hnb, hlast, hsz, hi_eq (n := n.toNat) (by omega) (by rw [Int.pow_succ]; omega)]
    unfold lenW
    simp only [cond_false]
    omega
  · unfold dS valW lenW
    rw [dgS_app, dgS_str hb]
    show dgS s + 2 ^ (8 * s.size) * (p + 2 ^ n.toNat + 256 * 0) = _
    rw [Int.mul_zero, Int.add_zero, Int.mul_add, Int.pow_add, Int.mul_comm _ p]
    omega
end Go.Proofs.Ytmdbliacaeokaaa
namespace Go.Proofs.Ytmdbliacaeokaaa
open Go Go.RowKit
set_option linter.unusedVariables false
set_option linter.unusedSimpArgs false
set_option maxRecDepth 100000
def codd (l : List Int) (x : Int) : Prop := 0 ≤ x ∧ x < l.length ∧ 0 < l.getD x.toNat 0
def lLn (l : List Int) : List Int → Nat
  | [] => 0
  | x :: r => (hB l x.toNat).toNat + lLn l r
def vLn (l : List Int) : List Int → Int
  | [] => 0
  | x :: r => hV l x.toNat * 2 ^ lLn l r + vLn l r
theorem codd_bd {l : List Int} (hg : Good l) {x : Int} (h : codd l x) : CodB l x.toNat := by
  obtain ⟨h0, h1, h2⟩ := h
  obtain ⟨i, hc⟩ := cod_has (l := l) (k := x.toNat) (by omega) h2
  exact cod_bd hg hc
theorem vLn_rng {l : List Int} (hg : Good l) : ∀ r, (∀ x ∈ r, codd l x) → 0 ≤ vLn l r ∧ vLn l r < 2 ^ lLn l r ∧ r.length ≤ lLn l r ∧ lLn l r ≤ 11 * r.length
  | [], _ => by
    show (0 : Int) ≤ 0 ∧ (0 : Int) < 2 ^ 0 ∧ 0 ≤ 0 ∧ 0 ≤ _
    refine ⟨by omega, by decide, by omega, by omega⟩
  | x :: r, h => by
    obtain ⟨i0, i1, i2, i3⟩ := vLn_rng hg r fun y hy => h y (List.mem_cons_of_mem _ hy)
    obtain ⟨b0, b1, v0, v1⟩ := codd_bd hg (h x (by simp))
    have hp := pow_pos' (lLn l r)
    have m0 := Int.mul_nonneg v0 (Int.le_of_lt hp)
    have m1 := Int.mul_le_mul_of_nonneg_right (show hV l x.toNat + 1 ≤ 2 ^ (hB l x.toNat).toNat by omega) (Int.le_of_lt hp)
    rw [Int.add_mul, Int.one_mul, ← Int.pow_add] at m1
    simp only [vLn, lLn, List.length_cons]
    refine ⟨by omega, by omega, by omega, by omega⟩
structure HwOk (l : List Int) (s : ByteArray) (k : Nat) : Prop where
  n0 : 0 ≤ hwN l s k
  n7 : hwN l s k ≤ 7
  p0 : 0 ≤ hwP l s k
  p1 : hwP l s k < 2 ^ (hwN l s k).toNat
  sz : (hwS l s k).size ≤ 2 * k
def txOk (l : List Int) (s : ByteArray) : Prop := ∀ x ∈ bytesN s, codd l x
theorem byK_mem {s : ByteArray} {k : Nat} (h : k < s.size) : byK s k ∈ bytesN s := by
  have hl := bytes_len s
  exact getD_mem' (by unfold nthI; omega)
theorem hw_ok {l : List Int} {s : ByteArray} (hg : Good l) (ht : txOk l s) : ∀ k, k ≤ s.size → HwOk l s k
  | 0, _ => ⟨Int.le_refl 0, (by show (0 : Int) ≤ 7; decide), Int.le_refl 0, (by show (0 : Int) < 2 ^ (0 : Int).toNat; decide), Nat.zero_le _⟩
  | k + 1, hk => by
    have ih := hw_ok hg ht k (by omega)
    obtain ⟨b0, b1, v0, v1⟩ := codd_bd hg (ht _ (byK_mem (s := s) (k := k) (by omega)))
    have hp : PutN (hwP l s k) (hwN l s k) (hB l (byK s k).toNat) (hV l (byK s k).toNat) := ⟨ih.n0, ih.n7, ih.p0, ih.p1, by omega, by omega, v0, v1⟩
    obtain ⟨e, r0, r1⟩ := wM_eq (n := hwN l s k) (k := hB l (byK s k).toNat) ih.n0 (by omega)
    have hP := hp.P
    have i7 := ih.n7
    have isz := ih.sz
    refine ⟨r0, r1, hP.1, hP.2, ?_⟩
    show (wS (hwS l s k) (hwP l s k) (hwN l s k) (hB l (byK s k).toNat) (hV l (byK s k).toNat)).size ≤ _
    rw [wS_size]
    omega
theorem hw_put {l : List Int} {s : ByteArray} (hg : Good l) (ht : txOk l s) {k : Nat} (hk : k < s.size) : PutN (hwP l s k) (hwN l s k) (hB l (byK s k).toNat) (hV l (byK s k).toNat) := by
  have ih := hw_ok hg ht k (by omega)
  obtain ⟨b0, b1, v0, v1⟩ := codd_bd hg (ht _ (byK_mem (s := s) (k := k) (by omega)))
  exact ⟨ih.n0, ih.n7, ih.p0, ih.p1, by omega, by omega, v0, v1⟩
theorem drop_byK {s : ByteArray} {k : Nat} (h : k < s.size) : (bytesN s).drop (s.size - (k + 1)) = byK s k :: (bytesN s).drop (s.size - k) := by
  have hl := bytes_len s
  rw [List.drop_eq_getElem_cons (by omega), show s.size - (k + 1) + 1 = s.size - k by omega]
  congr 1
  unfold byK nthS nthI
  have e : (bytesN s).length - 1 - k = s.size - (k + 1) := by omega
  rw [e, List.getD_eq_getElem?_getD, List.getElem?_eq_getElem (by omega)]
  rfl
theorem hw_val {l : List Int} {s : ByteArray} (hg : Good l) (ht : txOk l s) : ∀ k, k ≤ s.size → valW (hwS l s k) (hwP l s k) = vLn l ((bytesN s).drop (s.size - k)) ∧ lenW (hwS l s k) (hwN l s k) = lLn l ((bytesN s).drop (s.size - k))
  | 0, _ => by
    have hl := bytes_len s
    rw [Nat.sub_zero, List.drop_eq_nil_of_le (by omega)]
    exact ⟨rfl, rfl⟩
  | k + 1, hk => by
    obtain ⟨i1, i2⟩ := hw_val hg ht k (by omega)
    obtain ⟨p1, p2⟩ := put_val (s := hwS l s k) (hw_put hg ht (show k < s.size by omega))
    rw [drop_byK (by omega)]
    refine ⟨?_, ?_⟩
    · show valW (wS (hwS l s k) (hwP l s k) (hwN l s k) (hB l (byK s k).toNat) (hV l (byK s k).toNat)) (wP (hwP l s k) (hwN l s k) (hB l (byK s k).toNat) (hV l (byK s k).toNat)) = hV l (byK s k).toNat * 2 ^ lLn l _ + vLn l _
      rw [p1, i1, i2, Int.add_comm]
    · show lenW (wS (hwS l s k) (hwP l s k) (hwN l s k) (hB l (byK s k).toNat) (hV l (byK s k).toNat)) (wN (hwN l s k) (hB l (byK s k).toNat)) = (hB l (byK s k).toNat).toNat + lLn l _
      rw [p2, i2, Nat.add_comm]
structure Wrt (l : List Int) (s : ByteArray) : Prop where
  nb : noB (wrH l s) = false
  bn : bkN (wrH l s) = (lLn l (bytesN s) : Nat)
  dg : dgS (wrH l s) = vLn l (bytesN s) + 2 ^ lLn l (bytesN s)
  sz : (wrH l s).size = lLn l (bytesN s) / 8 + 1
theorem wrt_ok {l : List Int} {s : ByteArray} (hg : Good l) (ht : txOk l s) : Wrt l s := by
  have ho := hw_ok hg ht s.size (Nat.le_refl _)
  obtain ⟨e1, e2⟩ := hw_val hg ht s.size (Nat.le_refl _)
  rw [Nat.sub_self, List.drop_zero] at e1 e2
  obtain ⟨d1, d2, d3, d4⟩ := done_val (s := hwS l s s.size) ho.n0 ho.n7 ho.p0 ho.p1
  have n0 := ho.n0
  have n7 := ho.n7
  refine ⟨d1, ?_, ?_, ?_⟩
  · rw [← e2]; exact d2
  · rw [← e1, ← e2]; exact d3
  · rw [← e2]
    show (dS _ _ _).size = _
    rw [d4]
    unfold lenW
    omega
theorem mod_bit (D : Int) (L : Nat) : D % 2 ^ (L + 1) = D % 2 ^ L + (D / 2 ^ L % 2) * 2 ^ L := by
  rw [Int.pow_succ, emod_mul' D (pow_pos' L) (by decide), Int.mul_comm]
theorem hrd_inv {l : List Int} (hg : Good l) {s : ByteArray} {n : Int} : ∀ (L : Nat) (b v : Int) (out res : List Int), L ≤ 8 * s.size → 0 ≤ b → (b = 0 ∧ v = 0 ∨ ¬ n ≤ out.length) → (out.length : Int) ≤ max n 0 → hrd l s n L b v out = some res →
    ∃ r, res = out ++ r ∧ (∀ x ∈ r, codd l x) ∧ lLn l r = L + b.toNat ∧ vLn l r = v * 2 ^ L + dgS s % 2 ^ L ∧ n ≤ res.length ∧ (res.length : Int) ≤ max n 0
  | 0, b, v, out, res, hL, hb, hs, hx, h => by
    simp only [hrd] at h
    by_cases hn : n ≤ out.length
    · rw [decide_eq_true hn, cond_true] at h
      cases h
      rcases hs with ⟨rfl, rfl⟩ | hs
      · refine ⟨[], by simp, (fun x hx => by cases hx), rfl, ?_, hn, hx⟩
        show (0 : Int) = 0 * 2 ^ 0 + dgS s % 2 ^ 0
        rw [Int.pow_zero, Int.emod_one]
        rfl
      · exact absurd hn hs
    · rw [decide_eq_false hn, cond_false] at h
      cases h
  | L + 1, b, v, out, res, hL, hb, hs, hx, h => by
    simp only [hrd] at h
    by_cases hn : n ≤ out.length
    · rw [decide_eq_true hn, cond_true] at h; cases h
    rw [decide_eq_false hn, cond_false] at h
    by_cases hb11 : 11 ≤ b
    · rw [decide_eq_true hb11, cond_true] at h; cases h
    rw [decide_eq_false hb11, cond_false] at h
    have hbit := bkBit_le (s := s) (k := L) (by omega)
    by_cases hf : fLc l (b + 1) (2 * v + bkBit s (L : Nat)) < 0
    · rw [decide_eq_true hf, cond_true] at h
      obtain ⟨r, r1, r2, r3, r4, r5, r6⟩ := hrd_inv hg L (b + 1) _ out res (by omega) (by omega) (.inr hn) hx h
      refine ⟨r, r1, r2, by omega, ?_, r5, r6⟩
      rw [r4, hbit, mod_bit, Int.pow_succ, Int.add_mul, Int.mul_comm 2 v, Int.mul_assoc, Int.mul_comm 2, Int.add_assoc, Int.add_comm (dgS s % 2 ^ L)]
    · rw [decide_eq_false hf, cond_false] at h
      obtain ⟨r, r1, r2, r3, r4, r5, r6⟩ := hrd_inv hg L 0 0 _ res (by omega) (by omega) (.inl ⟨rfl, rfl⟩) (by simp only [List.length_append, List.length_singleton]; omega) h
      have hr := fnd_rng l (b + 1) (2 * v + bkBit s (L : Nat)) l.length
      obtain ⟨f1, f2⟩ := fnd_is l (b + 1) (2 * v + bkBit s (L : Nat)) l.length (by show 0 ≤ fLc l _ _; omega)
      change hB l (fLc l (b + 1) (2 * v + bkBit s (L : Nat))).toNat = b + 1 at f1
      change hV l (fLc l (b + 1) (2 * v + bkBit s (L : Nat))).toNat = 2 * v + bkBit s (L : Nat) at f2
      change -1 ≤ fLc l (b + 1) (2 * v + bkBit s (L : Nat)) ∧ fLc l (b + 1) (2 * v + bkBit s (L : Nat)) < _ at hr
      have hk : (fLc l (b + 1) (2 * v + bkBit s (L : Nat))).toNat < l.length := by omega
      refine ⟨fLc l (b + 1) (2 * v + bkBit s (L : Nat)) :: r, by rw [r1]; simp, ?_, ?_, ?_, r5, r6⟩
      · intro x hx
        rcases List.mem_cons.1 hx with rfl | hx
        · exact ⟨by omega, by omega, (hB_0 hg hk).2.2.1 (by omega)⟩
        · exact r2 x hx
      · simp only [lLn]
        rw [f1, r3]
        omega
      · simp only [vLn]
        rw [f2, r3, r4, hbit, mod_bit, Int.pow_succ, Int.add_mul, Int.mul_comm 2 v, Int.mul_assoc v, Int.mul_comm 2]
        simp only [Int.toNat_zero, Nat.add_zero, Int.zero_mul, Int.zero_add]
        omega
theorem top_one {s : ByteArray} (h : noB s = false) : dgS s = 2 ^ (bkN s).toNat + dgS s % 2 ^ (bkN s).toNat ∧ s.size = (bkN s).toNat / 8 + 1 := by
  obtain ⟨h1, h2⟩ := noB_size h
  have hr := bkN_rng h
  have hl := lastB_rng s
  obtain ⟨k0, k1, k2⟩ := hi_bd (show 1 ≤ lastB s by omega)
  have hb : bkN s = 8 * ((s.size : Int) - 1) + hiI (lastB s) := by unfold bkN; rw [h]; rfl
  have hd := byI_dig (s := s) (i := s.size - 1) (by omega)
  have hrng := dgS_rng s
  have hlt : dgS s / 256 ^ (s.size - 1) < 256 := by
    refine Int.ediv_lt_of_lt_mul (by rw [pow256]; exact pow_pos' _) ?_
    rw [pow256, show (256 : Int) = 2 ^ 8 from rfl, ← Int.pow_add, show 8 + 8 * (s.size - 1) = 8 * s.size by omega]
    exact hrng.2
  have hge : 0 ≤ dgS s / 256 ^ (s.size - 1) := Int.ediv_nonneg hrng.1 (by rw [pow256]; exact Int.le_of_lt (pow_pos' _))
  have hlast : lastB s = dgS s / 256 ^ (s.size - 1) := by
    have : lastB s = byI s (s.size - 1) := rfl
    rw [this, hd, Int.emod_eq_of_lt hge hlt]
  refine ⟨?_, by omega⟩
  have e : dgS s / 2 ^ (bkN s).toNat = 1 := by
    rw [show (bkN s).toNat = 8 * (s.size - 1) + (hiI (lastB s)).toNat by omega, Int.pow_add, ← Int.ediv_ediv_of_nonneg (Int.le_of_lt (pow_pos' _)), ← pow256, ← hlast]
    have hp := pow_pos' (hiI (lastB s)).toNat
    rw [Int.pow_succ] at k2
    have a1 := (Int.le_ediv_iff_mul_le hp).2 (show 1 * 2 ^ (hiI (lastB s)).toNat ≤ lastB s by omega)
    have a2 := Int.ediv_lt_of_lt_mul hp (show lastB s < 2 * 2 ^ (hiI (lastB s)).toNat by omega)
    omega
  have := Int.emod_add_mul_ediv (dgS s) (2 ^ (bkN s).toNat)
  rw [e] at this
  omega
theorem dgS_inj {a b : ByteArray} (hs : a.size = b.size) (h : dgS a = dgS b) : a = b := by
  have ha := bytes_len a
  have hb := bytes_len b
  have : bytesN a = bytesN b := by
    refine List.ext_getElem (by omega) fun i h1 h2 => ?_
    have e1 := dig (bytesN a) (bytesN_rng a) i h1
    have e2 := dig (bytesN b) (bytesN_rng b) i h2
    have e : dgL (bytesN a) = dgL (bytesN b) := h
    rw [e, e2, List.getD_eq_getElem?_getD, List.getD_eq_getElem?_getD, List.getElem?_eq_getElem h1, List.getElem?_eq_getElem h2] at e1
    exact e1.symm
  rw [← str_bytes a, ← str_bytes b, this]
theorem rd_inj {l : List Int} (hg : Good l) {b : ByteArray} {n : Int} (hn : 0 ≤ n) {out : List Int} (h : rdX l b n = some out) :
    (∀ x ∈ out, codd l x) ∧ (out.length : Int) = n ∧ wrH l (strOfNums out) = b ∧ bytesN (strOfNums out) = out ∧ txOk l (strOfNums out) := by
  unfold rdX at h
  cases hE : bkE b == 0
  · rw [hE] at h; cases h
  rw [hE, cond_true] at h
  have hE' : bkE b = 0 := by simpa using hE
  obtain ⟨k1, k2, k3, k4⟩ := bkE_0 hE'
  have hr := bkN_rng k1
  obtain ⟨r, r1, r2, r3, r4, r5, r6⟩ := hrd_inv hg _ 0 0 [] out (by omega) (by omega) (.inl ⟨rfl, rfl⟩) (by simp only [List.length_nil]; omega) h
  simp only [List.nil_append] at r1
  subst r1
  have hB256 := hg.len
  have hby : byteR out := fun x hx => by
    obtain ⟨a, b, _⟩ := r2 x hx
    omega
  have hbs := bytesN_str hby
  have ht : txOk l (strOfNums out) := by unfold txOk; rw [hbs]; exact r2
  obtain ⟨w1, w2, w3, w4⟩ := wrt_ok hg ht
  rw [hbs] at w2 w3 w4
  obtain ⟨t1, t2⟩ := top_one k1
  simp only [Int.toNat_zero, Nat.add_zero, Int.zero_mul, Int.zero_add] at r3 r4
  refine ⟨r2, by omega, dgS_inj ?_ ?_, hbs, ht⟩
  · rw [w4, t2, r3]
  · rw [w3, r3, r4]
    omega
end Go.Proofs.Ytmdbliacaeokaaa
namespace Go.Proofs.Ytmdbliacaeokaaa
open Go Go.RowKit
set_option linter.unusedVariables false
set_option maxRecDepth 100000
def bd7_t (n : Int) : Prop :=
 (decide (n ≥ (0 : Int)) = true → decide (n ≤ (1099511627776 : Int)) = okCnt n) ∧ (decide (n ≥ (0 : Int)) = false → false = okCnt n)
theorem bd7_e (n : Int) : bd7_t n = vcG Try.prog (Gof []) (fun _ => none) Try.f109 [.v (.int .i64 n)] [] (.leaf ((.v (.bool (okCnt n)))) ([])) := by kernel_rfl
def bef7_t (c1 : Int) (f1 : Bool) (n1 : Int) (s1 : List Int) (c2 : Int) (f2 : Bool) (n2 : Int) (s2 : List Int) : Prop :=
 ((c1 != c2) = true → decide (c1 < c2) = befB c1 f1 n1 c2 f2 n2) ∧
 ((c1 != c2) = false → ((!f1 == f2) = true → f1 = befB c1 f1 n1 c2 f2 n2) ∧ ((!f1 == f2) = false → decide (n1 < n2) = befB c1 f1 n1 c2 f2 n2))
theorem bef7_e (c1 : Int) (f1 : Bool) (n1 : Int) (s1 : List Int) (c2 : Int) (f2 : Bool) (n2 : Int) (s2 : List Int) : bef7_t c1 f1 n1 s1 c2 f2 n2 s2 = vcG Try.prog (Gof []) (fun _ => none) Try.f94 [.ag [.v (.int .i64 c1), .v (.bool f1), .v (.int .i64 n1), .dat (.ints .i64 s1)], .ag [.v (.int .i64 c2), .v (.bool f2), .v (.int .i64 n2), .dat (.ints .i64 s2)]] [] (.leaf ((.v (.bool (befB c1 f1 n1 c2 f2 n2)))) ([])) := by kernel_rfl
def nz7_t (l : List Int) : Prop :=
 (∃ (x0 : Nat), Nat.le x0 (List.length l) ∧ l = l ∧ (0 : Int) = nzL (List.take x0 l) ∧ (0 : Int) = (↑x0 : Int)) ∧
 ∀ (x1 : Nat),
 Nat.le x1 (List.length l) →
 (decide ((↑x1 : Int) < (↑(List.length l) : Int)) = true →
 (0 : Int) ≤ (↑x1 : Int) ∧
 (↑x1 : Int) < (↑(List.length l) : Int) ∧
 ((List.getD l (Int.toNat (↑x1 : Int)) (0 : Int) != (0 : Int)) = true →
 ∃ (y2 : Nat),
 Nat.le y2 (List.length l) ∧
 Nat.sub (List.length l) y2 < Nat.sub (List.length l) x1 ∧
 l = l ∧ IntKind.wrap IntKind.i64 (nzL (List.take x1 l) + (1 : Int)) = nzL (List.take y2 l) ∧ IntKind.wrap IntKind.i64 ((↑x1 : Int) + (1 : Int)) = (↑y2 : Int)) ∧
 ((List.getD l (Int.toNat (↑x1 : Int)) (0 : Int) != (0 : Int)) = false →
 ∃ (y3 : Nat),
 Nat.le y3 (List.length l) ∧
 Nat.sub (List.length l) y3 < Nat.sub (List.length l) x1 ∧
 l = l ∧ nzL (List.take x1 l) = nzL (List.take y3 l) ∧ IntKind.wrap IntKind.i64 ((↑x1 : Int) + (1 : Int)) = (↑y3 : Int))) ∧
 (decide ((↑x1 : Int) < (↑(List.length l) : Int)) = false → nzL (List.take x1 l) = nzL l)
theorem nz7_e (l : List Int) : nz7_t l = vcG Try.prog (Gof []) (one6 (oNz l)) Try.f71 [.dat (.ints .i64 l)] [] (.leaf ((.v (.int .i64 (nzL l)))) ([])) := by kernel_rfl
def md7_t (x m : Int) : Prop :=
 (decide (m < (1 : Int)) = true → (0 : Int) = md x m) ∧
 (decide (m < (1 : Int)) = false →
 m ≠ (0 : Int) ∧ (decide (Int.tmod x m < (0 : Int)) = true → IntKind.wrap IntKind.i64 (Int.tmod x m + m) = md x m) ∧ (decide (Int.tmod x m < (0 : Int)) = false → Int.tmod x m = md x m))
theorem md7_e (x m : Int) : md7_t x m = vcG Try.prog (Gof []) (fun _ => none) Try.f28 [.v (.int .i64 x), .v (.int .i64 m)] [] (.leaf ((.v (.int .i64 (md x m)))) ([])) := by kernel_rfl
def at7_t (l : List Int) (i : Int) : Prop :=
 (decide (i < (0 : Int)) = true → (0 : Int) = atL l i) ∧
 (decide (i < (0 : Int)) = false →
 (decide (i ≥ (↑(List.length l) : Int)) = true → (0 : Int) = atL l i) ∧
 (decide (i ≥ (↑(List.length l) : Int)) = false → (0 : Int) ≤ i ∧ i < (↑(List.length l) : Int) ∧ List.getD l (Int.toNat i) (0 : Int) = atL l i))
theorem at7_e (l : List Int) (i : Int) : at7_t l i = vcG Try.prog (Gof []) (fun _ => none) Try.f44 [.dat (.ints .i64 l), .v (.int .i64 i)] [] (.leaf ((.v (.int .i64 (atL l i)))) ([])) := by kernel_rfl
def plus7_t (a b : Int) : Prop :=
 ((!okCnt a) = true → (0 : Int) = a + b ∧ (2 : Int) = (0 : Int)) ∧
 ((!okCnt a) = false →
 ((!okCnt b) = true → (0 : Int) = a + b ∧ (2 : Int) = (0 : Int)) ∧
 ((!okCnt b) = false →
 ((!okCnt (IntKind.wrap IntKind.i64 (a + b))) = true → (0 : Int) = a + b ∧ (2 : Int) = (0 : Int)) ∧
 ((!okCnt (IntKind.wrap IntKind.i64 (a + b))) = false → IntKind.wrap IntKind.i64 (a + b) = a + b ∧ (0 : Int) = (0 : Int))))
theorem plus7_e (a b : Int) : plus7_t a b = vcG Try.prog (Gof G7a) (fun _ => none) Try.f105 [.v (.int .i64 a), .v (.int .i64 b)] [] (.leaf ((.tu [.v (.int .i64 (a + b)), .v (.int .i64 0)])) ([])) := by kernel_rfl
def first7_t (xs : List Nd) : Prop :=
 (∃ (x0 : Nat),
 ((1 : Nat) ≤ x0 ∧ x0 ≤ List.length xs) ∧
 (0 : Int) = (↑(bestI xs x0) : Int) ∧
 (1 : Int) = (↑x0 : Int) ∧ xs = xs ∧ (0 : Int) = (0 : Int) ∧ false = false ∧ (0 : Int) = (0 : Int) ∧ Value.slice none (0 : Nat) (0 : Nat) = Value.slice none (0 : Nat) (0 : Nat)) ∧
 ∀ (x1 : Nat),
 (1 : Nat) ≤ x1 ∧ x1 ≤ List.length xs →
 (decide ((↑x1 : Int) < (↑(List.length xs) : Int)) = true →
 (0 : Int) ≤ (↑x1 : Int) ∧
 (↑x1 : Int) < (↑(List.length xs) : Int) ∧
 Int.toNat (↑x1 : Int) < List.length xs ∧
 (0 : Int) ≤ (↑(bestI xs x1) : Int) ∧
 (↑(bestI xs x1) : Int) < (↑(List.length xs) : Int) ∧
 Int.toNat (↑(bestI xs x1) : Int) < List.length xs ∧
 (befB (List.getD (List.getD (List.getD xs (Int.toNat (↑x1 : Int)) []) ((0 : Nat)) []) (0 : Nat) (0 : Int))
 (List.getD (List.getD (List.getD xs (Int.toNat (↑x1 : Int)) []) ((1 : Nat)) []) (0 : Nat) (0 : Int) == (1 : Int))
 (List.getD (List.getD (List.getD xs (Int.toNat (↑x1 : Int)) []) ((2 : Nat)) []) (0 : Nat) (0 : Int))
 (List.getD (List.getD (List.getD xs (Int.toNat (↑(bestI xs x1) : Int)) []) ((0 : Nat)) []) (0 : Nat) (0 : Int))
 (List.getD (List.getD (List.getD xs (Int.toNat (↑(bestI xs x1) : Int)) []) ((1 : Nat)) []) (0 : Nat) (0 : Int) == (1 : Int))
 (List.getD (List.getD (List.getD xs (Int.toNat (↑(bestI xs x1) : Int)) []) ((2 : Nat)) []) (0 : Nat) (0 : Int)) =
 true →
 ∃ (y2 : Nat),
 ((1 : Nat) ≤ y2 ∧ y2 ≤ List.length xs) ∧
 Nat.sub (List.length xs) y2 < Nat.sub (List.length xs) x1 ∧
 (↑x1 : Int) = (↑(bestI xs y2) : Int) ∧
 IntKind.wrap IntKind.i64 ((↑x1 : Int) + (1 : Int)) = (↑y2 : Int) ∧
 xs = xs ∧ (0 : Int) = (0 : Int) ∧ false = false ∧ (0 : Int) = (0 : Int) ∧ Value.slice none (0 : Nat) (0 : Nat) = Value.slice none (0 : Nat) (0 : Nat)) ∧
 (befB (List.getD (List.getD (List.getD xs (Int.toNat (↑x1 : Int)) []) ((0 : Nat)) []) (0 : Nat) (0 : Int))
 (List.getD (List.getD (List.getD xs (Int.toNat (↑x1 : Int)) []) ((1 : Nat)) []) (0 : Nat) (0 : Int) == (1 : Int))
 (List.getD (List.getD (List.getD xs (Int.toNat (↑x1 : Int)) []) ((2 : Nat)) []) (0 : Nat) (0 : Int))
 (List.getD (List.getD (List.getD xs (Int.toNat (↑(bestI xs x1) : Int)) []) ((0 : Nat)) []) (0 : Nat) (0 : Int))
 (List.getD (List.getD (List.getD xs (Int.toNat (↑(bestI xs x1) : Int)) []) ((1 : Nat)) []) (0 : Nat) (0 : Int) == (1 : Int))
 (List.getD (List.getD (List.getD xs (Int.toNat (↑(bestI xs x1) : Int)) []) ((2 : Nat)) []) (0 : Nat) (0 : Int)) =
 false →
 ∃ (y3 : Nat),
 ((1 : Nat) ≤ y3 ∧ y3 ≤ List.length xs) ∧
 Nat.sub (List.length xs) y3 < Nat.sub (List.length xs) x1 ∧
 (↑(bestI xs x1) : Int) = (↑(bestI xs y3) : Int) ∧
 IntKind.wrap IntKind.i64 ((↑x1 : Int) + (1 : Int)) = (↑y3 : Int) ∧
 xs = xs ∧ (0 : Int) = (0 : Int) ∧ false = false ∧ (0 : Int) = (0 : Int) ∧ Value.slice none (0 : Nat) (0 : Nat) = Value.slice none (0 : Nat) (0 : Nat))) ∧
 (decide ((↑x1 : Int) < (↑(List.length xs) : Int)) = false →
 (0 : Int) ≤ (↑(bestI xs x1) : Int) ∧
 (↑(bestI xs x1) : Int) < (↑(List.length xs) : Int) ∧
 Int.toNat (↑(bestI xs x1) : Int) < List.length xs ∧
 (0 : Int) ≤ (0 : Int) ∧
 (0 : Int) ≤ (↑(bestI xs x1) : Int) ∧
 (↑(bestI xs x1) : Int) ≤ (↑(List.length xs) : Int) ∧
 ((0 : Nat) + List.length (List.take (Int.toNat (↑(bestI xs x1) : Int) - Int.toNat (0 : Int)) (List.drop (Int.toNat (0 : Int)) xs))) * (48 : Nat) ≤ (140737488355328 : Nat) ∧
 (0 : Int) ≤ IntKind.wrap IntKind.i64 ((↑(bestI xs x1) : Int) + (1 : Int)) ∧
 IntKind.wrap IntKind.i64 ((↑(bestI xs x1) : Int) + (1 : Int)) ≤ (↑(List.length xs) : Int) ∧
 (↑(List.length xs) : Int) ≤ (↑(List.length xs) : Int) ∧
 (List.length ([] ++ List.take (Int.toNat (↑(bestI xs x1) : Int) - Int.toNat (0 : Int)) (List.drop (Int.toNat (0 : Int)) xs)) +
 List.length
 (List.take (Int.toNat (↑(List.length xs) : Int) - Int.toNat (IntKind.wrap IntKind.i64 ((↑(bestI xs x1) : Int) + (1 : Int))))
 (List.drop (Int.toNat (IntKind.wrap IntKind.i64 ((↑(bestI xs x1) : Int) + (1 : Int)))) xs))) *
 (48 : Nat) ≤
 (140737488355328 : Nat) ∧
 List.getD (List.getD (List.getD xs (Int.toNat (↑(bestI xs x1) : Int)) []) ((0 : Nat)) []) (0 : Nat) (0 : Int) = ndC (topX xs) ∧
 (List.getD (List.getD (List.getD xs (Int.toNat (↑(bestI xs x1) : Int)) []) ((1 : Nat)) []) (0 : Nat) (0 : Int) == (1 : Int)) = ndF (topX xs) ∧
 List.getD (List.getD (List.getD xs (Int.toNat (↑(bestI xs x1) : Int)) []) ((2 : Nat)) []) (0 : Nat) (0 : Int) = ndN (topX xs) ∧
 List.getD (List.getD xs (Int.toNat (↑(bestI xs x1) : Int)) []) ((3 : Nat)) [] = ndS (topX xs) ∧
 xs = xs ∧
 [] ++ List.take (Int.toNat (↑(bestI xs x1) : Int) - Int.toNat (0 : Int)) (List.drop (Int.toNat (0 : Int)) xs) ++
 List.take (Int.toNat (↑(List.length xs) : Int) - Int.toNat (IntKind.wrap IntKind.i64 ((↑(bestI xs x1) : Int) + (1 : Int))))
 (List.drop (Int.toNat (IntKind.wrap IntKind.i64 ((↑(bestI xs x1) : Int) + (1 : Int)))) xs) =
 restX xs)
theorem first7_e (xs : List Nd) : first7_t xs = vcG Try.prog (Gof G7a) (one6 (oFirst xs)) Try.f83 [.o 0] [(0, .row 121 (.mix [.i, .b, .i, .l] xs))] (.leaf ((.tu [.ag [.v (.int .i64 (ndC (topX xs))), .v (.bool (ndF (topX xs))), .v (.int .i64 (ndN (topX xs))), .dat (.ints .i64 (ndS (topX xs)))], .o 2000])) ([(0, .row 121 (.mix [.i, .b, .i, .l] xs)), (2000, .row 121 (.mix [.i, .b, .i, .l] (restX xs)))])) := by kernel_rfl
def sum7_t (l : List Int) : Prop :=
 (∃ (x0 : Nat), Nat.le x0 (List.length l) ∧ l = l ∧ (0 : Int) = sumL (List.take x0 l) ∧ (0 : Int) = (↑x0 : Int)) ∧
 ∀ (x1 : Nat),
 Nat.le x1 (List.length l) →
 (decide ((↑x1 : Int) < (↑(List.length l) : Int)) = true →
 (0 : Int) ≤ (↑x1 : Int) ∧
 (↑x1 : Int) < (↑(List.length l) : Int) ∧
 okCnt (sumL (List.take x1 l)) = true ∧
 okCnt (List.getD l (Int.toNat (↑x1 : Int)) (0 : Int)) = true ∧
 okCnt (sumL (List.take x1 l) + List.getD l (Int.toNat (↑x1 : Int)) (0 : Int)) = true ∧
 (((0 : Int) != (0 : Int)) = true → (0 : Int) = sumL l ∧ (0 : Int) = (0 : Int)) ∧
 (((0 : Int) != (0 : Int)) = false →
 ∃ (y2 : Nat),
 Nat.le y2 (List.length l) ∧
 Nat.sub (List.length l) y2 < Nat.sub (List.length l) x1 ∧
 l = l ∧
 sumL (List.take x1 l) + List.getD l (Int.toNat (↑x1 : Int)) (0 : Int) = sumL (List.take y2 l) ∧ IntKind.wrap IntKind.i64 ((↑x1 : Int) + (1 : Int)) = (↑y2 : Int))) ∧
 (decide ((↑x1 : Int) < (↑(List.length l) : Int)) = false → sumL (List.take x1 l) = sumL l ∧ (0 : Int) = (0 : Int))
theorem sum7_e (l : List Int) : sum7_t l = vcG Try.prog (Gof G7b) (one6 (oSum l)) Try.f93 [.dat (.ints .i64 l)] [] (.leaf ((.tu [.v (.int .i64 (sumL l)), .v (.int .i64 0)])) ([])) := by kernel_rfl
def dep7_t (l : List Int) : Prop :=
 (0 : Int) ≤ (↑(List.length l) : Int) ∧
 (↑(List.length l) : Int) ≤ (↑(List.length l) : Int) ∧
 (↑((8 : Nat)) : Int) * (↑(List.length l) : Int) ≤ (281474976710656 : Int) ∧
 (↑(List.length l) : Int) ≤ (9223372036854775807 : Int) ∧
 (∃ (x0 : Nat),
 Nat.le x0 (List.length l) ∧
 l = l ∧
 (0 : Int) = (↑x0 : Int) ∧
 List.replicate (Int.toNat (↑(List.length l) : Int)) (0 : Int) = List.replicate (List.length l) (0 : Int) ∧ List.length (leaves (List.take x0 l)) = (0 : Nat)) ∧
 ∀ (x1 : Nat),
 Nat.le x1 (List.length l) →
 (decide ((↑x1 : Int) < (↑(List.length l) : Int)) = true →
 (0 : Int) ≤ (↑x1 : Int) ∧
 (↑x1 : Int) < (↑(List.length l) : Int) ∧
 (decide (List.getD l (Int.toNat (↑x1 : Int)) (0 : Int) > (0 : Int)) = true →
 (0 : Int) ≤ (↑x1 : Int) ∧
 (↑x1 : Int) < (↑(List.length l) : Int) ∧
 (List.length (leaves (List.take x1 l)) + (1 : Nat)) * (48 : Nat) ≤ (140737488355328 : Nat) ∧
 ∃ (y2 : Nat),
 Nat.le y2 (List.length l) ∧
 Nat.sub (List.length l) y2 < Nat.sub (List.length l) x1 ∧
 l = l ∧
 IntKind.wrap IntKind.i64 ((↑x1 : Int) + (1 : Int)) = (↑y2 : Int) ∧
 List.replicate (List.length l) (0 : Int) = List.replicate (List.length l) (0 : Int) ∧
 leaves (List.take x1 l) ++ [[[List.getD l (Int.toNat (↑x1 : Int)) (0 : Int)], [(1 : Int)], [(↑x1 : Int)], [(↑x1 : Int)]]] = leaves (List.take y2 l)) ∧
 (decide (List.getD l (Int.toNat (↑x1 : Int)) (0 : Int) > (0 : Int)) = false →
 ∃ (y3 : Nat),
 Nat.le y3 (List.length l) ∧
 Nat.sub (List.length l) y3 < Nat.sub (List.length l) x1 ∧
 l = l ∧
 IntKind.wrap IntKind.i64 ((↑x1 : Int) + (1 : Int)) = (↑y3 : Int) ∧
 List.replicate (List.length l) (0 : Int) = List.replicate (List.length l) (0 : Int) ∧ leaves (List.take x1 l) = leaves (List.take y3 l))) ∧
 (decide ((↑x1 : Int) < (↑(List.length l) : Int)) = false →
 (∃ (x4 : Nat),
 Nat.le (x4 + (1 : Nat)) (List.length (leaves l)) ∧
 (0 : Int) = (↑x4 : Int) ∧ List.replicate (List.length l) (0 : Int) = (runD l x4).fst ∧ leaves (List.take x1 l) = (runD l x4).snd) ∧
 ∀ (x5 : Nat),
 Nat.le (x5 + (1 : Nat)) (List.length (leaves l)) →
 (decide ((↑(List.length (runD l x5).snd) : Int) > (1 : Int)) = true →
 (1 : Nat) ≤ List.length (runD l x5).snd ∧
 List.length (runD l x5).snd ≤ (65536 : Nat) ∧
 (1 : Nat) ≤ List.length (restX (runD l x5).snd) ∧
 List.length (restX (runD l x5).snd) ≤ (65536 : Nat) ∧
 ((0 : Nat) + List.length (ndS (topX (runD l x5).snd))) * (8 : Nat) ≤ (140737488355328 : Nat) ∧
 (List.length ([] ++ ndS (topX (runD l x5).snd)) + List.length (ndS (topX (restX (runD l x5).snd)))) * (8 : Nat) ≤ (140737488355328 : Nat) ∧
 ∃ (g6 : Nat),
 (∃ (x7 : Nat),
 (g6 + (2 : Nat) ≤ List.length (leaves l) ∧ x7 ≤ List.length (ndS (mrgX (runD l g6).snd g6))) ∧
 (↑x5 : Int) = (↑g6 : Int) ∧
 (0 : Int) = (↑x7 : Int) ∧
 (runD l x5).fst = incAll (runD l g6).fst (List.take x7 (ndS (mrgX (runD l g6).snd g6))) ∧
 restX (restX (runD l x5).snd) = restX (restX (runD l g6).snd) ∧
 IntKind.wrap IntKind.i64 (ndC (topX (runD l x5).snd) + ndC (topX (restX (runD l x5).snd))) = ndC (mrgX (runD l g6).snd g6) ∧
 false = false ∧
 (↑x5 : Int) = (↑g6 : Int) ∧ [] ++ ndS (topX (runD l x5).snd) ++ ndS (topX (restX (runD l x5).snd)) = ndS (mrgX (runD l g6).snd g6)) ∧
 ∀ (x8 : Nat),
 g6 + (2 : Nat) ≤ List.length (leaves l) ∧ x8 ≤ List.length (ndS (mrgX (runD l g6).snd g6)) →
 (decide ((↑x8 : Int) < (↑(List.length (ndS (mrgX (runD l g6).snd g6))) : Int)) = true →
 (0 : Int) ≤ (↑x8 : Int) ∧
 (↑x8 : Int) < (↑(List.length (ndS (mrgX (runD l g6).snd g6))) : Int) ∧
 Int.toNat (↑x8 : Int) < List.length (ndS (mrgX (runD l g6).snd g6)) ∧
 (0 : Int) ≤ List.getD (ndS (mrgX (runD l g6).snd g6)) (Int.toNat (↑x8 : Int)) (0 : Int) ∧
 List.getD (ndS (mrgX (runD l g6).snd g6)) (Int.toNat (↑x8 : Int)) (0 : Int) <
 (↑(List.length (incAll (runD l g6).fst (List.take x8 (ndS (mrgX (runD l g6).snd g6))))) : Int) ∧
 Int.toNat (List.getD (ndS (mrgX (runD l g6).snd g6)) (Int.toNat (↑x8 : Int)) (0 : Int)) <
 List.length (incAll (runD l g6).fst (List.take x8 (ndS (mrgX (runD l g6).snd g6)))) ∧
 (0 : Int) ≤ List.getD (ndS (mrgX (runD l g6).snd g6)) (Int.toNat (↑x8 : Int)) (0 : Int) ∧
 List.getD (ndS (mrgX (runD l g6).snd g6)) (Int.toNat (↑x8 : Int)) (0 : Int) <
 (↑(List.length (incAll (runD l g6).fst (List.take x8 (ndS (mrgX (runD l g6).snd g6))))) : Int) ∧
 Int.toNat (List.getD (ndS (mrgX (runD l g6).snd g6)) (Int.toNat (↑x8 : Int)) (0 : Int)) <
 List.length (incAll (runD l g6).fst (List.take x8 (ndS (mrgX (runD l g6).snd g6)))) ∧
 ∃ (y9 : Nat),
 (g6 + (2 : Nat) ≤ List.length (leaves l) ∧ y9 ≤ List.length (ndS (mrgX (runD l g6).snd g6))) ∧
 Nat.sub (List.length (ndS (mrgX (runD l g6).snd g6))) y9 < Nat.sub (List.length (ndS (mrgX (runD l g6).snd g6))) x8 ∧
 (↑g6 : Int) = (↑g6 : Int) ∧
 IntKind.wrap IntKind.i64 ((↑x8 : Int) + (1 : Int)) = (↑y9 : Int) ∧
 List.set (incAll (runD l g6).fst (List.take x8 (ndS (mrgX (runD l g6).snd g6))))
 (Int.toNat (List.getD (ndS (mrgX (runD l g6).snd g6)) (Int.toNat (↑x8 : Int)) (0 : Int)))
 (IntKind.wrap IntKind.i64
 (List.getD (incAll (runD l g6).fst (List.take x8 (ndS (mrgX (runD l g6).snd g6))))
 (Int.toNat (List.getD (ndS (mrgX (runD l g6).snd g6)) (Int.toNat (↑x8 : Int)) (0 : Int))) (0 : Int) +
 (1 : Int))) =
 incAll (runD l g6).fst (List.take y9 (ndS (mrgX (runD l g6).snd g6))) ∧
 restX (restX (runD l g6).snd) = restX (restX (runD l g6).snd) ∧
 ndC (mrgX (runD l g6).snd g6) = ndC (mrgX (runD l g6).snd g6) ∧
 false = false ∧ (↑g6 : Int) = (↑g6 : Int) ∧ ndS (mrgX (runD l g6).snd g6) = ndS (mrgX (runD l g6).snd g6)) ∧
 (decide ((↑x8 : Int) < (↑(List.length (ndS (mrgX (runD l g6).snd g6))) : Int)) = false →
 (List.length (restX (restX (runD l g6).snd)) + (1 : Nat)) * (48 : Nat) ≤ (140737488355328 : Nat) ∧
 ∃ (y10 : Nat),
 Nat.le (y10 + (1 : Nat)) (List.length (leaves l)) ∧
 Nat.sub (List.length (leaves l)) y10 < Nat.sub (List.length (leaves l)) x5 ∧
 IntKind.wrap IntKind.i64 ((↑g6 : Int) + (1 : Int)) = (↑y10 : Int) ∧
 incAll (runD l g6).fst (List.take x8 (ndS (mrgX (runD l g6).snd g6))) = (runD l y10).fst ∧
 restX (restX (runD l g6).snd) ++ [[[ndC (mrgX (runD l g6).snd g6)], [(0 : Int)], [(↑g6 : Int)], ndS (mrgX (runD l g6).snd g6)]] =
 (runD l y10).snd)) ∧
 (decide ((↑(List.length (runD l x5).snd) : Int) > (1 : Int)) = false → (runD l x5).fst = depL l))
theorem dep7_e (l : List Int) : dep7_t l = vcG Try.prog (Gof G7b) (oDep l) Try.f62 [.dat (.ints .i64 l)] [] (.leaf ((.o 2000)) ([(2000, .row 3 (.ints .i64 (depL l)))])) := by kernel_rfl
def chkd7_t (l : List Int) : Prop :=
 (decide ((↑(List.length l) : Int) > (256 : Int)) = true → (6 : Int) = (0 : Int)) ∧
 (decide ((↑(List.length l) : Int) > (256 : Int)) = false → List.length l ≤ (4294967296 : Nat) ∧ cntsOk l = true ∧ (0 : Int) = (0 : Int))
theorem chkd7_e (l : List Int) : chkd7_t l = vcG Try.prog (Gof G7c) (fun _ => none) Try.f82 [.dat (.ints .i64 l)] [] (.leaf ((.v (.int .i64 0))) ([])) := by kernel_rfl
def asked7_t (l : List Int) : Prop :=
 List.length l ≤ (256 : Nat) ∧
 cntsOk l = true ∧
 (((0 : Int) == (0 : Int)) = true →
 List.length l ≤ (4294967296 : Nat) ∧ (decide (nzL l < (2 : Int)) = true → (7 : Int) = (0 : Int)) ∧ (decide (nzL l < (2 : Int)) = false → (0 : Int) = (0 : Int))) ∧
 (((0 : Int) == (0 : Int)) = false → (0 : Int) = (0 : Int))
theorem asked7_e (l : List Int) : asked7_t l = vcG Try.prog (Gof G7d) (fun _ => none) Try.f61 [.dat (.ints .i64 l)] [] (.leaf ((.v (.int .i64 0))) ([])) := by kernel_rfl
def of7_t (l : List Int) : Prop :=
 List.length l ≤ (256 : Nat) ∧
 cntsOk l = true ∧
 (2 : Nat) ≤ List.length (leaves l) ∧
 (((0 : Int) != (0 : Int)) = true → (0 : Int) = (0 : Int) ∧ List.length (ofL l) = (0 : Nat)) ∧
 (((0 : Int) != (0 : Int)) = false →
 ((0 : Nat) + List.length l) * (8 : Nat) ≤ (140737488355328 : Nat) ∧
 (∃ (x0 : Nat), ((↑x0 : Int) + sumL (halfs l x0) ≤ sumL l ∧ ofF (Int.toNat (sumL l) + (1 : Nat) - x0) (halfs l x0) = ofL l) ∧ [] ++ l = halfs l x0) ∧
 ∀ (x1 : Nat),
 (↑x1 : Int) + sumL (halfs l x1) ≤ sumL l ∧ ofF (Int.toNat (sumL l) + (1 : Nat) - x1) (halfs l x1) = ofL l →
 List.length (halfs l x1) ≤ (256 : Nat) ∧
 cntsOk (halfs l x1) = true ∧
 (2 : Nat) ≤ List.length (leaves (halfs l x1)) ∧
 ∃ (g2 : Nat),
 (∃ (x3 : Nat),
 (((↑g2 : Int) + sumL (halfs l g2) ≤ sumL l ∧ ofF (Int.toNat (sumL l) + (1 : Nat) - g2) (halfs l g2) = ofL l) ∧ x3 ≤ List.length (depL (halfs l g2))) ∧
 false = !okD (List.take x3 (depL (halfs l g2))) ∧ (0 : Int) = (↑x3 : Int) ∧ halfs l x1 = halfs l g2 ∧ depL (halfs l x1) = depL (halfs l g2)) ∧
 ∀ (x4 : Nat),
 ((↑g2 : Int) + sumL (halfs l g2) ≤ sumL l ∧ ofF (Int.toNat (sumL l) + (1 : Nat) - g2) (halfs l g2) = ofL l) ∧ x4 ≤ List.length (depL (halfs l g2)) →
 (decide ((↑x4 : Int) < (↑(List.length (depL (halfs l g2))) : Int)) = true →
 ((!okD (List.take x4 (depL (halfs l g2)))) = true →
 ∃ (y5 : Nat),
 (((↑g2 : Int) + sumL (halfs l g2) ≤ sumL l ∧ ofF (Int.toNat (sumL l) + (1 : Nat) - g2) (halfs l g2) = ofL l) ∧ y5 ≤ List.length (depL (halfs l g2))) ∧
 Nat.sub (List.length (depL (halfs l g2))) y5 < Nat.sub (List.length (depL (halfs l g2))) x4 ∧
 true = !okD (List.take y5 (depL (halfs l g2))) ∧
 IntKind.wrap IntKind.i64 ((↑x4 : Int) + (1 : Int)) = (↑y5 : Int) ∧ halfs l g2 = halfs l g2 ∧ depL (halfs l g2) = depL (halfs l g2)) ∧
 ((!okD (List.take x4 (depL (halfs l g2)))) = false →
 (0 : Int) ≤ (↑x4 : Int) ∧
 (↑x4 : Int) < (↑(List.length (depL (halfs l g2))) : Int) ∧
 Int.toNat (↑x4 : Int) < List.length (depL (halfs l g2)) ∧
 ∃ (y6 : Nat),
 (((↑g2 : Int) + sumL (halfs l g2) ≤ sumL l ∧ ofF (Int.toNat (sumL l) + (1 : Nat) - g2) (halfs l g2) = ofL l) ∧ y6 ≤ List.length (depL (halfs l g2))) ∧
 Nat.sub (List.length (depL (halfs l g2))) y6 < Nat.sub (List.length (depL (halfs l g2))) x4 ∧
 decide (List.getD (depL (halfs l g2)) (Int.toNat (↑x4 : Int)) (0 : Int) > (11 : Int)) = !okD (List.take y6 (depL (halfs l g2))) ∧
 IntKind.wrap IntKind.i64 ((↑x4 : Int) + (1 : Int)) = (↑y6 : Int) ∧ halfs l g2 = halfs l g2 ∧ depL (halfs l g2) = depL (halfs l g2))) ∧
 (decide ((↑x4 : Int) < (↑(List.length (depL (halfs l g2))) : Int)) = false →
 ((!!okD (List.take x4 (depL (halfs l g2)))) = true → (0 : Int) = (0 : Int) ∧ depL (halfs l g2) = ofL l) ∧
 ((!!okD (List.take x4 (depL (halfs l g2)))) = false →
 ∃ (g7 : Nat),
 (∃ (x8 : Nat),
 (((↑g7 : Int) + sumL (halfs l g7) ≤ sumL l ∧ ofF (Int.toNat (sumL l) + (1 : Nat) - g7) (halfs l g7) = ofL l) ∧
 okD (depL (halfs l g7)) = false ∧ x8 ≤ List.length (halfs l g7)) ∧
 (0 : Int) = (↑x8 : Int) ∧ halfs l g2 = halfP (halfs l g7) x8) ∧
 ∀ (x9 : Nat),
 ((↑g7 : Int) + sumL (halfs l g7) ≤ sumL l ∧ ofF (Int.toNat (sumL l) + (1 : Nat) - g7) (halfs l g7) = ofL l) ∧
 okD (depL (halfs l g7)) = false ∧ x9 ≤ List.length (halfs l g7) →
 (decide ((↑x9 : Int) < (↑(List.length (halfP (halfs l g7) x9)) : Int)) = true →
 (0 : Int) ≤ (↑x9 : Int) ∧
 (↑x9 : Int) < (↑(List.length (halfP (halfs l g7) x9)) : Int) ∧
 Int.toNat (↑x9 : Int) < List.length (halfP (halfs l g7) x9) ∧
 (2 : Int) ≠ (0 : Int) ∧
 (0 : Int) ≤ (↑x9 : Int) ∧
 (↑x9 : Int) < (↑(List.length (halfP (halfs l g7) x9)) : Int) ∧
 Int.toNat (↑x9 : Int) < List.length (halfP (halfs l g7) x9) ∧
 ∃ (y10 : Nat),
 (((↑g7 : Int) + sumL (halfs l g7) ≤ sumL l ∧ ofF (Int.toNat (sumL l) + (1 : Nat) - g7) (halfs l g7) = ofL l) ∧
 okD (depL (halfs l g7)) = false ∧ y10 ≤ List.length (halfs l g7)) ∧
 Nat.sub (List.length (halfs l g7)) y10 < Nat.sub (List.length (halfs l g7)) x9 ∧
 IntKind.wrap IntKind.i64 ((↑x9 : Int) + (1 : Int)) = (↑y10 : Int) ∧
 List.set (halfP (halfs l g7) x9) (Int.toNat (↑x9 : Int))
 (IntKind.wrap IntKind.i64
 (Int.tdiv (IntKind.wrap IntKind.i64 (List.getD (halfP (halfs l g7) x9) (Int.toNat (↑x9 : Int)) (0 : Int) + (1 : Int)))
 (2 : Int))) =
 halfP (halfs l g7) y10) ∧
 (decide ((↑x9 : Int) < (↑(List.length (halfP (halfs l g7) x9)) : Int)) = false →
 ∃ (y11 : Nat),
 ((↑y11 : Int) + sumL (halfs l y11) ≤ sumL l ∧ ofF (Int.toNat (sumL l) + (1 : Nat) - y11) (halfs l y11) = ofL l) ∧
 Nat.sub (Int.toNat (sumL l)) y11 < Nat.sub (Int.toNat (sumL l)) x1 ∧ halfP (halfs l g7) x9 = halfs l y11))))
theorem of7_e (l : List Int) : of7_t l = vcG Try.prog (Gof G7e) (oOf l) Try.f45 [.dat (.ints .i64 l)] [] (.leaf ((.tu [.o 2000, .v (.int .i64 0)])) ([(2000, .row 3 (.ints .i64 (ofL l)))])) := by kernel_rfl
end Go.Proofs.Ytmdbliacaeokaaa
namespace Go.Proofs.Ytmdbliacaeokaaa
open Go Go.RowKit
set_option linter.unusedVariables false
set_option linter.unusedSimpArgs false
set_option maxRecDepth 100000
theorem bd7_v (n : Int) : bd7_t n := by
  unfold bd7_t okCnt
  refine ⟨fun h => ?_, fun h => ?_⟩
  · simp only [ge_iff_le] at h; rw [h]; rfl
  · simp only [ge_iff_le] at h; rw [h]; rfl
theorem bef7_v (c1 : Int) (f1 : Bool) (n1 : Int) (s1 : List Int) (c2 : Int) (f2 : Bool) (n2 : Int) (s2 : List Int) : bef7_t c1 f1 n1 s1 c2 f2 n2 s2 := by
  unfold bef7_t befB
  refine ⟨fun h => by rw [h]; rfl, fun h => ⟨fun h2 => ?_, fun h2 => ?_⟩⟩
  · rw [h]; cases f1 <;> cases f2 <;> first | rfl | simp at h2
  · rw [h]; cases f1 <;> cases f2 <;> first | rfl | simp at h2
theorem nz_snoc (l : List Int) (x : Int) : nzL (l ++ [x]) = cond (x != 0) (nzL l + 1) (nzL l) := by simp [nzL, List.foldl_append]
theorem nz_bd (l : List Int) : 0 ≤ nzL l ∧ nzL l ≤ l.length := by
  induction l using snoc_ind' with
  | h0 => exact ⟨by decide, by decide⟩
  | h1 l z ih =>
    rw [nz_snoc, List.length_append, List.length_singleton]
    cases z != 0 <;> simp only [cond_true, cond_false] <;> omega
theorem nz7_v (l : List Int) (h0 : l.length ≤ 4294967296) : nz7_t l := by
  unfold nz7_t
  refine ⟨⟨0, by rw [nle]; omega, rfl, rfl, rfl⟩, fun i hi => ⟨fun hlt => ?_, fun hge => ?_⟩⟩
  · simp only [decide_eq_true_eq] at hlt
    rw [toNat_cast]
    have hi' : i < l.length := by omega
    have hs := nz_snoc (l.take i) (l.getD i 0)
    rw [← take_succ l 0 hi'] at hs
    have hb := nz_bd (l.take i)
    rw [List.length_take, Nat.min_eq_left (by omega)] at hb
    refine ⟨by omega, by omega, fun h => ⟨i + 1, by rw [nle]; omega, by show l.length - (i + 1) < l.length - i; omega, by trivial, ?_, by rw [wr (by omega) (by omega)]; simp⟩, fun h => ⟨i + 1, by rw [nle]; omega, by show l.length - (i + 1) < l.length - i; omega, by trivial, ?_, by rw [wr (by omega) (by omega)]; simp⟩⟩
    · rw [hs, h, wr (by omega) (by omega)]; rfl
    · rw [hs, h]; rfl
  · simp only [decide_eq_false_iff_not] at hge
    rw [List.take_of_length_le (by omega)]
theorem md7_v (x m : Int) (h : m ≤ 4611686018427387904) : md7_t x m := by
  unfold md7_t md
  refine ⟨fun h => by rw [h]; rfl, fun h => ⟨by simp at h; omega, fun h2 => ?_, fun h2 => ?_⟩⟩
  · rw [h, cond_false]
    simp only [decide_eq_true_eq, decide_eq_false_iff_not] at h h2
    have h3 := Int.lt_tmod_of_pos x (show (0 : Int) < m by omega)
    have e := Int.emod_eq_tmod (a := x) (b := m)
    have : ¬ 0 ≤ x := fun hx => by have := Int.tmod_nonneg m hx; omega
    have hd : ¬ m ∣ x := fun hd => by have := Int.tmod_eq_zero_of_dvd hd; omega
    rw [wr (by omega) (by omega), e, if_neg (by simp [this, hd])]
    omega
  · rw [h, cond_false]
    simp only [decide_eq_true_eq, decide_eq_false_iff_not] at h h2
    have e := Int.emod_eq_tmod (a := x) (b := m)
    rw [e]
    by_cases hx : 0 ≤ x ∨ m ∣ x
    · rw [if_pos hx]; omega
    · exfalso
      simp only [not_or] at hx
      have h4 : x.tmod m = 0 := by
        have := Int.tmod_neg x m
        have h5 : 0 ≤ (-x).tmod m := Int.tmod_nonneg m (by omega)
        rw [Int.neg_tmod] at h5
        omega
      exact hx.2 (Int.dvd_of_tmod_eq_zero h4)
theorem at7_v (l : List Int) (i : Int) : at7_t l i := by
  unfold at7_t atL
  refine ⟨fun h => ?_, fun h => ⟨fun h2 => ?_, fun h2 => ⟨?_, ?_, ?_⟩⟩⟩
  · rw [h]; rfl
  · simp only [ge_iff_le] at h2; rw [h, h2]; rfl
  · simp at h; exact h
  · simp at h2; exact h2
  · simp only [ge_iff_le] at h2; rw [h, h2]; rfl
theorem plus7_v (a b : Int) (ha : okCnt a = true) (hb : okCnt b = true) (hab : okCnt (a + b) = true) : plus7_t a b := by
  unfold plus7_t
  have h1 := okCnt_iff.1 hab
  rw [wr (n := a + b) (by omega) (by omega), ha, hb, hab]
  simp
theorem first7_v (xs : List Nd) (h1 : 1 ≤ xs.length) (h2 : xs.length ≤ 65536) : first7_t xs := by
  unfold first7_t
  refine ⟨⟨1, ⟨by omega, h1⟩, ?_, by simp, rfl, by trivial, by trivial, by trivial, by trivial⟩, fun i ⟨hi1, hi⟩ => ⟨fun hlt => ?_, fun hge => ?_⟩⟩
  · simp only [bestI]
    cases befN (xs.getD 0 []) (xs.getD 0 []) <;> rfl
  · simp only [decide_eq_true_eq] at hlt
    have hb := bestI_lt (xs := xs) (by omega) i hi
    simp only [toNat_cast]
    refine ⟨by omega, by omega, by omega, by omega, by omega, by omega, fun hq => ⟨i + 1, ⟨by omega, by omega⟩, by show xs.length - (i + 1) < xs.length - i; omega, ?_, by rw [wr (by omega) (by omega)]; simp, by trivial, by trivial, by trivial, by trivial, by trivial⟩,
      fun hq => ⟨i + 1, ⟨by omega, by omega⟩, by show xs.length - (i + 1) < xs.length - i; omega, ?_, by rw [wr (by omega) (by omega)]; simp, by trivial, by trivial, by trivial, by trivial, by trivial⟩⟩
    · have e : befN (xs.getD i []) (xs.getD (bestI xs i) []) = true := hq
      rw [bestI, e]; rfl
    · have e : befN (xs.getD i []) (xs.getD (bestI xs i) []) = false := hq
      rw [bestI, e]; rfl
  · simp only [decide_eq_false_iff_not] at hge
    have hi' : i = xs.length := by omega
    subst hi'
    have hb := bestX_lt (xs := xs) (by omega)
    have e : bestI xs xs.length = bestX xs := rfl
    rw [e]
    have e1 : IntKind.wrap IntKind.i64 ((bestX xs : Int) + 1) = ((bestX xs + 1 : Nat) : Int) := by rw [wr (by omega) (by omega)]; simp
    rw [e1]
    simp only [toNat_cast, Int.toNat_zero, Nat.sub_zero, List.drop_zero, List.nil_append, List.length_take, List.length_drop]
    refine ⟨by omega, by omega, by omega, by omega, by omega, by omega, ?_, by omega, by omega, by omega, ?_, by trivial, by trivial, by trivial, by trivial, by trivial, ?_⟩
    · omega
    · omega
    · unfold restX
      congr 1
      rw [List.take_of_length_le (by simp)]
theorem sum_snoc (l : List Int) (x : Int) : sumL (l ++ [x]) = sumL l + x := by simp [sumL]
theorem sum_take_le {l : List Int} (h : ∀ x ∈ l, 0 ≤ x) (i : Nat) : 0 ≤ sumL (l.take i) ∧ sumL (l.take i) ≤ sumL l := by
  have e : sumL l = sumL (l.take i) + (l.drop i).sum := by
    conv => lhs; rw [← List.take_append_drop i l]
    unfold sumL
    rw [List.sum_append_int]
  have := sum_nn (fun x hx => h x (List.mem_of_mem_drop hx) : ∀ x ∈ l.drop i, 0 ≤ x)
  have := sum_nn (fun x hx => h x (List.mem_of_mem_take hx) : ∀ x ∈ l.take i, 0 ≤ x)
  unfold sumL at *
  omega
theorem sum7_v (l : List Int) (h0 : l.length ≤ 4294967296) (hc : cntsOk l = true) : sum7_t l := by
  have hc := cn_iff.1 hc
  unfold sum7_t
  refine ⟨⟨0, by rw [nle]; omega, rfl, rfl, rfl⟩, fun i hi => ⟨fun hlt => ?_, fun hge => ?_⟩⟩
  · simp only [decide_eq_true_eq] at hlt
    rw [toNat_cast]
    have hi' : i < l.length := by omega
    have hs := sum_snoc (l.take i) (l.getD i 0)
    rw [← take_succ l 0 hi'] at hs
    have b1 := sum_take_le hc.nn i
    have b2 := sum_take_le hc.nn (i + 1)
    have ht := hc.tot
    have hx := hc.nn _ (getD_mem' hi')
    refine ⟨by omega, by omega, okCnt_iff.2 (by omega), okCnt_iff.2 (by omega), okCnt_iff.2 (by omega), fun h => by simp at h, fun _ => ⟨i + 1, by rw [nle]; omega, by show l.length - (i + 1) < l.length - i; omega, by trivial, hs.symm, by rw [wr (by omega) (by omega)]; simp⟩⟩
  · simp only [decide_eq_false_iff_not] at hge
    rw [List.take_of_length_le (by omega)]
    exact ⟨rfl, rfl⟩
theorem chkd7_v (l : List Int) (h0 : l.length ≤ 256) (hc : cntsOk l = true) : chkd7_t l := by
  unfold chkd7_t
  refine ⟨fun h => ?_, fun _ => ⟨by omega, hc, rfl⟩⟩
  simp only [gt_iff_lt, decide_eq_true_eq] at h
  omega
theorem nz_leaves {l : List Int} (h : ∀ x ∈ l, 0 ≤ x) : nzL l = ((leaves l).length : Int) := by
  rw [leaves_len]
  have : ∀ l : List Int, (∀ x ∈ l, 0 ≤ x) → nzL l = ((syms l).length : Int) := by
    intro l
    induction l using snoc_ind' with
    | h0 => intro _; rfl
    | h1 l z ih =>
      intro h
      have hz := h z (by simp)
      rw [nz_snoc, syms_snoc, List.length_append, ih (fun x hx => h x (by simp [hx]))]
      by_cases h0 : 0 < z
      · have : (z != 0) = true := by simp; omega
        rw [this, decide_eq_true h0]; simp
      · have : (z != 0) = false := by simp; omega
        rw [this, decide_eq_false h0]; simp
  exact this l h
theorem asked7_v (l : List Int) (h0 : l.length ≤ 256) (hc : cntsOk l = true) (h2 : 2 ≤ (leaves l).length) : asked7_t l := by
  unfold asked7_t
  refine ⟨h0, hc, fun _ => ⟨by omega, fun h => ?_, fun _ => rfl⟩, fun h => by simp at h⟩
  rw [nz_leaves (cn_iff.1 hc).nn] at h
  simp only [decide_eq_true_eq] at h
  omega
theorem dep7_v (l : List Int) (h0 : l.length ≤ 256) (hc : cntsOk l = true) (h2 : 2 ≤ (leaves l).length) : dep7_t l := by
  have hc := cn_iff.1 hc
  have hm : (leaves l).length ≤ 256 := by rw [leaves_len]; have := syms_len_le l; omega
  unfold dep7_t
  refine ⟨by omega, by omega, by omega, by omega, ⟨0, by rw [nle]; omega, rfl, rfl, by rw [toNat_cast], rfl⟩, fun i hi => ⟨fun hlt => ?_, fun hge => ?_⟩⟩
  · simp only [decide_eq_true_eq] at hlt
    have hi' : i < l.length := by omega
    have ht := leaves_take hi'
    have hll : (leaves (l.take i)).length ≤ 256 := by
      rw [leaves_len]
      have := syms_len_le (l.take i)
      rw [List.length_take] at this
      omega
    simp only [toNat_cast, gt_iff_lt, decide_eq_true_eq, decide_eq_false_iff_not]
    refine ⟨by omega, by omega, fun hp => ⟨by omega, by omega, by omega, i + 1, by rw [nle]; omega, by show l.length - (i + 1) < l.length - i; omega, by trivial, by rw [wr (by omega) (by omega)]; simp, by trivial, ?_⟩,
      fun hp => ⟨i + 1, by rw [nle]; omega, by show l.length - (i + 1) < l.length - i; omega, by trivial, by rw [wr (by omega) (by omega)]; simp, by trivial, ?_⟩⟩
    · rw [ht, decide_eq_true hp]; rfl
    · rw [ht, decide_eq_false hp, cond_false, List.append_nil]
  · simp only [decide_eq_false_iff_not] at hge
    rw [List.take_of_length_le (by omega)]
    refine ⟨⟨0, by rw [nle]; omega, rfl, rfl, rfl⟩, fun j hj => ?_⟩
    have hj' : j + 1 ≤ (leaves l).length := hj
    have hI := hinv hc.nn hm j hj'
    have hxl := hI.xl
    refine ⟨fun hlt => ?_, fun hge2 => ?_⟩
    · simp only [gt_iff_lt, decide_eq_true_eq] at hlt
      have sp := hI.split (by omega)
      have r1 := rest_len (xs := (runD l j).2) (by omega)
      have r2 := rest_len (xs := restX (runD l j).2) (by omega)
      have hS : (ndS (mrgX (runD l j).2 j)).length ≤ 256 := by
        have hle := (sp.p.flatMap_right ndS).symm.trans hI.perm
        have := hle.length_eq
        rw [posL_len] at this
        simp only [List.flatMap_cons, List.length_append] at this
        rw [mrg_S, List.length_append]
        omega
      have hS' := hS
      rw [mrg_S, List.length_append] at hS'
      have hcnt : ndC (mrgX (runD l j).2 j) ≤ 1099511627776 ∧ 0 ≤ ndC (mrgX (runD l j).2 j) := by
        have h1 := (hinvS hm hI (by omega)).tot
        have h2 := (hinvS hm hI (by omega)).cnt
        have h3 := hc.tot
        simp only [stepD] at h1 h2
        rw [List.map_append, List.sum_append_int] at h1
        simp only [List.map_cons, List.map_nil, List.sum_cons, List.sum_nil] at h1
        have h4 := sum_nn (l := (restX (restX (runD l j).2)).map ndC) (fun x hx => by
          obtain ⟨y, hy, rfl⟩ := List.mem_map.1 hx
          have := h2 y (by simp [hy])
          omega)
        have h5 := h2 (mrgX (runD l j).2 j) (by simp)
        omega
      refine ⟨by omega, by omega, by omega, by omega, by omega, by simp only [List.nil_append]; omega, j, ⟨0, ⟨by omega, Nat.zero_le _⟩, by trivial, rfl, rfl, by trivial, ?_, by trivial, by trivial, ?_⟩, fun k ⟨hk1, hk⟩ => ⟨fun hlt3 => ?_, fun hge3 => ?_⟩⟩
      · rw [mrg_C] at hcnt ⊢
        exact wr (by omega) (by omega)
      · simp [mrg_S]
      · simp only [decide_eq_true_eq] at hlt3
        have hk' : k < (ndS (mrgX (runD l j).2 j)).length := by omega
        simp only [toNat_cast]
        have hmem : (ndS (mrgX (runD l j).2 j)).getD k 0 ∈ ndS (mrgX (runD l j).2 j) := getD_mem' hk'
        have hall : ∀ s ∈ ndS (mrgX (runD l j).2 j), 0 ≤ s ∧ s < l.length := by
          intro s hs
          rw [mrg_S, List.mem_append] at hs
          have := posL_rng (hs.elim (sp.rng _ (sp.p.mem_iff.2 (by simp)) s) (sp.rng _ (sp.p.mem_iff.2 (by simp)) s))
          exact ⟨this.1, this.2.1⟩
        have hsr := hall _ hmem
        have hil := inc_len ((ndS (mrgX (runD l j).2 j)).take k) (runD l j).1
        have hl := hI.len
        have hv : 0 ≤ (incAll (runD l j).1 ((ndS (mrgX (runD l j).2 j)).take k)).getD ((ndS (mrgX (runD l j).2 j)).getD k 0).toNat 0 ∧ (incAll (runD l j).1 ((ndS (mrgX (runD l j).2 j)).take k)).getD ((ndS (mrgX (runD l j).2 j)).getD k 0).toNat 0 ≤ 1000 := by
          rw [inc_get (n := l.length) _ (fun s hs => hall s (List.mem_of_mem_take hs)) _ hl _ (by omega)]
          have hb := hI.bd ((ndS (mrgX (runD l j).2 j)).getD k 0).toNat (by omega)
          have hcl := List.count_le_length (a := (((ndS (mrgX (runD l j).2 j)).getD k 0).toNat : Int)) (l := (ndS (mrgX (runD l j).2 j)).take k)
          rw [List.length_take] at hcl
          omega
        refine ⟨by omega, by omega, by omega, by omega, by omega, by omega, by omega, by omega, by omega, k + 1, ⟨by omega, by omega⟩, by show (ndS (mrgX (runD l j).2 j)).length - (k + 1) < (ndS (mrgX (runD l j).2 j)).length - k; omega, by trivial, by rw [wr (by omega) (by omega)]; simp, ?_, by trivial, by trivial, by trivial, by trivial, by trivial⟩
        rw [take_succ _ 0 hk', inc_snoc, wr (by omega) (by omega)]
      · simp only [decide_eq_false_iff_not] at hge3
        rw [List.take_of_length_le (by omega)]
        refine ⟨by omega, j + 1, by rw [nle]; omega, by show (leaves l).length - (j + 1) < (leaves l).length - j; omega, by rw [wr (by omega) (by omega)]; simp, by trivial, by trivial⟩
    · simp only [gt_iff_lt, decide_eq_false_iff_not] at hge2
      have : j = (leaves l).length - 1 := by omega
      rw [this]
      rfl
theorem halfP_len (l : List Int) {i : Nat} (h : i ≤ l.length) : (halfP l i).length = l.length := by
  simp only [halfP, List.length_append, List.length_map, List.length_take, List.length_drop]; omega
theorem halfP_get {l : List Int} {i : Nat} (h : i < l.length) : (halfP l i).getD i 0 = l.getD i 0 := by
  unfold halfP
  rw [List.getD_eq_getElem?_getD, List.getElem?_append_right (by simp; omega), List.getElem?_drop]
  simp only [List.length_map, List.length_take, Nat.min_eq_left (Nat.le_of_lt h)]
  rw [Nat.sub_self, Nat.add_zero]; rfl
theorem halfP_succ {l : List Int} {i : Nat} (h : i < l.length) : halfP l (i + 1) = (halfP l i).set i (halfC (l.getD i 0)) := by
  unfold halfP
  rw [take_succ l 0 h, List.map_append, List.set_append_right _ _ (by simp; omega)]
  simp only [List.length_map, List.length_take, Nat.min_eq_left (Nat.le_of_lt h), Nat.sub_self]
  rw [List.drop_eq_getElem_cons h, List.set_cons_zero, List.append_assoc]
  rfl
theorem okD_snoc {l : List Int} {i : Nat} (h : i < l.length) : okD (l.take (i + 1)) = (okD (l.take i) && decide (l.getD i 0 ≤ 11)) := all_snoc h
theorem okD_take {l : List Int} {i : Nat} (h : okD (l.take i) = false) : okD (l.take (i + 1)) = false := by
  by_cases hi : i < l.length
  · rw [okD_snoc hi, h]; rfl
  · rw [List.take_of_length_le (by omega)] at h ⊢; exact h
theorem of7_v (l : List Int) (h0 : l.length ≤ 256) (hv : (leaves l).length ≤ 40) (hc : cntsOk l = true) (h2 : 2 ≤ (leaves l).length) : of7_t l := by
  have hcn := cn_iff.1 hc
  unfold of7_t
  refine ⟨by omega, hc, h2, fun h => by simp at h, fun _ => ⟨by omega, ⟨0, ⟨by simp [halfs], rfl⟩, rfl⟩, fun j ⟨hj1, hj2⟩ => ?_⟩⟩
  obtain ⟨hh1, hh2, hh3⟩ := halfs_ok hcn j
  have hnn := sum_nn hh1.nn
  have htot := hcn.tot
  have hm : (leaves (halfs l j)).length ≤ 256 := by rw [leaves_len]; have := syms_len_le (halfs l j); omega
  have ho := (depL_ok hh1.nn hm (by omega)).1
  have hlen := ho.len
  have hsn : 0 ≤ sumL (halfs l j) := hnn
  refine ⟨by omega, cn_iff.2 hh1, by omega, j, ⟨0, ⟨⟨hj1, hj2⟩, Nat.zero_le _⟩, rfl, rfl, rfl, rfl⟩, fun i ⟨_, hi⟩ => ⟨fun hlt => ⟨fun hq => ?_, fun hq => ?_⟩, fun hge => ⟨fun hq => ?_, fun hq => ?_⟩⟩⟩
  · simp only [decide_eq_true_eq] at hlt
    have hq' : okD ((depL (halfs l j)).take i) = false := by simpa using hq
    exact ⟨i + 1, ⟨⟨hj1, hj2⟩, by omega⟩, by show (depL (halfs l j)).length - (i + 1) < (depL (halfs l j)).length - i; omega, by rw [okD_take hq']; rfl, by rw [wr (by omega) (by omega)]; simp, by trivial, by trivial⟩
  · simp only [decide_eq_true_eq] at hlt
    have hq' : okD ((depL (halfs l j)).take i) = true := by simpa using hq
    rw [toNat_cast]
    refine ⟨by omega, by omega, by omega, i + 1, ⟨⟨hj1, hj2⟩, by omega⟩, by show (depL (halfs l j)).length - (i + 1) < (depL (halfs l j)).length - i; omega, ?_, by rw [wr (by omega) (by omega)]; simp, by trivial, by trivial⟩
    rw [okD_snoc (by omega), hq', Bool.true_and]
    by_cases h : (depL (halfs l j)).getD i 0 ≤ 11
    · rw [decide_eq_true h, decide_eq_false (by omega)]; rfl
    · rw [decide_eq_false h, decide_eq_true (by omega)]; rfl
  · simp only [decide_eq_false_iff_not] at hge
    rw [List.take_of_length_le (by omega)] at hq
    have hq' : okD (depL (halfs l j)) = true := by simpa using hq
    refine ⟨rfl, ?_⟩
    obtain ⟨f, hf⟩ : ∃ f, (sumL l).toNat + 1 - j = f + 1 := ⟨(sumL l).toNat - j, by omega⟩
    rw [← hj2, hf, ofF, hq']
    rfl
  · simp only [decide_eq_false_iff_not] at hge
    rw [List.take_of_length_le (by omega)] at hq
    have hq' : okD (depL (halfs l j)) = false := by simpa using hq
    refine ⟨j, ⟨0, ⟨⟨hj1, hj2⟩, hq', Nat.zero_le _⟩, rfl, rfl⟩, fun k ⟨_, _, hk⟩ => ?_⟩
    have hkl := halfP_len (halfs l j) hk
    refine ⟨fun hlt2 => ?_, fun hge2 => ?_⟩
    · simp only [decide_eq_true_eq] at hlt2
      have hk' : k < (halfs l j).length := by omega
      rw [toNat_cast, halfP_get hk']
      have hx := hh1.nn _ (getD_mem' hk')
      have hx2 : (halfs l j).getD k 0 ≤ sumL (halfs l j) := by
        have b1 := sum_take_le hh1.nn k
        have b2 := sum_take_le hh1.nn (k + 1)
        have hs := sum_snoc ((halfs l j).take k) ((halfs l j).getD k 0)
        rw [← take_succ _ 0 hk'] at hs
        omega
      have hb := half_bd hx
      refine ⟨by omega, by omega, by omega, by omega, by omega, by omega, by omega, k + 1, ⟨⟨hj1, hj2⟩, hq', by omega⟩, by show (halfs l j).length - (k + 1) < (halfs l j).length - k; omega, by rw [wr (by omega) (by omega)]; simp, ?_⟩
      rw [halfP_succ hk', wr (n := (halfs l j).getD k 0 + 1) (by omega) (by omega)]
      have e : ((halfs l j).getD k 0 + 1).tdiv 2 = halfC ((halfs l j).getD k 0) := rfl
      rw [e, wr (by omega) (by omega)]
    · simp only [decide_eq_false_iff_not] at hge2
      have hk2 : k = (halfs l j).length := by omega
      subst hk2
      have hlt := not_ok hh1 (by omega) (by omega) (by omega) hq'
      refine ⟨j + 1, ⟨by show ((j + 1 : Nat) : Int) + sumL ((halfs l j).map halfC) ≤ sumL l; push_cast; omega, ?_⟩, ?_, ?_⟩
      · obtain ⟨f, hf⟩ : ∃ f, (sumL l).toNat + 1 - j = f + 1 := ⟨(sumL l).toNat - j, by omega⟩
        rw [← hj2, hf, ofF, hq', cond_false, show (sumL l).toNat + 1 - (j + 1) = f by omega]
        rfl
      · show (sumL l).toNat - (j + 1) < (sumL l).toNat - j
        have := sum_nn (half_cn hh1).nn
        unfold sumL at *
        omega
      · simp [halfP, halfs]
theorem bd7_sound : Sound Try.prog 109 sBd.ctr := sBd.sound (by kernel_rfl) sBd_enc fun n hc => by
  exact satG AllOk.nil mixed Try.func109 (bd7_e n) (bd7_v n)
theorem bef7_sound : Sound Try.prog 94 sBef.ctr := sBef.sound (by kernel_rfl) sBef_enc fun ⟨c1, f1, n1, s1, c2, f2, n2, s2⟩ hc => by
  exact satG AllOk.nil mixed Try.func94 (bef7_e c1 f1 n1 s1 c2 f2 n2 s2) (bef7_v c1 f1 n1 s1 c2 f2 n2 s2)
theorem nz7_sound : Sound Try.prog 71 sNz.ctr := sNz.sound (by kernel_rfl) sNz_enc fun l hc => by
  have h0 := hc _ (.head _)
  exact satG AllOk.nil mixed Try.func71 (nz7_e l) (nz7_v l h0)
theorem md7_sound : Sound Try.prog 28 sMd.ctr := sMd.sound (by kernel_rfl) sMd_enc fun ⟨x, m⟩ hc => by
  have h0 := hc _ (.head _)
  exact satG AllOk.nil mixed Try.func28 (md7_e x m) (md7_v x m h0)
theorem at7_sound : Sound Try.prog 44 sAtL.ctr := sAtL.sound (by kernel_rfl) sAtL_enc fun ⟨l, i⟩ hc => by
  exact satG AllOk.nil mixed Try.func44 (at7_e l i) (at7_v l i)
theorem G7a_ok : AllOk Try.prog G7a := .cons bd7_sound <| .cons bef7_sound <| .cons nz7_sound <| AllOk.nil
theorem plus7_sound : Sound Try.prog 105 sPlus.ctr := sPlus.sound (by kernel_rfl) sPlus_enc fun ⟨a, b⟩ hc => by
  have h0 := hc _ (.head _)
  have h1 := hc _ (.tail _ (.head _))
  have h2 := hc _ (.tail _ (.tail _ (.head _)))
  exact satG G7a_ok mixed Try.func105 (plus7_e a b) (plus7_v a b h0 h1 h2)
theorem first7_sound : Sound Try.prog 83 sFirst.ctr := sFirst.sound (by kernel_rfl) sFirst_enc fun xs hc => by
  have h0 := hc _ (.head _)
  have h1 := hc _ (.tail _ (.head _))
  exact satG G7a_ok mixed Try.func83 (first7_e xs) (first7_v xs h0 h1)
theorem G7b_ok : AllOk Try.prog G7b := .cons plus7_sound <| .cons first7_sound <| G7a_ok
theorem sum7_sound : Sound Try.prog 93 sSum.ctr := sSum.sound (by kernel_rfl) sSum_enc fun l hc => by
  have h0 := hc _ (.head _)
  have h1 := hc _ (.tail _ (.head _))
  exact satG G7b_ok mixed Try.func93 (sum7_e l) (sum7_v l h0 h1)
theorem dep7_sound : Sound Try.prog 62 sDepths.ctr := sDepths.sound (by kernel_rfl) sDepths_enc fun l hc => by
  have h0 := hc _ (.head _)
  have h1 := hc _ (.tail _ (.head _))
  have h2 := hc _ (.tail _ (.tail _ (.head _)))
  exact satG G7b_ok mixed Try.func62 (dep7_e l) (dep7_v l h0 h1 h2)
theorem G7c_ok : AllOk Try.prog G7c := .cons sum7_sound <| .cons dep7_sound <| G7b_ok
theorem chkd7_sound : Sound Try.prog 82 sChkd.ctr := sChkd.sound (by kernel_rfl) sChkd_enc fun l hc => by
  have h0 := hc _ (.head _)
  have h1 := hc _ (.tail _ (.head _))
  exact satG G7c_ok mixed Try.func82 (chkd7_e l) (chkd7_v l h0 h1)
theorem G7d_ok : AllOk Try.prog G7d := .cons chkd7_sound <| G7c_ok
theorem asked7_sound : Sound Try.prog 61 sAsked.ctr := sAsked.sound (by kernel_rfl) sAsked_enc fun l hc => by
  have h0 := hc _ (.head _)
  have h1 := hc _ (.tail _ (.head _))
  have h2 := hc _ (.tail _ (.tail _ (.head _)))
  exact satG G7d_ok mixed Try.func61 (asked7_e l) (asked7_v l h0 h1 h2)
theorem G7e_ok : AllOk Try.prog G7e := .cons asked7_sound <| G7d_ok
theorem of7_sound : Sound Try.prog 45 sOf.ctr := sOf.sound (by kernel_rfl) sOf_enc fun l hc => by
  have h0 := hc _ (.head _)
  have h1 := hc _ (.tail _ (.head _))
  have h2 := hc _ (.tail _ (.tail _ (.head _)))
  have h3 := hc _ (.tail _ (.tail _ (.tail _ (.head _))))
  exact satG G7e_ok mixed Try.func45 (of7_e l) (of7_v l h0 h1 h2 h3)
end Go.Proofs.Ytmdbliacaeokaaa
namespace Go.Proofs.Ytmdbliacaeokaaa
open Go Go.RowKit
set_option linter.unusedVariables false
set_option linter.unusedSimpArgs false
set_option maxRecDepth 100000
theorem room_long {l : List Int} (h : 256 < l.length) : roomE l = 6 ∧ roomV l = 0 := by
  have : roomE l = 6 := by unfold roomE; rw [decide_eq_true h]; rfl
  exact ⟨this, by unfold roomV; rw [this]; rfl⟩
theorem room_bad {l : List Int} (h : l.length ≤ 256) (hb : l.all okLen = false) : roomE l = 2 ∧ roomV l = 0 := by
  have : roomE l = 2 := by unfold roomE; rw [decide_eq_false (by omega), hb]; rfl
  exact ⟨this, by unfold roomV; rw [this]; rfl⟩
theorem room_ok {l : List Int} (h : l.length ≤ 256) (hb : l.all okLen = true) : roomE l = 0 ∧ roomV l = roomL l := by
  have : roomE l = 0 := by unfold roomE; rw [decide_eq_false (by omega), hb]; rfl
  exact ⟨this, by unfold roomV; rw [this]; rfl⟩
structure RmS (l : List Int) (i : Nat) : Prop where
  x0 : 0 ≤ l.getD i 0
  x1 : l.getD i 0 ≤ 11
  ok : (l.take (i + 1)).all okLen = true
  s0 : 0 ≤ sumM 11 (l.take i)
  s1 : sumM 11 (l.take i) ≤ 524288
  pos : 0 < l.getD i 0 → sumM 11 (l.take (i + 1)) = sumM 11 (l.take i) + 2 ^ (11 - l.getD i 0).toNat
  not : ¬ 0 < l.getD i 0 → sumM 11 (l.take (i + 1)) = sumM 11 (l.take i)
  pw : 0 < l.getD i 0 → (2 : Int) ^ (11 - l.getD i 0).toNat ≤ 2048
theorem rm_step {l : List Int} {i : Nat} (hi : i < l.length) (hL : l.length ≤ 256) (hal : (l.take i).all okLen = true) (h0 : ¬ l.getD i 0 < 0) (h1 : ¬ l.getD i 0 > 11) : RmS l i := by
  have hs := sumM_bd 11 (by omega) (by omega) (l.take i)
  rw [List.length_take] at hs
  refine ⟨by omega, by omega, by rw [all_snoc hi, hal, okLen_iff.2 ⟨by omega, by omega⟩]; rfl, hs.1, by omega, fun h => ?_, fun h => ?_, fun h => ?_⟩
  · rw [take_succ l 0 hi, sumM_snoc, decide_eq_true h, cond_true]
  · rw [take_succ l 0 hi, sumM_snoc, decide_eq_false h, cond_false]
  · exact pow_mono (show (11 - l.getD i 0).toNat ≤ 11 by omega)
theorem roomU_v (l : List Int) (h0 : l.length ≤ 4294967296) : roomU_t l := by
  unfold roomU_t
  simp only [gt_iff_lt, decide_eq_true_eq, decide_eq_false_iff_not]
  refine ⟨fun h => ?_, fun h => ⟨⟨0, ⟨by omega, by omega, rfl⟩, rfl, (by first | rfl | trivial), (by first | rfl | trivial), (by first | rfl | trivial)⟩, fun i ⟨hi, hL, hal⟩ => ⟨fun hlt => ?_, fun hge => ?_⟩⟩⟩
  · obtain ⟨e1, e2⟩ := room_long (l := l) (by omega)
    exact ⟨e2.symm, e1.symm⟩
  · have hi' : i < l.length := by omega
    simp only [toNat_cast]
    have bad : okLen (l.getD i 0) = false → 0 = roomV l ∧ 2 = roomE l := fun hb => by
      obtain ⟨e1, e2⟩ := room_bad hL (all_of_bad hi' hb)
      exact ⟨e2.symm, e1.symm⟩
    refine ⟨by omega, by omega, fun h1 => bad (okLen_false.2 (.inl h1)), fun h1 => ⟨fun h2 => bad (okLen_false.2 (.inr h2)), fun h2 => ?_⟩⟩
    have st := rm_step hi' hL hal h1 (by omega)
    have x0 := st.x0
    have x1 := st.x1
    have s0 := st.s0
    have s1 := st.s1
    refine ⟨fun hp => ?_, fun hp => ⟨i + 1, ⟨by omega, hL, st.ok⟩, by show l.length - (i + 1) < l.length - i; omega, (st.not hp).symm, (by first | rfl | trivial), (by first | rfl | trivial), by rw [wr (by omega) (by omega)]; push_cast; rfl⟩⟩
    have pw := st.pw hp
    have pp := pow_pos' (11 - l.getD i 0).toNat
    rw [wr (n := 11 - l.getD i 0) (by omega) (by omega), shl1 (by omega) (by omega)]
    refine ⟨by omega, i + 1, ⟨by omega, hL, st.ok⟩, by show l.length - (i + 1) < l.length - i; omega, ?_, (by first | rfl | trivial), (by first | rfl | trivial), by rw [wr (by omega) (by omega)]; push_cast; rfl⟩
    rw [st.pos hp, wr (by omega) (by omega)]
  · have : i = l.length := by omega
    subst this
    rw [List.take_length] at hal ⊢
    obtain ⟨e1, e2⟩ := room_ok hL hal
    exact ⟨e2.symm, e1.symm⟩
theorem codedU_v (l : List Int) (h0 : l.length ≤ 4294967296) : codedU_t l := by
  unfold codedU_t
  simp only [gt_iff_lt, decide_eq_true_eq, decide_eq_false_iff_not]
  refine ⟨⟨0, Nat.zero_le _, rfl, rfl, (by first | rfl | trivial), (by first | rfl | trivial), (by first | rfl | trivial)⟩, fun i hi => ⟨fun hlt => ?_, fun hge => ?_⟩⟩
  · rw [nle] at hi
    have hi' : i < l.length := by omega
    simp only [toNat_cast]
    have hc := cntP_bd (l.take i)
    rw [List.length_take] at hc
    have hg := (gmx_ge (l.take i)).1
    refine ⟨by omega, by omega, fun hp => ⟨i + 1, by rw [nle]; omega, by show l.length - (i + 1) < l.length - i; omega, ?_, ?_, (by first | rfl | trivial), (by first | rfl | trivial), by rw [wr (by omega) (by omega)]; push_cast; rfl⟩, fun hp => ⟨i + 1, by rw [nle]; omega, by show l.length - (i + 1) < l.length - i; omega, ?_, ?_, (by first | rfl | trivial), (by first | rfl | trivial), by rw [wr (by omega) (by omega)]; push_cast; rfl⟩⟩
    · rw [take_succ l 0 hi', cntP_snoc, decide_eq_true hp, cond_true, wr (by omega) (by omega)]
    · rw [take_succ l 0 hi', gmx_snoc]
    · rw [take_succ l 0 hi', cntP_snoc, decide_eq_false hp, cond_false]
    · rw [take_succ l 0 hi', gmx_snoc]
      omega
  · rw [nle] at hi
    have : i = l.length := by omega
    subst this
    rw [List.take_length]
    exact ⟨rfl, rfl⟩
theorem lchk_err {l : List Int} (h : roomE l ≠ 0) : lchk l = roomE l := by
  unfold lchk
  rw [beq_eq_false_iff_ne.2 h]
  rfl
theorem lchk_few {l : List Int} (h : roomE l = 0) (h2 : cntP l < 2) : lchk l = 7 := by
  unfold lchk
  rw [h, decide_eq_true h2]
  rfl
theorem lchk_sum {l : List Int} (h : roomE l = 0) (h2 : ¬ cntP l < 2) : lchk l = cond (roomL l == 2048) 0 21 := by
  unfold lchk
  rw [h, decide_eq_false h2]
  rfl
theorem roomE_0 {l : List Int} (h : roomE l = 0) : l.length ≤ 256 ∧ l.all okLen = true := by
  unfold roomE at h
  by_cases h1 : 256 < l.length
  · rw [decide_eq_true h1] at h; cases h
  · cases h2 : l.all okLen
    · rw [decide_eq_false h1, h2] at h; cases h
    · exact ⟨by omega, rfl⟩
theorem lchkU_v (l : List Int) (h0 : l.length ≤ 4294967296) : lchkU_t l := by
  unfold lchkU_t
  refine ⟨h0, h0, fun h => (lchk_err (nz h)).symm, fun h => ⟨fun h2 => ?_, fun h2 => ?_⟩⟩
  · exact (lchk_few (eq0 h) (by simpa using h2)).symm
  · have e := eq0 h
    obtain ⟨e1, e2⟩ := roomE_0 e
    rw [lchk_sum e (by simpa using h2), (room_ok e1 e2).2]
    refine ⟨fun h3 => ?_, fun h3 => ?_⟩
    · rw [show (roomL l == 2048) = false by simpa using h3]; rfl
    · rw [show (roomL l == 2048) = true by simpa using h3]; rfl
theorem nuU_v (l : List Int) (n : Int) (h0 : l.length ≤ 4294967296) : nuU_t l n := by
  unfold nuU_t nuE
  refine ⟨h0, ?_⟩
  simp only [gt_iff_lt]
  cases h1 : lchk l == 0 <;> cases h2 : decide (n < 0) <;> cases h3 : decide (131072 < n) <;> simp
  all_goals simpa using h1
end Go.Proofs.Ytmdbliacaeokaaa
namespace Go.Proofs.Ytmdbliacaeokaaa
open Go Go.RowKit
set_option linter.unusedVariables false
set_option linter.unusedSimpArgs false
set_option maxRecDepth 100000
theorem look_app {c : Ctr} : ∀ (A B : List (Nat × Ctr)) (f : Nat), lookupL (A ++ B) f = some c → lookupL A f = some c ∨ lookupL B f = some c
  | [], _, _, h => .inr h
  | (i, y) :: r, B, f, h => by
    simp only [List.cons_append, lookupL] at h ⊢
    cases hb : Nat.beq f i
    · rw [hb] at h; exact look_app r B f h
    · rw [hb] at h; exact .inl h
theorem all_app {P : Program} {A B : List (Nat × Ctr)} (hA : AllOk P A) (hB : AllOk P B) : AllOk P (A ++ B) := fun f c h => (look_app A B f h).elim (hA f c) (hB f c)
theorem mapB (s : ByteArray) : List.map (fun (b : UInt8) => (↑(UInt8.toNat b) : Int)) s.data.toList = bytesN s := rfl
theorem byte_at {s : ByteArray} {i : Nat} (h : i < s.size) : (bytesN s).getD i 0 = byI s i ∧ 0 ≤ byI s i ∧ byI s i < 256 := by
  have hr := byI_rng s i
  refine ⟨?_, hr.1, hr.2⟩
  unfold byI bytesN
  have hl : i < s.data.toList.length := h
  rw [List.getD_eq_getElem?_getD, List.getD_eq_getElem?_getD, List.getElem?_map, List.getElem?_eq_getElem hl]
  rfl
theorem any_snoc {f : Int → Bool} {l : List Int} {i : Nat} (h : i < l.length) : (l.take (i + 1)).any f = ((l.take i).any f || f (l.getD i 0)) := by
  rw [take_succ l 0 h, List.any_append]
  simp
theorem any_here {f : Int → Bool} {l : List Int} {i : Nat} (h : i < l.length) (hf : f (l.getD i 0) = true) : l.any f = true := List.any_eq_true.2 ⟨_, getD_mem' h, hf⟩
theorem noC_big {l : List Int} {x : Int} (h : (l.length : Int) ≤ x) : noC l x = true := by unfold noC; rw [decide_eq_true h]; rfl
theorem noC_zero {l : List Int} {x : Int} (h : l.getD x.toNat 0 = 0) : noC l x = true := by
  unfold noC
  rw [h]
  simp
theorem noC_not {l : List Int} {x : Int} (h : ¬ (l.length : Int) ≤ x) (h2 : l.getD x.toNat 0 ≠ 0) : noC l x = false := by
  unfold noC
  rw [decide_eq_false h, beq_eq_false_iff_ne.2 h2]
  rfl
theorem tx_err {l : List Int} {s : ByteArray} (h : lchk l ≠ 0) : txE l s = lchk l := by
  unfold txE
  rw [beq_eq_false_iff_ne.2 h]
  rfl
theorem tx_long {l : List Int} {s : ByteArray} (h : lchk l = 0) (h2 : 131072 < s.size) : txE l s = 4 := by
  unfold txE
  rw [h, decide_eq_true h2]
  rfl
theorem tx_any {l : List Int} {s : ByteArray} (h : lchk l = 0) (h2 : ¬ 131072 < s.size) : txE l s = cond ((bytesN s).any (noC l)) 7 0 := by
  unfold txE
  rw [h, decide_eq_false h2]
  rfl
theorem txU_v (l : List Int) (s : ByteArray) (h0 : l.length ≤ 4294967296) (h1 : s.size ≤ 4294967296) : txU_t l s := by
  unfold txU_t
  rw [mapB]
  have hl := bytes_len s
  simp only [gt_iff_lt, ge_iff_le, decide_eq_true_eq, decide_eq_false_iff_not]
  refine ⟨h0, fun h => (tx_err (nz h)).symm, fun h => ⟨fun h2 => (tx_long (eq0 h) (by omega)).symm, fun h2 => ⟨by omega, ⟨0, ⟨by omega, eq0 h, by omega, rfl⟩, (by first | rfl | trivial), (by first | rfl | trivial), (by first | rfl | trivial), (by first | rfl | trivial)⟩, fun i ⟨hi, hc, hs, hal⟩ => ⟨fun hlt => ?_, fun hge => ?_⟩⟩⟩⟩
  · have hi' : i < (bytesN s).length := by omega
    obtain ⟨b1, b2, b3⟩ := byte_at (s := s) (i := i) (by omega)
    simp only [toNat_cast]
    have bad : noC l ((bytesN s).getD i 0) = true → 7 = txE l s := fun hb => by
      rw [tx_any hc (by omega), any_here hi' hb]; rfl
    rw [wr (n := (bytesN s).getD i 0) (by omega) (by omega)]
    refine ⟨by omega, by omega, hi', fun h3 => bad (noC_big h3), fun h3 => ⟨by omega, by omega, fun h4 => bad (noC_zero (by simpa using h4)), fun h4 => ⟨i + 1, ⟨by omega, hc, hs, ?_⟩, by show s.size - (i + 1) < s.size - i; omega, (by first | rfl | trivial), (by first | rfl | trivial), by rw [wr (by omega) (by omega)]; push_cast; rfl, (by first | rfl | trivial)⟩⟩⟩
    rw [any_snoc hi', hal, noC_not h3 (by simpa using h4)]
    rfl
  · rw [tx_any hc (by omega)]
    rw [List.take_of_length_le (by omega)] at hal
    rw [hal]
    rfl
theorem tx_ok {l : List Int} {s : ByteArray} (h : txE l s = 0) : chk l = 0 ∧ lchk l = 0 ∧ s.size ≤ 131072 ∧ txOk l s := by
  by_cases h1 : lchk l = 0
  · by_cases h2 : 131072 < s.size
    · rw [tx_long h1 h2] at h; cases h
    · rw [tx_any h1 h2] at h
      cases h3 : (bytesN s).any (noC l)
      · have hg := good (lchk_0 h1)
        refine ⟨lchk_0 h1, h1, by omega, fun x hx => ?_⟩
        have hr := bytesN_rng s x hx
        have hn := List.any_eq_false.1 h3 x hx
        have hn' : noC l x = false := by simpa using hn
        unfold noC at hn'
        rw [Bool.or_eq_false_iff] at hn'
        have e1 : ¬ (l.length : Int) ≤ x := by simpa using hn'.1
        have e2 : l.getD x.toNat 0 ≠ 0 := by simpa using hn'.2
        have e3 := hg.lens _ (getD_mem' (show x.toNat < l.length by omega))
        exact ⟨hr.1, by omega, by omega⟩
      · rw [h3] at h; cases h
  · rw [tx_err h1] at h
    exact absurd h h1
theorem ok_tx {l : List Int} {s : ByteArray} (h : lchk l = 0) (hs : s.size ≤ 131072) (ht : txOk l s) : txE l s = 0 := by
  rw [tx_any h (by omega)]
  have : (bytesN s).any (noC l) = false := by
    rw [List.any_eq_false]
    intro x hx
    obtain ⟨a, b, c⟩ := ht x hx
    rw [noC_not (by omega) (by omega)]
    simp
  rw [this]
  rfl
theorem codL_len (l : List Int) : (codL l).length = l.length := by unfold codL; rw [codF_len]; simp
theorem cdRow {l : List Int} {i : Nat} : ((codL l).getD i []).getD 0 0 = hB l i ∧ ((codL l).getD i []).getD 1 0 = hV l i := ⟨rfl, rfl⟩
theorem tabsU_v (l : List Int) (hc : chk l = 0) : tabsU_t l := by
  unfold tabsU_t
  have hg := good hc
  have hL := hg.len
  refine ⟨fun _ => ⟨by omega, ⟨0, Nat.zero_le _, (by first | rfl | trivial), (by first | rfl | trivial), fun _ => rfl, fun _ => rfl, (by first | rfl | trivial)⟩, fun i hi => ⟨fun hlt => ?_, fun hge => ?_⟩⟩, fun hn => absurd hc hn⟩
  · rw [nle] at hi
    rw [codL_len] at hlt ⊢
    simp only [gt_iff_lt, decide_eq_true_eq, decide_eq_false_iff_not, toNat_cast] at hlt ⊢
    rw [(cdRow (l := l) (i := i)).1, (cdRow (l := l) (i := i)).2]
    have e8 : IntKind.wrap IntKind.u8 (i : Int) = (i : Int) := by rw [wrap8]; omega
    rw [e8]
    refine ⟨by omega, by omega, by omega, fun hp => ⟨i + 1, by rw [nle]; omega, by show l.length - (i + 1) < l.length - i; omega, (by first | rfl | trivial), by rw [wr (by omega) (by omega)]; push_cast; rfl, fun q => ?_, fun q => ?_, (by first | rfl | trivial)⟩, fun hp => ⟨i + 1, by rw [nle]; omega, by show l.length - (i + 1) < l.length - i; omega, (by first | rfl | trivial), by rw [wr (by omega) (by omega)]; push_cast; rfl, fun q => ?_, fun q => ?_, (by first | rfl | trivial)⟩⟩
    · show _ = mget (cond (decide (0 < hB l i)) (([(i : Int)], [hB l i, hV l i]) :: mC l i) (mC l i)) q
      rw [decide_eq_true hp]; rfl
    · show _ = mget (cond (decide (0 < hB l i)) (([hB l i, hV l i], [(i : Int)]) :: mB l i) (mB l i)) q
      rw [decide_eq_true hp]; rfl
    · show _ = mget (cond (decide (0 < hB l i)) (([(i : Int)], [hB l i, hV l i]) :: mC l i) (mC l i)) q
      rw [decide_eq_false hp]; rfl
    · show _ = mget (cond (decide (0 < hB l i)) (([hB l i, hV l i], [(i : Int)]) :: mB l i) (mB l i)) q
      rw [decide_eq_false hp]; rfl
  · rw [nle] at hi
    rw [codL_len] at hge
    have : i = l.length := by
      have : ¬ ((i : Int) < l.length) := by simpa using hge
      omega
    subst this
    exact ⟨fun _ => rfl, fun _ => rfl⟩
theorem bkuU_v (xs : List Int) : bkuU_t xs := rfl
theorem itBkU_len (l : List Int) : (itBkU l).length = l.length := by unfold itBkU; rw [List.length_map, List.length_range]
theorem itBkU_at {l : List Int} {k : Nat} (h : k < l.length) : (itBkU l)[k]? = some [.int .i64 (nthI l k : Nat), .int .u8 (nthS l k)] := by
  unfold itBkU
  rw [List.getElem?_map, List.getElem?_range h]
  rfl
theorem bkuI_v (l : List Int) (h0 : l.length ≤ 4294967296) (l0 : Nat) : bkuI_t l l0 := by
  unfold bkuI_t
  refine ⟨(), 0, Nat.zero_le _, rfl, ⟨(by first | rfl | trivial), by rw [wr (by omega) (by omega)]; simp, (by first | rfl | trivial)⟩, fun k hk => ⟨fun hlt => ?_, fun hge => ?_⟩⟩
  · have hlt : (l.length : Int) - 1 - k ≥ 0 := by simpa using hlt
    have e1 : ((l.length : Int) - 1 - k).toNat = nthI l k := by unfold nthI; omega
    have e2 : (l.length : Int) - 1 - k = (nthI l k : Nat) := by unfold nthI; omega
    rw [nle] at hk
    refine ⟨by omega, by omega, by omega, (by first | rfl | trivial), ?_, ⟨k + 1, by rw [nle]; omega, rfl, by rw [Nat.sub_eq, Nat.sub_eq]; omega, (by first | rfl | trivial), ?_, (by first | rfl | trivial)⟩, trivial⟩
    · rw [e1, e2]
      exact itBkU_at (by omega)
    · rw [wr (by omega) (by omega)]; push_cast; omega
  · have hge : ¬ (l.length : Int) - 1 - k ≥ 0 := by simpa using hge
    rw [nle] at hk
    rw [itBkU_len]
    omega
theorem bku_isat (l : List Int) (h0 : l.length ≤ 4294967296) : ISat Try.prog 77 [.p 400016 0 0] [(400016, .cells 46 [.o 400008]), (400008, .row 5 (.ints .u8 l))] (itBkU l) := by
  have h0 : ISat Try.prog 77 [.p 0 0 0] [(0, .cells 46 [.o 1]), (1, .row 5 (.ints .u8 l))] (itBkU l) :=
    isat_of_vcI (Ωi := fun l0 => oBkuF l0 l) AllOk.nil mixed Try.func77 (by kernel_rfl) fun l0 => by
      have := bkuI_v l h0 l0
      rw [bkuI_e] at this
      exact this
  exact h0.ren (fun i => 400016 - 8 * i) (by
    intro a b ha hb e
    simp at ha hb
    rcases ha with rfl | rfl <;> rcases hb with rfl | rfl <;> simp_all) rfl rfl
theorem mval_C {l : List Int} (hg : Good l) {x : Int} (h : codd l x) : mval 2 (mC l l.length) [x] = [hB l x.toNat, hV l x.toNat] := by
  obtain ⟨h0, h1, h2⟩ := h
  have hb := codd_bd hg ⟨h0, h1, h2⟩
  have b0 := hb.b0
  have : (decide (0 ≤ x) && decide (x < (l.length : Nat)) && decide (0 < hB l x.toNat)) = true := by
    simp only [Bool.and_eq_true, decide_eq_true_eq]
    omega
  unfold mval
  rw [mC_get, this]
  rfl
theorem v_u64 {x : Int} {n : Nat} (h0 : 0 ≤ x) (h1 : x < 2 ^ n) (hn : n ≤ 32) : IntKind.wrap IntKind.u64 x = x := wru h0 (by have := pow_mono hn; simp at this; omega)
theorem hw_S (l : List Int) (s : ByteArray) (k : Nat) : hwS l s (k + 1) = wS (hwS l s k) (hwP l s k) (hwN l s k) (hB l (byK s k).toNat) (hV l (byK s k).toNat) := rfl
theorem hw_P (l : List Int) (s : ByteArray) (k : Nat) : hwP l s (k + 1) = wP (hwP l s k) (hwN l s k) (hB l (byK s k).toNat) (hV l (byK s k).toNat) := rfl
theorem hw_N (l : List Int) (s : ByteArray) (k : Nat) : hwN l s (k + 1) = wN (hwN l s k) (hB l (byK s k).toNat) := rfl
theorem wrU_v (l : List Int) (s : ByteArray) (hc : chk l = 0) (hx : txE l s = 0) (hs : s.size ≤ 100000) : wrU_t l s := by
  unfold wrU_t
  rw [mapB]
  have hl := bytes_len s
  have hg := good hc
  obtain ⟨_, _, _, ht⟩ := tx_ok hx
  have hit : (List.map (fun (k : Nat) => [Value.int IntKind.i64 (↑(nthI (bytesN s) k) : Int), Value.int IntKind.u8 (nthS (bytesN s) k)]) (List.range (List.length (bytesN s)))) = itBkU (bytesN s) := rfl
  rw [hit, itBkU_len]
  have ho := hw_ok hg ht s.size (Nat.le_refl _)
  refine ⟨hc, by omega, by omega, 0, bku_isat (bytesN s) (by omega), (by first | rfl | trivial), trivial, ⟨rfl, rfl, rfl, fun _ => rfl⟩, fun i hi _ => ?_, fun _ => ?_⟩
  · have hi' : i < s.size := by omega
    have hm := mval_C hg (ht _ (byK_mem (s := s) (k := i) hi'))
    have hk := hw_put hg ht hi'
    have h2 := hw_ok hg ht i (by omega)
    have hb := codd_bd hg (ht _ (byK_mem (s := s) (k := i) hi'))
    have hu : IntKind.wrap IntKind.u64 (hV l (byK s i).toNat) = hV l (byK s i).toNat := v_u64 hb.v0 hb.v1 (by have := hb.b1; omega)
    rw [hm]
    simp only [List.headD_cons, List.tail_cons]
    rw [hu]
    have hsz := h2.sz
    refine ⟨itBkU_at (by omega), (by first | rfl | trivial), hk.n0, hk.n7, hk.p0, hk.p1, hk.k0, hk.k1, hk.v0, hk.v1, by omega, trivial, (hw_S l s i).symm, (hw_P l s i).symm, (hw_N l s i).symm, (by intro _; first | rfl | trivial)⟩
  · rw [hl]
    have hsz := ho.sz
    exact ⟨ho.n0, ho.n7, ho.p0, ho.p1, by omega, rfl⟩
end Go.Proofs.Ytmdbliacaeokaaa
namespace Go.Proofs.Ytmdbliacaeokaaa
open Go Go.RowKit
set_option linter.unusedVariables false
set_option linter.unusedSimpArgs false
set_option maxRecDepth 100000
theorem rd_none {l : List Int} {s : ByteArray} {n : Int} {x : RdS} (h : RdP l s n x) (hn : ¬ n ≤ x.out.length) (hd : x.L = 0 ∨ 11 ≤ x.b) : rdX l s n = none := by
  obtain ⟨L, b, v, out⟩ := x
  rw [← h.is]
  simp only at hn hd ⊢
  cases L with
  | zero => simp only [hrd]; rw [decide_eq_false hn]; rfl
  | succ L =>
    have : 11 ≤ b := by omega
    simp only [hrd]
    rw [decide_eq_false hn, decide_eq_true this]
    rfl
theorem rd_done {l : List Int} {s : ByteArray} {n : Int} {x : RdS} (h : RdP l s n x) (hn : n ≤ x.out.length) (h0 : x.L = 0) : rdX l s n = some x.out := by
  obtain ⟨L, b, v, out⟩ := x
  rw [← h.is]
  simp only at hn h0 ⊢
  subst h0
  simp only [hrd]
  rw [decide_eq_true hn]
  rfl
theorem rd_over {l : List Int} {s : ByteArray} {n : Int} {x : RdS} (h : RdP l s n x) (hn : n ≤ x.out.length) (h0 : x.L ≠ 0) : rdX l s n = none := by
  obtain ⟨L, b, v, out⟩ := x
  rw [← h.is]
  simp only at hn h0 ⊢
  cases L with
  | zero => exact absurd rfl h0
  | succ L =>
    simp only [hrd]
    rw [decide_eq_true hn]
    rfl
theorem rd_nn {l : List Int} {s : ByteArray} {n : Int} (h : rdX l s n = none) : ByteArray.empty = rdS l s n ∧ (22 : Int) = rdE l s n := by
  unfold rdS rdE
  rw [h]
  exact ⟨rfl, rfl⟩
theorem rd_ss {l : List Int} {s : ByteArray} {n : Int} {o : List Int} (h : rdX l s n = some o) : strOfNums o = rdS l s n ∧ (0 : Int) = rdE l s n := by
  unfold rdS rdE
  rw [h]
  exact ⟨rfl, rfl⟩
theorem pw_double {b : Int} (h : 0 ≤ b) : (2 : Int) ^ (b + 1).toNat = 2 * 2 ^ b.toNat := by
  rw [show (b + 1).toNat = b.toNat + 1 by omega, Int.pow_succ]
  omega
theorem rd_more {l : List Int} {s : ByteArray} {n : Int} {L : Nat} {b v : Int} {out : List Int} (h : RdP l s n ⟨L + 1, b, v, out⟩) (hn : ¬ n ≤ out.length) (hb : b < 11) (hf : fLc l (b + 1) (2 * v + bkBit s (L : Nat)) < 0) :
    RdP l s n ⟨L, b + 1, 2 * v + bkBit s (L : Nat), out⟩ := by
  obtain ⟨e, le, b0, b1, v0, v1, o1, is⟩ := h
  simp only at le b0 b1 v0 v1 o1 is
  have h01 := bkBit_01 s (L : Nat)
  have h2 := pw_double b0
  have a0 := v0 (by omega)
  have a1 := v1 (by omega)
  refine ⟨e, by show (L : Int) ≤ _; omega, by show 0 ≤ b + 1; omega, by show b + 1 + (L : Int) ≤ _; omega, fun _ => by show 0 ≤ 2 * v + bkBit s L; omega, fun _ => by show 2 * v + bkBit s L < 2 ^ (b + 1).toNat; omega, o1, ?_⟩
  rw [← is]
  simp only [hrd]
  rw [decide_eq_false hn, decide_eq_false (by omega), decide_eq_true hf]
  rfl
theorem rd_code {l : List Int} {s : ByteArray} {n : Int} {L : Nat} {b v : Int} {out : List Int} (h : RdP l s n ⟨L + 1, b, v, out⟩) (hn : ¬ n ≤ out.length) (hb : b < 11) (hf : ¬ fLc l (b + 1) (2 * v + bkBit s (L : Nat)) < 0) :
    RdP l s n ⟨L, 0, 0, out ++ [fLc l (b + 1) (2 * v + bkBit s (L : Nat))]⟩ := by
  obtain ⟨e, le, b0, b1, v0, v1, o1, is⟩ := h
  simp only at le b0 b1 v0 v1 o1 is
  refine ⟨e, by show (L : Int) ≤ _; omega, Int.le_refl 0, by show 0 + (L : Int) ≤ _; omega, fun _ => Int.le_refl 0, fun _ => by show (0 : Int) < 2 ^ (0 : Int).toNat; decide, by simp only [List.length_append, List.length_singleton]; omega, ?_⟩
  rw [← is]
  simp only [hrd]
  rw [decide_eq_false hn, decide_eq_false (by omega), decide_eq_false hf]
  rfl
theorem rd_dead {l : List Int} {s : ByteArray} {n : Int} {L : Nat} {b v w : Int} {out : List Int} (h : RdP l s n ⟨L + 1, b, v, out⟩) (hn : ¬ n ≤ out.length) (hb : 11 ≤ b) : RdP l s n ⟨L, b + 1, w, out⟩ := by
  have hX := rd_none h hn (.inr hb)
  obtain ⟨e, le, b0, b1, v0, v1, o1, is⟩ := h
  simp only at le b0 b1 o1
  refine ⟨e, by show (L : Int) ≤ _; omega, by show 0 ≤ b + 1; omega, by show b + 1 + (L : Int) ≤ _; omega, fun h => by have h' : b + 1 ≤ 11 := h; omega, fun h => by have h' : b + 1 ≤ 11 := h; omega, o1, ?_⟩
  rw [hX]
  cases L with
  | zero => simp only [hrd]; rw [decide_eq_false hn]; rfl
  | succ L => simp only [hrd]; rw [decide_eq_false hn, decide_eq_true (show (11 : Int) ≤ b + 1 by omega)]; rfl
theorem take_bit {s : ByteArray} {L : Nat} (hb : bkE s = 0) (hl : (L : Int) ≤ bkN s) (h0 : L ≠ 0) : tkE s (L : Int) 1 = 0 ∧ tkS s (L : Int) 1 = s ∧ tkL s (L : Int) 1 = ((L - 1 : Nat) : Int) ∧ tkV s (L : Int) 1 = bkBit s ((L - 1 : Nat) : Int) := by
  have h := (tk_iff hb (l := (L : Int)) (n := 1) (by omega) hl (by omega) (by omega)).1 (by omega)
  obtain ⟨v1, v2, v3, _, _⟩ := tk_vals h
  refine ⟨h, v1.symm, by omega, ?_⟩
  rw [← v3]
  show 2 * pkF s L 0 + bkBit s ((L : Int) - 1 - (0 : Nat)) = _
  show 2 * 0 + bkBit s ((L : Int) - 1 - (0 : Nat)) = _
  rw [show (L : Int) - 1 - ((0 : Nat) : Int) = ((L - 1 : Nat) : Int) by omega]
  omega
theorem take_no {s : ByteArray} (hb : bkE s = 0) : tkE s ((0 : Nat) : Int) 1 = 5 := by
  have hr := bkN_rng (bkE_0 hb).1
  exact (tk_iff hb (l := ((0 : Nat) : Int)) (n := 1) (by omega) (by omega) (by omega) (by omega)).2 (by omega)
theorem or1_i64 (a b : Nat) (hb : b < 2) (h : 2 * a + b < 4294967296) : bits .or .i64 ((2 * a : Nat) : Int) (b : Int) = ((2 * a + b : Nat) : Int) := by
  have hx : ∀ a : Nat, a < 4294967296 → (BitVec.ofInt 64 (a : Int)).toNat = a := fun a ha => by
    rw [BitVec.ofInt_natCast, BitVec.toNat_ofNat]; exact Nat.mod_eq_of_lt (by omega)
  show IntKind.i64.wrap ((BitVec.ofInt 64 ((2 * a : Nat) : Int) ||| BitVec.ofInt 64 (b : Int)).toNat : Int) = _
  rw [BitVec.toNat_or, hx _ (by omega), hx _ (by omega)]
  have := Nat.two_pow_add_eq_or_of_lt (i := 1) (b := b) (by omega) a
  rw [Nat.pow_one] at this
  rw [← this]
  exact wr (by omega) (by omega)
theorem next_val {s : ByteArray} {v : Int} {k : Nat} (h0 : 0 ≤ v) (h1 : v < 4096) :
    bits BinOp.or IntKind.i64 (IntKind.wrap IntKind.i64 (v * (2 : Int) ^ min (Int.toNat (1 : Int)) (IntKind.bits IntKind.i64))) (IntKind.wrap IntKind.i64 (bkBit s (k : Nat))) = 2 * v + bkBit s (k : Nat) := by
  have hb := bkBit_01 s (k : Nat)
  have e : min (Int.toNat (1 : Int)) (IntKind.bits IntKind.i64) = 1 := rfl
  rw [e, show (2 : Int) ^ 1 = 2 from rfl, wr (n := v * 2) (by omega) (by omega), wr (n := bkBit s (k : Nat)) (by omega) (by omega)]
  obtain ⟨a, rfl⟩ := Int.eq_ofNat_of_zero_le h0
  obtain ⟨c, hc⟩ := Int.eq_ofNat_of_zero_le (show 0 ≤ bkBit s (k : Nat) by omega)
  rw [hc] at hb ⊢
  have := or1_i64 a c (by omega) (by omega)
  rw [show (a : Int) * 2 = ((2 * a : Nat) : Int) by omega, this]
  omega
theorem rd_start {l : List Int} {s : ByteArray} {n : Int} (hb : bkE s = 0) (hn : 0 ≤ n) : RdP l s n ⟨(bkN s).toNat, 0, 0, []⟩ := by
  have hr := bkN_rng (bkE_0 hb).1
  refine ⟨hb, by show (((bkN s).toNat : Nat) : Int) ≤ _; omega, Int.le_refl 0, by show (0 : Int) + (((bkN s).toNat : Nat) : Int) ≤ _; omega, fun _ => Int.le_refl 0, fun _ => by show (0 : Int) < 2 ^ (0 : Int).toNat; decide, by simpa using hn, ?_⟩
  unfold rdX
  rw [beq0 hb]
  rfl
theorem mhas_B {l : List Int} {b v : Int} (hb : 0 < b) : mhas (mB l l.length) [b, v] = !decide (fLc l b v < 0) := by
  rw [mhas_mget, mB_get l b v hb]
  show _ = !decide (fnd l b v l.length < 0)
  cases decide (fnd l b v l.length < 0) <;> rfl
theorem mval_B {l : List Int} {b v : Int} (hb : 0 < b) (h : ¬ fLc l b v < 0) : mval 1 (mB l l.length) [b, v] = [fLc l b v] := by
  unfold mval
  rw [mB_get l b v hb, decide_eq_false (show ¬ fnd l b v l.length < 0 from h)]
  rfl
theorem rdU_v (l : List Int) (s : ByteArray) (n : Int) (hc : chk l = 0) (h1 : s.size ≤ 4294967296) (hn0 : 0 ≤ n) (hn1 : n ≤ 131072) : rdU_t l s n := by
  unfold rdU_t
  have hg := good hc
  refine ⟨h1, fun h => rd_nn (by unfold rdX; rw [nez0 h]; rfl), fun h => ?_⟩
  have hb := eq0 h
  obtain ⟨k1, k2, k3, k4⟩ := bkE_0 hb
  have hr := bkN_rng k1
  refine ⟨hc, by omega, by omega, by omega, by omega, ⟨_, rd_start hb hn0, (by first | rfl | trivial), k4, by rw [k3]; show bkN s = (((bkN s).toNat : Nat) : Int); omega, fun _ => rfl, rfl, rfl, rfl⟩, fun x hx => ⟨fun hlt => ?_, fun hge => ?_⟩⟩
  · have hlt' : ¬ n ≤ x.out.length := by
      have : (x.out.length : Int) < n := by simpa using hlt
      omega
    clear hlt
    have hlt := hlt'
    refine ⟨h1, fun ht => ?_, fun ht => ?_⟩
    · refine rd_nn (rd_none hx hlt (.inl ?_))
      by_cases h0 : x.L = 0
      · exact h0
      · exact absurd (take_bit hb hx.le h0).1 (nz ht)
    · have h0 : x.L ≠ 0 := fun h0 => by
        have := take_no hb
        rw [h0] at ht
        have := eq0 ht
        omega
      obtain ⟨t1, t2, t3, t4⟩ := take_bit hb hx.le h0
      obtain ⟨L, b, v, out⟩ := x
      simp only at hlt h0 t1 t2 t3 t4 ⊢
      have hb0 := hx.b0
      have hb1 := hx.b1
      have hle := hx.le
      have ho1 := hx.o1
      simp only at hb0 hb1 hle ho1
      have ew : IntKind.wrap IntKind.i64 (b + 1) = b + 1 := wr (by omega) (by omega)
      rw [t2, t3, t4, ew]
      obtain ⟨L', rfl⟩ : ∃ L', L = L' + 1 := ⟨L - 1, by omega⟩
      simp only [Nat.add_sub_cancel]
      rw [mhas_B (by omega)]
      by_cases hd : 11 ≤ b
      · have hf := fLc_11 hg (b := b + 1) (v := bits BinOp.or IntKind.i64 (IntKind.wrap IntKind.i64 (v * (2 : Int) ^ min (Int.toNat (1 : Int)) (IntKind.bits IntKind.i64))) (IntKind.wrap IntKind.i64 (bkBit s (L' : Nat)))) (by omega)
        rw [hf]
        refine ⟨by omega, fun _ => ⟨⟨L', b + 1, _, out⟩, rd_dead hx hlt hd, by show L' < L' + 1; omega, (by first | rfl | trivial), (by first | rfl | trivial), (by first | rfl | trivial), (by intro _; first | rfl | trivial), (by first | rfl | trivial), (by first | rfl | trivial), (by first | rfl | trivial)⟩, fun hh => by simp at hh⟩
      · have hv0 := hx.v0 (by show b ≤ 11; omega)
        have hv1 := hx.v1 (by show b ≤ 11; omega)
        simp only at hv0 hv1
        have hp := pow_mono (show b.toNat ≤ 11 by omega)
        have hv2 : v < 4096 := by
          have : (2 : Int) ^ 11 = 2048 := rfl
          omega
        rw [next_val hv0 hv2]
        refine ⟨by omega, fun hh => ?_, fun hh => ?_⟩
        · have hf : fLc l (b + 1) (2 * v + bkBit s (L' : Nat)) < 0 := by simpa using hh
          exact ⟨⟨L', b + 1, _, out⟩, rd_more hx hlt (by omega) hf, by show L' < L' + 1; omega, (by first | rfl | trivial), (by first | rfl | trivial), (by first | rfl | trivial), (by intro _; first | rfl | trivial), (by first | rfl | trivial), (by first | rfl | trivial), (by first | rfl | trivial)⟩
        · have hf : ¬ fLc l (b + 1) (2 * v + bkBit s (L' : Nat)) < 0 := by simpa using hh
          rw [mval_B (by omega) hf]
          refine ⟨by omega, ⟨L', 0, 0, _⟩, rd_code hx hlt (by omega) hf, by show L' < L' + 1; omega, (by first | rfl | trivial), (by first | rfl | trivial), (by first | rfl | trivial), (by intro _; first | rfl | trivial), (by first | rfl | trivial), (by first | rfl | trivial), (by first | rfl | trivial)⟩
  · have hge : n ≤ x.out.length := by
      have : ¬ (x.out.length : Int) < n := by simpa using hge
      omega
    refine ⟨fun hL => rd_nn (rd_over hx hge ?_), fun hL => rd_ss (rd_done hx hge ?_)⟩
    · have : (x.L : Int) > 0 := by simpa using hL
      omega
    · have : ¬ (x.L : Int) > 0 := by simpa using hL
      omega
end Go.Proofs.Ytmdbliacaeokaaa
namespace Go.Proofs.Ytmdbliacaeokaaa
open Go Go.RowKit
set_option linter.unusedVariables false
set_option linter.unusedSimpArgs false
set_option maxRecDepth 100000
theorem roomU_sound : Sound Try.prog 63 sRoomL.ctr := sRoomL.sound (by kernel_rfl) sRoomL_enc fun l hc => by
  have h0 := hc _ (.head _)
  exact satG AllOk.nil mixed Try.func63 (roomU_e l) (roomU_v l h0)
theorem codedU_sound : Sound Try.prog 64 sCoded.ctr := sCoded.sound (by kernel_rfl) sCoded_enc fun l hc => by
  have h0 := hc _ (.head _)
  exact satG AllOk.nil mixed Try.func64 (codedU_e l) (codedU_v l h0)
theorem bkuU_sound : Sound Try.prog 55 sBackU.ctr := sBackU.sound (by kernel_rfl) sBackU_enc fun xs hc => by
  have h0 := hc _ (.head _)
  exact satG AllOk.nil mixed Try.func55 (bkuU_e xs) (bkuU_v xs)
theorem GUa_ok : AllOk Try.prog GUa := .cons roomU_sound <| .cons codedU_sound <| .cons bkuU_sound <| all_app GBe_ok G6i_ok
theorem lchkU_sound : Sound Try.prog 46 sLchk.ctr := sLchk.sound (by kernel_rfl) sLchk_enc fun l hc => by
  have h0 := hc _ (.head _)
  exact satG GUa_ok mixed Try.func46 (lchkU_e l) (lchkU_v l h0)
theorem tabsU_sound : Sound Try.prog 48 sTabs.ctr := sTabs.sound (by kernel_rfl) sTabs_enc fun l hc => by
  have h0 := hc _ (.head _)
  exact satG GUa_ok mixed Try.func48 (tabsU_e l) (tabsU_v l h0)
theorem GUb_ok : AllOk Try.prog GUb := .cons lchkU_sound <| .cons tabsU_sound <| GUa_ok
theorem txU_sound : Sound Try.prog 37 sTxE.ctr := sTxE.sound (by kernel_rfl) sTxE_enc fun ⟨l, s⟩ hc => by
  have h0 := hc _ (.head _)
  have h1 := hc _ (.tail _ (.head _))
  exact satG GUb_ok mixed Try.func37 (txU_e l s) (txU_v l s h0 h1)
theorem nuU_sound : Sound Try.prog 29 sNuE.ctr := sNuE.sound (by kernel_rfl) sNuE_enc fun ⟨l, n⟩ hc => by
  have h0 := hc _ (.head _)
  exact satG GUb_ok mixed Try.func29 (nuU_e l n) (nuU_v l n h0)
theorem wrU_sound : Sound Try.prog 38 sWrH.ctr := sWrH.sound (by kernel_rfl) sWrH_enc fun ⟨l, s⟩ hc => by
  have h0 := hc _ (.head _)
  have h1 := hc _ (.tail _ (.head _))
  have h2 := hc _ (.tail _ (.tail _ (.head _)))
  exact satG GUb_ok mixed Try.func38 (wrU_e l s) (wrU_v l s h0 h1 h2)
theorem rdU_sound : Sound Try.prog 30 sRdH.ctr := sRdH.sound (by kernel_rfl) sRdH_enc fun ⟨l, b, n⟩ hc => by
  have h0 := hc _ (.head _)
  have h1 := hc _ (.tail _ (.head _))
  have h2 := hc _ (.tail _ (.tail _ (.head _)))
  have h3 := hc _ (.tail _ (.tail _ (.tail _ (.head _))))
  exact satG GUb_ok mixed Try.func30 (rdU_e l b n) (rdU_v l b n h0 h1 h2 h3)
theorem GUc_ok : AllOk Try.prog GUc := .cons txU_sound <| .cons nuU_sound <| .cons wrU_sound <| .cons rdU_sound <| GUb_ok
end Go.Proofs.Ytmdbliacaeokaaa
namespace Go.Proofs.Ytmdbliacaeokaaa
open Go Go.RowKit
set_option linter.unusedVariables false
set_option maxRecDepth 100000
def DvOk (s : ByteArray) (p : List Int) : Prop := p.length = 4 ∧ ∀ i, i < 4 → 0 ≤ p.getD i 0 ∧ p.getD i 0 ≤ (rsS s p i).size
def q4P (b : ByteArray) : Nat → List Int
  | 0 => [0, 0, 0, b.size - 6]
  | 1 => [z4 b 0, 0, 0, b.size - 6 - z4 b 0]
  | 2 => [z4 b 0, z4 b 1, 0, b.size - 6 - z4 b 0 - z4 b 1]
  | _ => q4 b
def lit2P (n : Int) : Nat → List Int
  | 0 => []
  | 1 => [n % 256]
  | _ => [n % 256, n / 256 % 256]
def lit2N (n : Int) : Nat → Int
  | 0 => n
  | 1 => n / 256
  | _ => n / 256 / 256
def le16P (b : ByteArray) (i : Nat) : Nat → Int
  | 0 => 0
  | 1 => byI b i
  | _ => le16 b i
end Go.Proofs.Ytmdbliacaeokaaa
namespace Go.Proofs.Ytmdbliacaeokaaa
open Go Go.RowKit
set_option linter.unusedVariables false
set_option linter.unusedSimpArgs false
set_option maxRecDepth 100000
theorem bytes_inj {a b : ByteArray} (h : bytesN a = bytesN b) : a = b := by rw [← str_bytes a, ← str_bytes b, h]
theorem ext_bytes (s : ByteArray) (a b : Nat) : bytesN (s.extract a b) = ((bytesN s).drop a).take (b - a) := by
  unfold bytesN
  rw [ByteArray.data_extract, Array.toList_extract, List.extract_eq_take_drop, List.map_take, List.map_drop]
theorem ext_size {s : ByteArray} {a b : Nat} (h : b ≤ s.size) : (s.extract a b).size = b - a := by
  rw [ByteArray.size_extract, Nat.min_eq_left h]
def offP (p : List Int) : Nat → Nat
  | 0 => 0
  | i + 1 => offP p i + (p.getD i 0).toNat
theorem rs_bytes (s : ByteArray) (p : List Int) : ∀ i, bytesN (rsS s p i) = (bytesN s).drop (offP p i)
  | 0 => rfl
  | i + 1 => by
    have hl := bytes_len (rsS s p i)
    show bytesN ((rsS s p i).extract (p.getD i 0).toNat (rsS s p i).size) = _
    rw [ext_bytes, List.take_of_length_le (by rw [List.length_drop, hl]; omega), rs_bytes s p i, List.drop_drop]
    rfl
theorem rs_size (s : ByteArray) (p : List Int) (i : Nat) : (rsS s p i).size = s.size - offP p i := by
  have := congrArg List.length (rs_bytes s p i)
  rw [bytes_len, List.length_drop, bytes_len] at this
  exact this
theorem pc_bytes (s : ByteArray) (p : List Int) (i : Nat) : bytesN (pcS s p i) = ((bytesN s).drop (offP p i)).take (p.getD i 0).toNat := by
  unfold pcS
  rw [ext_bytes, rs_bytes, List.drop_zero, Nat.sub_zero]
theorem pc_le (s : ByteArray) (p : List Int) (i : Nat) : (pcS s p i).size ≤ s.size := by
  have := congrArg List.length (pc_bytes s p i)
  rw [bytes_len, List.length_take, List.length_drop, bytes_len] at this
  omega
theorem pc_ok {l : List Int} {s : ByteArray} (h : txOk l s) (p : List Int) (i : Nat) : txOk l (pcS s p i) := fun x hx => by
  rw [pc_bytes] at hx
  exact h x (List.mem_of_mem_drop (List.mem_of_mem_take hx))
structure PtS (n : Int) : Prop where
  k0 : 0 ≤ ptK n
  k1 : 3 * ptK n ≤ n
  k2 : ptK n ≤ n
theorem pt_ok {n : Int} (h : 6 ≤ n) : PtS n := by
  constructor <;> (show _ ≤ _; unfold ptK; omega)
theorem ptL_0 (n : Int) : (ptL n).getD 0 0 = ptK n := rfl
theorem ptL_1 (n : Int) : (ptL n).getD 1 0 = ptK n := rfl
theorem ptL_2 (n : Int) : (ptL n).getD 2 0 = ptK n := rfl
theorem ptL_3 (n : Int) : (ptL n).getD 3 0 = n - 3 * ptK n := rfl
theorem ptL_bd {n : Int} (h : 6 ≤ n) {i : Nat} (hi : i < 4) : 0 ≤ (ptL n).getD i 0 ∧ (ptL n).getD i 0 ≤ n := by
  obtain ⟨k0, k1, k2⟩ := pt_ok h
  have : i = 0 ∨ i = 1 ∨ i = 2 ∨ i = 3 := by omega
  rcases this with rfl | rfl | rfl | rfl
  · rw [ptL_0]; omega
  · rw [ptL_1]; omega
  · rw [ptL_2]; omega
  · rw [ptL_3]; omega
theorem off4 (p : List Int) : offP p 1 = (p.getD 0 0).toNat ∧ offP p 2 = (p.getD 0 0).toNat + (p.getD 1 0).toNat ∧ offP p 3 = (p.getD 0 0).toNat + (p.getD 1 0).toNat + (p.getD 2 0).toNat ∧
    offP p 4 = (p.getD 0 0).toNat + (p.getD 1 0).toNat + (p.getD 2 0).toNat + (p.getD 3 0).toNat := by
  refine ⟨?_, ?_, ?_, ?_⟩ <;> simp only [offP] <;> omega
theorem offP_le {p : List Int} : ∀ {i j : Nat}, i ≤ j → offP p i ≤ offP p j := by
  intro i j h
  induction j with
  | zero => have : i = 0 := by omega
            subst this; exact Nat.le_refl _
  | succ j ih =>
    by_cases e : i = j + 1
    · subst e; exact Nat.le_refl _
    · have := ih (by omega)
      simp only [offP]
      omega
theorem dv_of {s : ByteArray} {p : List Int} (h4 : p.length = 4) (h0 : ∀ i, i < 4 → 0 ≤ p.getD i 0) (hs : offP p 4 = s.size) : DvOk s p := by
  refine ⟨h4, fun i hi => ⟨h0 i hi, ?_⟩⟩
  have := offP_le (p := p) (show i + 1 ≤ 4 by omega)
  simp only [offP] at this hs
  have h := h0 i hi
  rw [rs_size]
  omega
theorem pt_off {n : Int} (h : 6 ≤ n) : offP (ptL n) 4 = n.toNat := by
  obtain ⟨k0, k1, k2⟩ := pt_ok h
  rw [(off4 (ptL n)).2.2.2, ptL_0, ptL_1, ptL_2, ptL_3]
  omega
theorem pt_dv {s : ByteArray} (h : 6 ≤ s.size) : DvOk s (ptL s.size) :=
  dv_of rfl (fun i hi => (ptL_bd (by omega) hi).1) (by rw [pt_off (by omega)]; omega)
theorem jn_snoc (xs : List ByteArray) (x : ByteArray) : jn (xs ++ [x]) = jn xs ++ x := by unfold jn; rw [List.foldl_append]; rfl
theorem jn_two (a b : ByteArray) : jn [a, b] = a ++ b := by
  show ByteArray.empty ++ a ++ b = a ++ b
  rw [ByteArray.empty_append]
theorem strs_succ (l : List Int) (s : ByteArray) (i : Nat) : strs4 l s (i + 1) = strs4 l s i ++ [stH l s i] := by
  unfold strs4
  rw [List.range_succ, List.map_append]
  rfl
theorem heads_succ (l : List Int) (s : ByteArray) {i : Nat} (h : i < 3) : heads4 l s (i + 1) = heads4 l s i ++ [lit2 (stH l s i).size] := by
  unfold heads4
  rw [Nat.min_eq_left (show i + 1 ≤ 3 by omega), Nat.min_eq_left (show i ≤ 3 by omega), List.range_succ, List.map_append]
  rfl
theorem heads_all (l : List Int) (s : ByteArray) {i : Nat} (h : 3 ≤ i) : heads4 l s (i + 1) = heads4 l s i := by
  unfold heads4
  rw [Nat.min_eq_right (show 3 ≤ i + 1 by omega), Nat.min_eq_right h]
theorem strs_len (l : List Int) (s : ByteArray) (i : Nat) : (strs4 l s i).length = i := by unfold strs4; rw [List.length_map, List.length_range]
theorem heads_len (l : List Int) (s : ByteArray) (i : Nat) : (heads4 l s i).length ≤ 3 := by unfold heads4; rw [List.length_map, List.length_range]; omega
theorem wr_size {l : List Int} {s : ByteArray} (hg : Good l) (ht : txOk l s) (hs : s.size ≤ 40000) : (wrH l s).size ≤ 55001 := by
  obtain ⟨w1, w2, w3, w4⟩ := wrt_ok hg ht
  obtain ⟨i0, i1, i2, i3⟩ := vLn_rng hg (bytesN s) ht
  have := bytes_len s
  rw [w4]
  omega
theorem st_size {l : List Int} {s : ByteArray} (hg : Good l) (ht : txOk l s) (hs : s.size ≤ 40000) (i : Nat) : (stH l s i).size ≤ 55001 :=
  wr_size hg (pc_ok ht _ i) (Nat.le_trans (pc_le _ _ _) hs)
theorem lit2_size (n : Int) : (lit2 n).size = 2 := by unfold lit2; rw [strOfNums_size]; rfl
theorem strs_size {l : List Int} {s : ByteArray} (hg : Good l) (ht : txOk l s) (hs : s.size ≤ 40000) : ∀ i, (jn (strs4 l s i)).size ≤ i * 55001
  | 0 => Nat.zero_le _
  | i + 1 => by
    have ih := strs_size hg ht hs i
    have := st_size hg ht hs i
    rw [strs_succ, jn_snoc, app_size]
    omega
theorem heads_size (l : List Int) (s : ByteArray) : ∀ i, (jn (heads4 l s i)).size ≤ 2 * i
  | 0 => by show (0 : Nat) ≤ _; omega
  | i + 1 => by
    have ih := heads_size l s i
    by_cases h : i < 3
    · rw [heads_succ l s h, jn_snoc, app_size, lit2_size]
      omega
    · rw [heads_all l s (by omega)]
      omega
theorem w4E_err {l : List Int} {s : ByteArray} (h : txE l s ≠ 0) : w4E l s = txE l s ∧ w4O l s = ByteArray.empty := by
  have : w4E l s = txE l s := by unfold w4E; rw [beq_eq_false_iff_ne.2 h]; rfl
  exact ⟨this, by unfold w4O; rw [this, beq_eq_false_iff_ne.2 h]; rfl⟩
theorem w4E_few {l : List Int} {s : ByteArray} (h : txE l s = 0) (h2 : s.size < 6) : w4E l s = 20 ∧ w4O l s = ByteArray.empty := by
  have : w4E l s = 20 := by unfold w4E; rw [h, decide_eq_true h2]; rfl
  exact ⟨this, by unfold w4O; rw [this]; rfl⟩
theorem w4E_ok {l : List Int} {s : ByteArray} (h : txE l s = 0) (h2 : ¬ s.size < 6) : w4E l s = 0 ∧ w4O l s = w4H l s := by
  have : w4E l s = 0 := by unfold w4E; rw [h, decide_eq_false h2]; rfl
  exact ⟨this, by unfold w4O; rw [this]; rfl⟩
theorem w4E_0 {l : List Int} {s : ByteArray} (h : w4E l s = 0) : txE l s = 0 ∧ ¬ s.size < 6 ∧ w4O l s = w4H l s := by
  by_cases h1 : txE l s = 0
  · by_cases h2 : s.size < 6
    · rw [(w4E_few h1 h2).1] at h; cases h
    · exact ⟨h1, h2, (w4E_ok h1 h2).2⟩
  · rw [(w4E_err h1).1] at h
    exact absurd h h1
end Go.Proofs.Ytmdbliacaeokaaa
namespace Go.Proofs.Ytmdbliacaeokaaa
open Go Go.RowKit
set_option linter.unusedVariables false
set_option linter.unusedSimpArgs false
set_option maxRecDepth 100000
def sFld2 : Spec where
  ι := Int
  dec l H := match l with
    | [.v (.int .u64 n), .v (.int .i64 2)] => some (n, [])
    | _ => none
  args := fun n => [.v (.int .u64 n), .v (.int .i64 2)]
  pre := fun n => [⟨0 ≤ n, inferInstance⟩, ⟨n < 65536, inferInstance⟩]
  out := fun n => .leaf (.v (.string (lit2 n))) []
theorem sFld2_enc : ∀ l H n i ls, sFld2.dec l H = some (i, ls) → l = renL (rho ls n) (sFld2.args i) ∧ givenHp H ls = renH (rho ls n) (sFld2.hp i) := by
  intro l H n i ls h
  simp only [sFld2] at h
  repeat' split at h
  all_goals first
    | (cases h; done)
    | (cases h; exact ⟨rfl, rfl⟩)
def sLit2 : Spec where
  ι := Int
  dec l H := match l with
    | [.v (.int .u64 n), .v (.int .i64 2)] => some (n, [])
    | _ => none
  args := fun n => [.v (.int .u64 n), .v (.int .i64 2)]
  pre := fun n => [⟨0 ≤ n, inferInstance⟩, ⟨n < 65536, inferInstance⟩]
  out := fun n => .leaf (.tu [.v (.string (lit2 n)), .v (.int .i64 0)]) []
theorem sLit2_enc : ∀ l H n i ls, sLit2.dec l H = some (i, ls) → l = renL (rho ls n) (sLit2.args i) ∧ givenHp H ls = renH (rho ls n) (sLit2.hp i) := by
  intro l H n i ls h
  simp only [sLit2] at h
  repeat' split at h
  all_goals first
    | (cases h; done)
    | (cases h; exact ⟨rfl, rfl⟩)
def sRd16 : Spec where
  ι := ByteArray × Int
  dec l H := match l with
    | [.v (.string b), .v (.int .i64 i), .v (.int .i64 2)] => some ((b, i), [])
    | _ => none
  args := fun (b, i) => [.v (.string b), .v (.int .i64 i), .v (.int .i64 2)]
  pre := fun (b, i) => [⟨0 ≤ i, inferInstance⟩, ⟨i + 2 ≤ b.size, inferInstance⟩, ⟨b.size ≤ 4294967296, inferInstance⟩]
  out := fun (b, i) => .leaf (.tu [.v (.int .u64 (le16 b i.toNat)), .v (.int .i64 (i + 2)), .ag [.v (.int .i64 0), .v (.int .i64 0)]]) []
theorem sRd16_enc : ∀ l H n i ls, sRd16.dec l H = some (i, ls) → l = renL (rho ls n) (sRd16.args i) ∧ givenHp H ls = renH (rho ls n) (sRd16.hp i) := by
  intro l H n i ls h
  simp only [sRd16] at h
  repeat' split at h
  all_goals first
    | (cases h; done)
    | (cases h; exact ⟨rfl, rfl⟩)
def sPtL : Spec where
  ι := Int
  dec l H := match l with
    | [.v (.int .i64 n)] => some (n, [])
    | _ => none
  args := fun n => [.v (.int .i64 n)]
  pre := fun n => [⟨0 ≤ n, inferInstance⟩, ⟨n ≤ 131072, inferInstance⟩]
  out := fun n => .leaf (.av (.ints .i64 (ptL n))) []
theorem sPtL_enc : ∀ l H n i ls, sPtL.dec l H = some (i, ls) → l = renL (rho ls n) (sPtL.args i) ∧ givenHp H ls = renH (rho ls n) (sPtL.hp i) := by
  intro l H n i ls h
  simp only [sPtL] at h
  repeat' split at h
  all_goals first
    | (cases h; done)
    | (cases h; exact ⟨rfl, rfl⟩)
def sPtV : Spec where
  ι := Int
  dec l H := match l with
    | [.v (.int .i64 n)] => some (n, [])
    | _ => none
  args := fun n => [.v (.int .i64 n)]
  out := fun n => .leaf (.tu [.av (.ints .i64 (ptV n)), .v (.int .i64 (ptE n))]) []
theorem sPtV_enc : ∀ l H n i ls, sPtV.dec l H = some (i, ls) → l = renL (rho ls n) (sPtV.args i) ∧ givenHp H ls = renH (rho ls n) (sPtV.hp i) := by
  intro l H n i ls h
  simp only [sPtV] at h
  repeat' split at h
  all_goals first
    | (cases h; done)
    | (cases h; exact ⟨rfl, rfl⟩)
def sDivd : Spec where
  ι := ByteArray × List Int
  dec l H := match l with
    | [.v (.string s), .av (.ints .i64 p)] => some ((s, p), [])
    | _ => none
  args := fun (s, p) => [.v (.string s), .av (.ints .i64 p)]
  pre := fun (s, p) => [⟨p.length = 4, inferInstance⟩]
  out := fun (s, p) => .leaf (.fn (.func 54) [] [.p 2000 0 0, .p 2001 0 0]) [(2000, .arr 36 (.ints .i64 p)), (2001, .cells 9 [.v (.string s)])]
theorem sDivd_enc : ∀ l H n i ls, sDivd.dec l H = some (i, ls) → l = renL (rho ls n) (sDivd.args i) ∧ givenHp H ls = renH (rho ls n) (sDivd.hp i) := by
  intro l H n i ls h
  simp only [sDivd] at h
  repeat' split at h
  all_goals first
    | (cases h; done)
    | (cases h; exact ⟨rfl, rfl⟩)
def sJoin : Spec where
  ι := List ByteArray
  dec l H := match l with
    | [.dat (.strs xs)] => some (xs, [])
    | _ => none
  args := fun xs => [.dat (.strs xs)]
  pre := fun xs => [⟨xs.length ≤ 4294967296, inferInstance⟩, ⟨(jn xs).size ≤ 4294967296, inferInstance⟩]
  out := fun xs => .leaf (.v (.string (jn xs))) []
theorem sJoin_enc : ∀ l H n i ls, sJoin.dec l H = some (i, ls) → l = renL (rho ls n) (sJoin.args i) ∧ givenHp H ls = renH (rho ls n) (sJoin.hp i) := by
  intro l H n i ls h
  simp only [sJoin] at h
  repeat' split at h
  all_goals first
    | (cases h; done)
    | (cases h; exact ⟨rfl, rfl⟩)
def sWrO : Spec where
  ι := List Int × ByteArray
  dec l H := match l with
    | [.dat (.ints .i64 l), .v (.string s)] => some ((l, s), [])
    | _ => none
  args := fun (l, s) => [.dat (.ints .i64 l), .v (.string s)]
  pre := fun (l, s) => [⟨l.length ≤ 4294967296, inferInstance⟩, ⟨s.size ≤ 40000, inferInstance⟩]
  out := fun (l, s) => .leaf (.tu [.v (.string (wrO l s)), .v (.int .i64 (txE l s))]) []
theorem sWrO_enc : ∀ l H n i ls, sWrO.dec l H = some (i, ls) → l = renL (rho ls n) (sWrO.args i) ∧ givenHp H ls = renH (rho ls n) (sWrO.hp i) := by
  intro l H n i ls h
  simp only [sWrO] at h
  repeat' split at h
  all_goals first
    | (cases h; done)
    | (cases h; exact ⟨rfl, rfl⟩)
def sSzO : Spec where
  ι := List Int × ByteArray
  dec l H := match l with
    | [.dat (.ints .i64 l), .v (.string s)] => some ((l, s), [])
    | _ => none
  args := fun (l, s) => [.dat (.ints .i64 l), .v (.string s)]
  pre := fun (l, s) => [⟨l.length ≤ 4294967296, inferInstance⟩, ⟨s.size ≤ 40000, inferInstance⟩]
  out := fun (l, s) => .leaf (.tu [.v (.int .i64 (szO l s)), .v (.int .i64 (txE l s))]) []
theorem sSzO_enc : ∀ l H n i ls, sSzO.dec l H = some (i, ls) → l = renL (rho ls n) (sSzO.args i) ∧ givenHp H ls = renH (rho ls n) (sSzO.hp i) := by
  intro l H n i ls h
  simp only [sSzO] at h
  repeat' split at h
  all_goals first
    | (cases h; done)
    | (cases h; exact ⟨rfl, rfl⟩)
def sRdO : Spec where
  ι := List Int × ByteArray × Int
  dec l H := match l with
    | [.dat (.ints .i64 l), .v (.string b), .v (.int .i64 n)] => some ((l, b, n), [])
    | _ => none
  args := fun (l, b, n) => [.dat (.ints .i64 l), .v (.string b), .v (.int .i64 n)]
  pre := fun (l, b, n) => [⟨l.length ≤ 4294967296, inferInstance⟩, ⟨b.size ≤ 4294967296, inferInstance⟩]
  out := fun (l, b, n) => .leaf (.tu [.v (.string (rO l b n)), .v (.int .i64 (rE l b n))]) []
theorem sRdO_enc : ∀ l H n i ls, sRdO.dec l H = some (i, ls) → l = renL (rho ls n) (sRdO.args i) ∧ givenHp H ls = renH (rho ls n) (sRdO.hp i) := by
  intro l H n i ls h
  simp only [sRdO] at h
  repeat' split at h
  all_goals first
    | (cases h; done)
    | (cases h; exact ⟨rfl, rfl⟩)
def sW4 : Spec where
  ι := List Int × ByteArray
  dec l H := match l with
    | [.dat (.ints .i64 l), .v (.string s)] => some ((l, s), [])
    | _ => none
  args := fun (l, s) => [.dat (.ints .i64 l), .v (.string s)]
  pre := fun (l, s) => [⟨l.length ≤ 4294967296, inferInstance⟩, ⟨s.size ≤ 40000, inferInstance⟩]
  out := fun (l, s) => .leaf (.tu [.v (.string (w4O l s)), .v (.int .i64 (w4E l s))]) []
theorem sW4_enc : ∀ l H n i ls, sW4.dec l H = some (i, ls) → l = renL (rho ls n) (sW4.args i) ∧ givenHp H ls = renH (rho ls n) (sW4.hp i) := by
  intro l H n i ls h
  simp only [sW4] at h
  repeat' split at h
  all_goals first
    | (cases h; done)
    | (cases h; exact ⟨rfl, rfl⟩)
def sR4 : Spec where
  ι := List Int × ByteArray × Int
  dec l H := match l with
    | [.dat (.ints .i64 l), .v (.string b), .v (.int .i64 n)] => some ((l, b, n), [])
    | _ => none
  args := fun (l, b, n) => [.dat (.ints .i64 l), .v (.string b), .v (.int .i64 n)]
  pre := fun (l, b, n) => [⟨l.length ≤ 4294967296, inferInstance⟩, ⟨b.size ≤ 4294967296, inferInstance⟩]
  out := fun (l, b, n) => .leaf (.tu [.v (.string (r4O l b n)), .v (.int .i64 (r4P l b n)), .v (.int .i64 (r4E l b n))]) []
theorem sR4_enc : ∀ l H n i ls, sR4.dec l H = some (i, ls) → l = renL (rho ls n) (sR4.args i) ∧ givenHp H ls = renH (rho ls n) (sR4.hp i) := by
  intro l H n i ls h
  simp only [sR4] at h
  repeat' split at h
  all_goals first
    | (cases h; done)
    | (cases h; exact ⟨rfl, rfl⟩)
def oFld2 (n : Int) : LoopInv := { ι := Nat, p := fun i => i ≤ 2, tm := fun i => [(0, .v (.int .u64 (lit2N n i))), (5, .o 5000), (7, .v (.int .i64 2)), (8, .v (.int .i64 (i : Nat)))], hp := fun i => [(5000, .row 5 (.ints .u8 (lit2P n i)))], μ := fun i => 2 - i }
def oRd16 (b : ByteArray) (i : Int) : LoopInv := { ι := Nat, p := fun k => k ≤ 2, tm := fun k => [(0, .v (.string b)), (1, .v (.int .i64 i)), (2, .v (.int .i64 2)), (6, .v (.int .u64 (le16P b i.toNat k))), (8, .p 5000 0 0), (38, .v (.int .i64 2)), (39, .v (.int .i64 (k : Nat)))], hp := fun _ => [(5000, .cells 51 [.v (.int .i64 0), .v (.int .i64 0)])], μ := fun k => 2 - k }
def oJoin (xs : List ByteArray) : LoopInv := { ι := Nat, p := fun i => i ≤ xs.length, tm := fun i => [(3, .v (.string (jn (xs.take i)))), (6, .dat (.strs xs)), (7, .v (.int .i64 xs.length)), (8, .v (.int .i64 (i : Nat)))], hp := fun _ => [], μ := fun i => xs.length - i }
def oDvI (l0 : Nat) (s : ByteArray) (p : List Int) : LoopInvI := { ι := Nat, p := fun i => i ≤ 4, tm := fun i => [(0, .v (.func (.yield l0) #[] #[])), (1, .p 0 0 0), (2, .p 1 0 0), (6, .av (.ints .i64 p)), (7, .v (.int .i64 (i : Nat)))], hp := fun i => [(0, .arr 36 (.ints .i64 p)), (1, .cells 9 [.v (.string (rsS s p i))])], μ := fun i => 4 - i, y := fun i => i }
def oDvF (l0 : Nat) (s : ByteArray) (p : List Int) : Nat → Option LoopFamI := fun k => cond (Nat.beq k 0) (some ⟨Unit, fun _ => oDvI l0 s p⟩) none
def rW4 (l : List Int) (s : ByteArray) : RngInv := { f := 54, cap := [.p 800032 0 0, .p 800033 0 0], hpI := [(800032, .arr 36 (.ints .i64 (ptL s.size))), (800033, .cells 9 [.v (.string s)])], xs := itDv s (ptL s.size), it := fun i => [.int .i64 (i : Nat), .string (pcS s (ptL s.size) i)], tm := [(2, .p 1000 0 0), (4, .p 1001 0 0), (5, .p 1002 0 0), (7, .p 1003 0 0), (8, .p 1004 0 0)], hp := fun i => [(1000, .cells 22 [.dat (.ints .i64 l)]), (1001, .cells 9 [.v (.string ByteArray.empty)]), (1002, .cells 26 [.v (.int .i64 0)]), (1003, .cells 60 [.o 5005]), (1004, .cells 60 [.o 5006]), (5005, .row 9 (.strs (heads4 l s i))), (5006, .row 9 (.strs (strs4 l s i)))] }
def oW4C (l : List Int) (s : ByteArray) : LoopInv := { ι := Unit, p := fun _ => True, tm := fun _ => [(1, .v (.string s)), (2, .p 5000 0 0), (4, .p 5001 0 0), (5, .p 5002 0 0), (6, .v (.int .i64 (w4E l s)))], hp := fun _ => [(5000, .cells 22 [.dat (.ints .i64 l)]), (5001, .cells 9 [.v (.string ByteArray.empty)]), (5002, .cells 26 [.v (.int .i64 0)])], μ := fun _ => 0 }
def oW4 (l : List Int) (s : ByteArray) : Nat → Option LoopFam := fun k => cond (Nat.beq k 0) (some (.rng Nat fun _ => rW4 l s)) (cond (Nat.beq k 1004) (some (.one (oW4C l s))) none)
def hpR4 (l : List Int) : List (Nat × SBlk) := [(1000, .cells 22 [.dat (.ints .i64 l)]), (1001, .cells 9 [.v (.string ByteArray.empty)]), (1002, .cells 3 [.v (.int .i64 0)]), (1003, .cells 26 [.v (.int .i64 0)])]
def oR4A (l : List Int) (b : ByteArray) (n : Int) : LoopInv := { ι := Nat, p := fun i => i ≤ 3 ∧ nuE l n = 0 ∧ 6 ≤ n ∧ 6 ≤ b.size, tm := fun i => [(1, .v (.string b)), (2, .v (.int .i64 n)), (3, .p 1000 0 0), (6, .p 1001 0 0), (7, .p 1002 0 0), (8, .p 1003 0 0), (10, .p 1004 0 0), (40, .v (.int .i64 (i : Nat)))], hp := fun i => hpR4 l ++ [(1004, .arr 36 (.ints .i64 (q4P b i)))], μ := fun i => 3 - i }
def rR4 (l : List Int) (b : ByteArray) (n : Int) : RngInv := { f := 54, cap := [.p 2200024 0 0, .p 2200025 0 0], hpI := [(2200024, .arr 36 (.ints .i64 (q4 b))), (2200025, .cells 9 [.v (.string (b.extract 6 b.size))])], xs := itDv (b.extract 6 b.size) (q4 b), it := fun i => [.int .i64 (i : Nat), .string (p4 b i)], tm := [(3, .p 1000 0 0), (6, .p 1001 0 0), (7, .p 1002 0 0), (8, .p 1003 0 0), (15, .p 1004 0 0), (16, .p 1005 0 0), (17, .p 1006 0 0)], hp := fun i => hpR4 l ++ [(1004, .cells 9 [.v (.string (out4 l b n i))]), (1005, .cells 3 [.v (.int .i64 (at4 b i))]), (1006, .arr 36 (.ints .i64 (ptL n)))], p := fun i => ok4 l b n i = true }
def oR4 (l : List Int) (b : ByteArray) (n : Int) : Nat → Option LoopFam := fun k => cond (Nat.beq k 0) (some (.one (oR4A l b n))) (cond (Nat.beq k 1) (some (.rng Nat fun _ => rR4 l b n)) none)
def GUd : List (Nat × Ctr) := (60, sFld2.ctr) :: (33, sRd16.ctr) :: (34, sPtL.ctr) :: (35, sDivd.ctr) :: (42, sJoin.ctr) :: (16, sWrO.ctr) :: (20, sSzO.ctr) :: (11, sRdO.ctr) :: GUc
def GUe : List (Nat × Ctr) := (41, sLit2.ctr) :: (22, sPtV.ctr) :: (13, sR4.ctr) :: GUd
def GUf : List (Nat × Ctr) := (18, sW4.ctr) :: GUe
end Go.Proofs.Ytmdbliacaeokaaa
namespace Go.Proofs.Ytmdbliacaeokaaa
open Go Go.RowKit
set_option linter.unusedVariables false
set_option maxRecDepth 100000
def fldJ_t (n : Int) : Prop :=
 (0 : Int) ≤ (0 : Int) ∧
 (0 : Int) ≤ (8 : Int) ∧
 (↑((1 : Nat)) : Int) * (8 : Int) ≤ (281474976710656 : Int) ∧
 (8 : Int) ≤ (9223372036854775807 : Int) ∧
 (∃ (x0 : Nat), Nat.le x0 (2 : Nat) ∧ n = lit2N n x0 ∧ (2 : Int) = (2 : Int) ∧ (0 : Int) = (↑x0 : Int) ∧ List.replicate (Int.toNat (0 : Int)) (0 : Int) = lit2P n x0) ∧
 ∀ (x1 : Nat),
 Nat.le x1 (2 : Nat) →
 (decide ((↑x1 : Int) < (2 : Int)) = true →
 (List.length (lit2P n x1) + (1 : Nat)) * (1 : Nat) ≤ (140737488355328 : Nat) ∧
 (0 : Int) ≤ (8 : Int) ∧
 ∃ (y2 : Nat),
 Nat.le y2 (2 : Nat) ∧
 Nat.sub (2 : Nat) y2 < Nat.sub (2 : Nat) x1 ∧
 Int.fdiv (lit2N n x1) ((2 : Int) ^ min (Int.toNat (8 : Int)) (IntKind.bits IntKind.u64)) = lit2N n y2 ∧
 (2 : Int) = (2 : Int) ∧ IntKind.wrap IntKind.i64 ((↑x1 : Int) + (1 : Int)) = (↑y2 : Int) ∧ lit2P n x1 ++ [IntKind.wrap IntKind.u8 (lit2N n x1)] = lit2P n y2) ∧
 (decide ((↑x1 : Int) < (2 : Int)) = false → strOfNums (lit2P n x1) = lit2 n)
theorem fldJ_e (n : Int) : fldJ_t n = vcG Try.prog (Gof []) (one (oFld2 n)) Try.f60 [.v (.int .u64 n), .v (.int .i64 2)] [] (.leaf ((.v (.string (lit2 n)))) ([])) := by kernel_rfl
def rd16J_t (b : ByteArray) (i : Int) : Prop :=
 (decide ((2 : Int) < (1 : Int)) = true → (0 : Int) = le16 b (Int.toNat i) ∧ (0 : Int) = i + (2 : Int) ∧ (2 : Int) = (0 : Int) ∧ (0 : Int) = (0 : Int)) ∧
 (decide ((2 : Int) < (1 : Int)) = false →
 (decide ((2 : Int) > (8 : Int)) = true → (0 : Int) = le16 b (Int.toNat i) ∧ (0 : Int) = i + (2 : Int) ∧ (2 : Int) = (0 : Int) ∧ (0 : Int) = (0 : Int)) ∧
 (decide ((2 : Int) > (8 : Int)) = false →
 (decide (i < (0 : Int)) = true → (0 : Int) = le16 b (Int.toNat i) ∧ (0 : Int) = i + (2 : Int) ∧ (2 : Int) = (0 : Int) ∧ (0 : Int) = (0 : Int)) ∧
 (decide (i < (0 : Int)) = false →
 (decide (i > (↑(ByteArray.size b) : Int)) = true → (0 : Int) = le16 b (Int.toNat i) ∧ (0 : Int) = i + (2 : Int) ∧ (2 : Int) = (0 : Int) ∧ (0 : Int) = (0 : Int)) ∧
 (decide (i > (↑(ByteArray.size b) : Int)) = false →
 (decide ((2 : Int) > IntKind.wrap IntKind.i64 ((↑(ByteArray.size b) : Int) - i)) = true →
 (0 : Int) = le16 b (Int.toNat i) ∧ (0 : Int) = i + (2 : Int) ∧ (5 : Int) = (0 : Int) ∧ (↑(ByteArray.size b) : Int) = (0 : Int)) ∧
 (decide ((2 : Int) > IntKind.wrap IntKind.i64 ((↑(ByteArray.size b) : Int) - i)) = false →
 (∃ (x0 : Nat),
 Nat.le x0 (2 : Nat) ∧
 b = b ∧
 i = i ∧ (2 : Int) = (2 : Int) ∧ (0 : Int) = le16P b (Int.toNat i) x0 ∧ (2 : Int) = (2 : Int) ∧ (0 : Int) = (↑x0 : Int) ∧ (0 : Int) = (0 : Int) ∧ (0 : Int) = (0 : Int)) ∧
 ∀ (x1 : Nat),
 Nat.le x1 (2 : Nat) →
 (decide ((↑x1 : Int) < (2 : Int)) = true →
 (0 : Int) ≤ IntKind.wrap IntKind.i64 (i + (↑x1 : Int)) ∧
 IntKind.wrap IntKind.i64 (i + (↑x1 : Int)) < (↑(ByteArray.size b) : Int) ∧
 (0 : Int) ≤ IntKind.wrap IntKind.i64 ((8 : Int) * (↑x1 : Int)) ∧
 ∃ (y2 : Nat),
 Nat.le y2 (2 : Nat) ∧
 Nat.sub (2 : Nat) y2 < Nat.sub (2 : Nat) x1 ∧
 b = b ∧
 i = i ∧
 (2 : Int) = (2 : Int) ∧
 bits BinOp.or IntKind.u64 (le16P b (Int.toNat i) x1)
 (IntKind.wrap IntKind.u64
 (IntKind.wrap IntKind.u64
 (↑(UInt8.toNat (List.getD b.data.toList (Int.toNat (IntKind.wrap IntKind.i64 (i + (↑x1 : Int)))) (0 : UInt8))) : Int) *
 (2 : Int) ^ min (Int.toNat (IntKind.wrap IntKind.i64 ((8 : Int) * (↑x1 : Int)))) (IntKind.bits IntKind.u64))) =
 le16P b (Int.toNat i) y2 ∧
 (2 : Int) = (2 : Int) ∧ IntKind.wrap IntKind.i64 ((↑x1 : Int) + (1 : Int)) = (↑y2 : Int) ∧ (0 : Int) = (0 : Int) ∧ (0 : Int) = (0 : Int)) ∧
 (decide ((↑x1 : Int) < (2 : Int)) = false →
 le16P b (Int.toNat i) x1 = le16 b (Int.toNat i) ∧ IntKind.wrap IntKind.i64 (i + (2 : Int)) = i + (2 : Int) ∧ (0 : Int) = (0 : Int) ∧ (0 : Int) = (0 : Int)))))))
theorem rd16J_e (b : ByteArray) (i : Int) : rd16J_t b i = vcG Try.prog (Gof []) (one (oRd16 b i)) Try.f33 [.v (.string b), .v (.int .i64 i), .v (.int .i64 2)] [] (.leaf ((.tu [.v (.int .u64 (le16 b i.toNat)), .v (.int .i64 (i + 2)), .ag [.v (.int .i64 0), .v (.int .i64 0)]])) ([])) := by kernel_rfl
def ptlJ_t (n : Int) : Prop :=
 (4 : Int) ≠ (0 : Int) ∧
 List.length
 [IntKind.wrap IntKind.i64 (Int.tdiv (IntKind.wrap IntKind.i64 (n + (3 : Int))) (4 : Int)), IntKind.wrap IntKind.i64 (Int.tdiv (IntKind.wrap IntKind.i64 (n + (3 : Int))) (4 : Int)),
 IntKind.wrap IntKind.i64 (Int.tdiv (IntKind.wrap IntKind.i64 (n + (3 : Int))) (4 : Int)),
 IntKind.wrap IntKind.i64 (n - IntKind.wrap IntKind.i64 ((3 : Int) * IntKind.wrap IntKind.i64 (Int.tdiv (IntKind.wrap IntKind.i64 (n + (3 : Int))) (4 : Int))))] =
 List.length (List.replicate (4 : Nat) (0 : Int)) ∧
 (4 : Nat) =
 Nat.succ
 (Nat.add
 (List.length
 [IntKind.wrap IntKind.i64 (Int.tdiv (IntKind.wrap IntKind.i64 (n + (3 : Int))) (4 : Int)), IntKind.wrap IntKind.i64 (Int.tdiv (IntKind.wrap IntKind.i64 (n + (3 : Int))) (4 : Int)),
 IntKind.wrap IntKind.i64 (n - IntKind.wrap IntKind.i64 ((3 : Int) * IntKind.wrap IntKind.i64 (Int.tdiv (IntKind.wrap IntKind.i64 (n + (3 : Int))) (4 : Int))))])
 ((0 : Nat))) ∧
 [IntKind.wrap IntKind.i64 (Int.tdiv (IntKind.wrap IntKind.i64 (n + (3 : Int))) (4 : Int)), IntKind.wrap IntKind.i64 (Int.tdiv (IntKind.wrap IntKind.i64 (n + (3 : Int))) (4 : Int)),
 IntKind.wrap IntKind.i64 (Int.tdiv (IntKind.wrap IntKind.i64 (n + (3 : Int))) (4 : Int)),
 IntKind.wrap IntKind.i64 (n - IntKind.wrap IntKind.i64 ((3 : Int) * IntKind.wrap IntKind.i64 (Int.tdiv (IntKind.wrap IntKind.i64 (n + (3 : Int))) (4 : Int))))] =
 ptL n
theorem ptlJ_e (n : Int) : ptlJ_t n = vcG Try.prog (Gof []) (fun _ => none) Try.f34 [.v (.int .i64 n)] [] (.leaf ((.av (.ints .i64 (ptL n)))) ([])) := by kernel_rfl
def divJ_t (s : ByteArray) (p : List Int) : Prop :=
 p = p ∧ s = s
theorem divJ_e (s : ByteArray) (p : List Int) : divJ_t s p = vcG Try.prog (Gof []) (fun _ => none) Try.f35 [.v (.string s), .av (.ints .i64 p)] [] (.leaf ((.fn (.func 54) [] [.p 2000 0 0, .p 2001 0 0])) ([(2000, .arr 36 (.ints .i64 p)), (2001, .cells 9 [.v (.string s)])])) := by kernel_rfl
def joinJ_t (xs : List ByteArray) : Prop :=
 (∃ (x0 : Nat), Nat.le x0 (List.length xs) ∧ ByteArray.empty = jn (List.take x0 xs) ∧ xs = xs ∧ (↑(List.length xs) : Int) = (↑(List.length xs) : Int) ∧ (0 : Int) = (↑x0 : Int)) ∧
 ∀ (x1 : Nat),
 Nat.le x1 (List.length xs) →
 (decide ((↑x1 : Int) < (↑(List.length xs) : Int)) = true →
 (0 : Int) ≤ (↑x1 : Int) ∧
 (↑x1 : Int) < (↑(List.length xs) : Int) ∧
 ByteArray.size (jn (List.take x1 xs)) + ByteArray.size (List.getD xs (Int.toNat (↑x1 : Int)) ByteArray.empty) ≤ (9223372036854775807 : Nat) ∧
 ∃ (y2 : Nat),
 Nat.le y2 (List.length xs) ∧
 Nat.sub (List.length xs) y2 < Nat.sub (List.length xs) x1 ∧
 jn (List.take x1 xs) ++ List.getD xs (Int.toNat (↑x1 : Int)) ByteArray.empty = jn (List.take y2 xs) ∧
 xs = xs ∧ (↑(List.length xs) : Int) = (↑(List.length xs) : Int) ∧ IntKind.wrap IntKind.i64 ((↑x1 : Int) + (1 : Int)) = (↑y2 : Int)) ∧
 (decide ((↑x1 : Int) < (↑(List.length xs) : Int)) = false → jn (List.take x1 xs) = jn xs)
theorem joinJ_e (xs : List ByteArray) : joinJ_t xs = vcG Try.prog (Gof []) (one (oJoin xs)) Try.f42 [.dat (.strs xs)] [] (.leaf ((.v (.string (jn xs)))) ([])) := by kernel_rfl
def wroJ_t (l : List Int) (s : ByteArray) : Prop :=
 List.length l ≤ (4294967296 : Nat) ∧
 ByteArray.size s ≤ (4294967296 : Nat) ∧
 ((txE l s != (0 : Int)) = true → ByteArray.empty = wrO l s ∧ txE l s = txE l s) ∧
 ((txE l s != (0 : Int)) = false → chk l = (0 : Int) ∧ txE l s = (0 : Int) ∧ ByteArray.size s ≤ (100000 : Nat) ∧ wrH l s = wrO l s ∧ (0 : Int) = txE l s)
theorem wroJ_e (l : List Int) (s : ByteArray) : wroJ_t l s = vcG Try.prog (Gof GUc) (fun _ => none) Try.f16 [.dat (.ints .i64 l), .v (.string s)] [] (.leaf ((.tu [.v (.string (wrO l s)), .v (.int .i64 (txE l s))])) ([])) := by kernel_rfl
def szoJ_t (l : List Int) (s : ByteArray) : Prop :=
 List.length l ≤ (4294967296 : Nat) ∧
 ByteArray.size s ≤ (4294967296 : Nat) ∧
 ((txE l s != (0 : Int)) = true → (0 : Int) = szO l s ∧ txE l s = txE l s) ∧
 ((txE l s != (0 : Int)) = false → chk l = (0 : Int) ∧ txE l s = (0 : Int) ∧ ByteArray.size s ≤ (100000 : Nat) ∧ (↑(ByteArray.size (wrH l s)) : Int) = szO l s ∧ (0 : Int) = txE l s)
theorem szoJ_e (l : List Int) (s : ByteArray) : szoJ_t l s = vcG Try.prog (Gof GUc) (fun _ => none) Try.f20 [.dat (.ints .i64 l), .v (.string s)] [] (.leaf ((.tu [.v (.int .i64 (szO l s)), .v (.int .i64 (txE l s))])) ([])) := by kernel_rfl
def rdoJ_t (l : List Int) (b : ByteArray) (n : Int) : Prop :=
 List.length l ≤ (4294967296 : Nat) ∧
 ((nuE l n != (0 : Int)) = true → ByteArray.empty = rO l b n ∧ nuE l n = rE l b n) ∧
 ((nuE l n != (0 : Int)) = false → chk l = (0 : Int) ∧ ByteArray.size b ≤ (4294967296 : Nat) ∧ (0 : Int) ≤ n ∧ n ≤ (131072 : Int) ∧ rdS l b n = rO l b n ∧ rdE l b n = rE l b n)
theorem rdoJ_e (l : List Int) (b : ByteArray) (n : Int) : rdoJ_t l b n = vcG Try.prog (Gof GUc) (fun _ => none) Try.f11 [.dat (.ints .i64 l), .v (.string b), .v (.int .i64 n)] [] (.leaf ((.tu [.v (.string (rO l b n)), .v (.int .i64 (rE l b n))])) ([])) := by kernel_rfl
def litJ_t (n : Int) : Prop :=
 (decide ((2 : Int) < (1 : Int)) = true → ByteArray.empty = lit2 n ∧ (2 : Int) = (0 : Int)) ∧
 (decide ((2 : Int) < (1 : Int)) = false →
 (decide ((2 : Int) > (8 : Int)) = true → ByteArray.empty = lit2 n ∧ (2 : Int) = (0 : Int)) ∧
 (decide ((2 : Int) > (8 : Int)) = false →
 (decide ((2 : Int) < (8 : Int)) = true →
 (0 : Int) ≤ IntKind.wrap IntKind.i64 ((8 : Int) * (2 : Int)) ∧
 ((Int.fdiv n ((2 : Int) ^ min (Int.toNat (IntKind.wrap IntKind.i64 ((8 : Int) * (2 : Int)))) (IntKind.bits IntKind.u64)) != (0 : Int)) = true →
 ByteArray.empty = lit2 n ∧ (2 : Int) = (0 : Int)) ∧
 ((Int.fdiv n ((2 : Int) ^ min (Int.toNat (IntKind.wrap IntKind.i64 ((8 : Int) * (2 : Int)))) (IntKind.bits IntKind.u64)) != (0 : Int)) = false →
 (0 : Int) ≤ n ∧ n < (65536 : Int) ∧ lit2 n = lit2 n ∧ (0 : Int) = (0 : Int))) ∧
 (decide ((2 : Int) < (8 : Int)) = false → (0 : Int) ≤ n ∧ n < (65536 : Int) ∧ lit2 n = lit2 n ∧ (0 : Int) = (0 : Int))))
theorem litJ_e (n : Int) : litJ_t n = vcG Try.prog (Gof GUd) (fun _ => none) Try.f41 [.v (.int .u64 n), .v (.int .i64 2)] [] (.leaf ((.tu [.v (.string (lit2 n)), .v (.int .i64 0)])) ([])) := by kernel_rfl
def ptvJ_t (n : Int) : Prop :=
 (decide (n < (0 : Int)) = true →
 List.length [(0 : Int), (0 : Int), (0 : Int), (0 : Int)] = List.length (List.replicate (4 : Nat) (0 : Int)) ∧
 (4 : Nat) = (4 : Nat) ∧ [(0 : Int), (0 : Int), (0 : Int), (0 : Int)] = ptV n ∧ (2 : Int) = ptE n) ∧
 (decide (n < (0 : Int)) = false →
 (decide (n > (131072 : Int)) = true →
 List.length [(0 : Int), (0 : Int), (0 : Int), (0 : Int)] = List.length (List.replicate (4 : Nat) (0 : Int)) ∧
 (4 : Nat) = (4 : Nat) ∧ [(0 : Int), (0 : Int), (0 : Int), (0 : Int)] = ptV n ∧ (2 : Int) = ptE n) ∧
 (decide (n > (131072 : Int)) = false →
 (decide (n < (6 : Int)) = true →
 List.length [(0 : Int), (0 : Int), (0 : Int), (0 : Int)] = List.length (List.replicate (4 : Nat) (0 : Int)) ∧
 (4 : Nat) = (4 : Nat) ∧ [(0 : Int), (0 : Int), (0 : Int), (0 : Int)] = ptV n ∧ (20 : Int) = ptE n) ∧
 (decide (n < (6 : Int)) = false →
 (0 : Int) ≤ n ∧
 n ≤ (131072 : Int) ∧
 List.length (ptL n) = (4 : Nat) ∧
 List.length (ptL n) = List.length (List.replicate (4 : Nat) (0 : Int)) ∧
 (4 : Nat) = Nat.succ (Nat.add (List.length [ptK n, ptK n, n - (3 : Int) * ptK n]) ((0 : Nat))) ∧ ptL n = ptV n ∧ (0 : Int) = ptE n)))
theorem ptvJ_e (n : Int) : ptvJ_t n = vcG Try.prog (Gof GUd) (fun _ => none) Try.f22 [.v (.int .i64 n)] [] (.leaf ((.tu [.av (.ints .i64 (ptV n)), .v (.int .i64 (ptE n))])) ([])) := by kernel_rfl
def r4J_t (l : List Int) (b : ByteArray) (n : Int) : Prop :=
 List.length l ≤ (4294967296 : Nat) ∧
 ((nuE l n != (0 : Int)) = true → ByteArray.empty = r4O l b n ∧ (0 : Int) = r4P l b n ∧ nuE l n = r4E l b n) ∧
 ((nuE l n != (0 : Int)) = false →
 (decide (n < (6 : Int)) = true → ByteArray.empty = r4O l b n ∧ (0 : Int) = r4P l b n ∧ (20 : Int) = r4E l b n) ∧
 (decide (n < (6 : Int)) = false →
 (decide ((↑(ByteArray.size b) : Int) < (6 : Int)) = true → ByteArray.empty = r4O l b n ∧ (0 : Int) = r4P l b n ∧ (22 : Int) = r4E l b n) ∧
 (decide ((↑(ByteArray.size b) : Int) < (6 : Int)) = false →
 (0 : Int) ≤ (3 : Int) ∧
 (3 : Int) < (↑(4 : Nat) : Int) ∧
 Int.toNat (3 : Int) < (4 : Nat) ∧
 (∃ (x0 : Nat),
 (x0 ≤ (3 : Nat) ∧ nuE l n = (0 : Int) ∧ (6 : Int) ≤ n ∧ (6 : Nat) ≤ ByteArray.size b) ∧
 b = b ∧
 n = n ∧
 (0 : Int) = (↑x0 : Int) ∧
 l = l ∧
 ByteArray.empty = ByteArray.empty ∧
 (0 : Int) = (0 : Int) ∧
 (0 : Int) = (0 : Int) ∧
 List.set (List.replicate (4 : Nat) (0 : Int)) (Int.toNat (3 : Int)) (IntKind.wrap IntKind.i64 ((↑(ByteArray.size b) : Int) - (6 : Int))) = q4P b x0) ∧
 ∀ (x1 : Nat),
 x1 ≤ (3 : Nat) ∧ nuE l n = (0 : Int) ∧ (6 : Int) ≤ n ∧ (6 : Nat) ≤ ByteArray.size b →
 (decide ((↑x1 : Int) < (3 : Int)) = true →
 (0 : Int) ≤ IntKind.wrap IntKind.i64 ((2 : Int) * (↑x1 : Int)) ∧
 IntKind.wrap IntKind.i64 ((2 : Int) * (↑x1 : Int)) + (2 : Int) ≤ (↑(ByteArray.size b) : Int) ∧
 ByteArray.size b ≤ (4294967296 : Nat) ∧
 (0 : Int) ≤ (↑x1 : Int) ∧
 (↑x1 : Int) < (↑(4 : Nat) : Int) ∧
 Int.toNat (↑x1 : Int) < List.length (q4P b x1) ∧
 (0 : Int) ≤ (3 : Int) ∧
 (3 : Int) < (↑(4 : Nat) : Int) ∧
 Int.toNat (3 : Int) <
 List.length
 (List.set (q4P b x1) (Int.toNat (↑x1 : Int)) (IntKind.wrap IntKind.i64 (le16 b (Int.toNat (IntKind.wrap IntKind.i64 ((2 : Int) * (↑x1 : Int))))))) ∧
 (0 : Int) ≤ (↑x1 : Int) ∧
 (↑x1 : Int) < (↑(4 : Nat) : Int) ∧
 Int.toNat (↑x1 : Int) <
 List.length
 (List.set (q4P b x1) (Int.toNat (↑x1 : Int))
 (IntKind.wrap IntKind.i64 (le16 b (Int.toNat (IntKind.wrap IntKind.i64 ((2 : Int) * (↑x1 : Int))))))) ∧
 (0 : Int) ≤ (3 : Int) ∧
 (3 : Int) < (↑(4 : Nat) : Int) ∧
 Int.toNat (3 : Int) <
 List.length
 (List.set (q4P b x1) (Int.toNat (↑x1 : Int))
 (IntKind.wrap IntKind.i64 (le16 b (Int.toNat (IntKind.wrap IntKind.i64 ((2 : Int) * (↑x1 : Int))))))) ∧
 ∃ (y2 : Nat),
 (y2 ≤ (3 : Nat) ∧ nuE l n = (0 : Int) ∧ (6 : Int) ≤ n ∧ (6 : Nat) ≤ ByteArray.size b) ∧
 Nat.sub (3 : Nat) y2 < Nat.sub (3 : Nat) x1 ∧
 b = b ∧
 n = n ∧
 IntKind.wrap IntKind.i64 ((↑x1 : Int) + (1 : Int)) = (↑y2 : Int) ∧
 l = l ∧
 ByteArray.empty = ByteArray.empty ∧
 (0 : Int) = (0 : Int) ∧
 (0 : Int) = (0 : Int) ∧
 List.set
 (List.set (q4P b x1) (Int.toNat (↑x1 : Int))
 (IntKind.wrap IntKind.i64 (le16 b (Int.toNat (IntKind.wrap IntKind.i64 ((2 : Int) * (↑x1 : Int)))))))
 (Int.toNat (3 : Int))
 (IntKind.wrap IntKind.i64
 (List.getD
 (List.set (q4P b x1) (Int.toNat (↑x1 : Int))
 (IntKind.wrap IntKind.i64 (le16 b (Int.toNat (IntKind.wrap IntKind.i64 ((2 : Int) * (↑x1 : Int)))))))
 (Int.toNat (3 : Int)) (0 : Int) -
 List.getD
 (List.set (q4P b x1) (Int.toNat (↑x1 : Int))
 (IntKind.wrap IntKind.i64 (le16 b (Int.toNat (IntKind.wrap IntKind.i64 ((2 : Int) * (↑x1 : Int)))))))
 (Int.toNat (↑x1 : Int)) (0 : Int))) =
 q4P b y2) ∧
 (decide ((↑x1 : Int) < (3 : Int)) = false →
 (0 : Int) ≤ (3 : Int) ∧
 (3 : Int) < (↑(4 : Nat) : Int) ∧
 Int.toNat (3 : Int) < List.length (q4P b x1) ∧
 (decide (List.getD (q4P b x1) (Int.toNat (3 : Int)) (0 : Int) < (0 : Int)) = true → ByteArray.empty = r4O l b n ∧ (0 : Int) = r4P l b n ∧ (22 : Int) = r4E l b n) ∧
 (decide (List.getD (q4P b x1) (Int.toNat (3 : Int)) (0 : Int) < (0 : Int)) = false →
 (0 : Int) ≤ n ∧
 n ≤ (131072 : Int) ∧
 List.length (ptL n) = (4 : Nat) ∧
 List.length (ptL n) = List.length (List.replicate (4 : Nat) (0 : Int)) ∧
 (0 : Int) ≤ (6 : Int) ∧
 (6 : Int) ≤ (↑(ByteArray.size b) : Int) ∧
 (↑(ByteArray.size b) : Int) ≤ (↑(ByteArray.size b) : Int) ∧
 (4 : Nat) = List.length (q4P b x1) ∧
 List.length (q4P b x1) = (4 : Nat) ∧
 ∃ (y3 : Nat),
 (ISatE Try.prog ((54 : Nat)) [SV.p (2200024 : Nat) (0 : Nat) (0 : Nat), SV.p (2200025 : Nat) (0 : Nat) (0 : Nat)]
 [((2200024 : Nat), SBlk.arr (36 : TypeId) (Dat.ints IntKind.i64 (q4 b))),
 ((2200025 : Nat), SBlk.cells (9 : TypeId) [SV.v (Value.string (ByteArray.extract b (6 : Nat) (ByteArray.size b)))])]
 ([Value.int IntKind.i64 (↑((0 : Nat)) : Int),
 Value.string (pcS (ByteArray.extract b (6 : Nat) (ByteArray.size b)) (q4 b) ((0 : Nat)))] ::
 List.map
 (fun (i : Nat) =>
 [Value.int IntKind.i64 (↑i : Int), Value.string (pcS (ByteArray.extract b (6 : Nat) (ByteArray.size b)) (q4 b) i)])
 [(1 : Nat), (2 : Nat), (3 : Nat)])
 fun (x : Nat) => []) ∧
 (q4P b x1 = q4 b ∧
 ByteArray.extract b (Int.toNat (6 : Int)) (Int.toNat (↑(ByteArray.size b) : Int)) =
 ByteArray.extract b (6 : Nat) (ByteArray.size b)) ∧
 ok4 l b n (0 : Nat) = true ∧
 (l = l ∧
 ByteArray.empty = ByteArray.empty ∧
 (0 : Int) = (0 : Int) ∧
 (0 : Int) = (0 : Int) ∧ ByteArray.empty = out4 l b n (0 : Nat) ∧ (6 : Int) = at4 b (0 : Nat) ∧ ptL n = ptL n) ∧
 (∀ (i4 : Nat),
 i4 <
 List.length
 ([Value.int IntKind.i64 (↑((0 : Nat)) : Int),
 Value.string (pcS (ByteArray.extract b (6 : Nat) (ByteArray.size b)) (q4 b) ((0 : Nat)))] ::
 List.map
 (fun (i : Nat) =>
 [Value.int IntKind.i64 (↑i : Int), Value.string (pcS (ByteArray.extract b (6 : Nat) (ByteArray.size b)) (q4 b) i)])
 [(1 : Nat), (2 : Nat), (3 : Nat)]) →
 ok4 l b n i4 = true →
 ([Value.int IntKind.i64 (↑((0 : Nat)) : Int),
 Value.string (pcS (ByteArray.extract b (6 : Nat) (ByteArray.size b)) (q4 b) ((0 : Nat)))] ::
 List.map
 (fun (i : Nat) =>
 [Value.int IntKind.i64 (↑i : Int),
 Value.string (pcS (ByteArray.extract b (6 : Nat) (ByteArray.size b)) (q4 b) i)])
 [(1 : Nat), (2 : Nat), (3 : Nat)])[i4]? =
 some [Value.int IntKind.i64 (↑i4 : Int), Value.string (p4 b i4)] ∧
 List.length [Value.int IntKind.i64 (↑i4 : Int), Value.string (p4 b i4)] = List.length #[(72 : Nat), (73 : Nat)].toList ∧
 (0 : Int) ≤ (↑i4 : Int) ∧
 (↑i4 : Int) < (↑(4 : Nat) : Int) ∧
 Int.toNat (↑i4 : Int) < Nat.succ (Nat.add (List.length [ptK n, ptK n, n - (3 : Int) * ptK n]) ((0 : Nat))) ∧
 chk l = (0 : Int) ∧
 ByteArray.size (p4 b i4) ≤ (4294967296 : Nat) ∧
 (0 : Int) ≤ List.getD (ptL n) (Int.toNat (↑i4 : Int)) (0 : Int) ∧
 List.getD (ptL n) (Int.toNat (↑i4 : Int)) (0 : Int) ≤ (131072 : Int) ∧
 ((rdE l (p4 b i4) (List.getD (ptL n) (Int.toNat (↑i4 : Int)) (0 : Int)) != (0 : Int)) = true →
 ByteArray.empty = r4O l b n ∧ at4 b i4 = r4P l b n ∧ (22 : Int) = r4E l b n) ∧
 ((rdE l (p4 b i4) (List.getD (ptL n) (Int.toNat (↑i4 : Int)) (0 : Int)) != (0 : Int)) = false →
 ByteArray.size (out4 l b n i4) +
 ByteArray.size (rdS l (p4 b i4) (List.getD (ptL n) (Int.toNat (↑i4 : Int)) (0 : Int))) ≤
 (9223372036854775807 : Nat) ∧
 ok4 l b n (i4 + (1 : Nat)) = true ∧
 l = l ∧
 ByteArray.empty = ByteArray.empty ∧
 (0 : Int) = (0 : Int) ∧
 (0 : Int) = (0 : Int) ∧
 out4 l b n i4 ++ rdS l (p4 b i4) (List.getD (ptL n) (Int.toNat (↑i4 : Int)) (0 : Int)) =
 out4 l b n (i4 + (1 : Nat)) ∧
 IntKind.wrap IntKind.i64 (at4 b i4 + (↑(ByteArray.size (p4 b i4)) : Int)) =
 at4 b (i4 + (1 : Nat)) ∧
 ptL n = ptL n)) ∧
 (ok4 l b n
 (List.length
 ([Value.int IntKind.i64 (↑((0 : Nat)) : Int),
 Value.string (pcS (ByteArray.extract b (6 : Nat) (ByteArray.size b)) (q4 b) ((0 : Nat)))] ::
 List.map
 (fun (i : Nat) =>
 [Value.int IntKind.i64 (↑i : Int), Value.string (pcS (ByteArray.extract b (6 : Nat) (ByteArray.size b)) (q4 b) i)])
 [(1 : Nat), (2 : Nat), (3 : Nat)])) =
 true →
 out4 l b n
 (List.length
 ([Value.int IntKind.i64 (↑((0 : Nat)) : Int),
 Value.string (pcS (ByteArray.extract b (6 : Nat) (ByteArray.size b)) (q4 b) ((0 : Nat)))] ::
 List.map
 (fun (i : Nat) =>
 [Value.int IntKind.i64 (↑i : Int),
 Value.string (pcS (ByteArray.extract b (6 : Nat) (ByteArray.size b)) (q4 b) i)])
 [(1 : Nat), (2 : Nat), (3 : Nat)])) =
 r4O l b n ∧
 (0 : Int) = r4P l b n ∧ (0 : Int) = r4E l b n))))))
theorem r4J_e (l : List Int) (b : ByteArray) (n : Int) : r4J_t l b n = vcG Try.prog (Gof GUd) (oR4 l b n) Try.f13 [.dat (.ints .i64 l), .v (.string b), .v (.int .i64 n)] [] (.leaf ((.tu [.v (.string (r4O l b n)), .v (.int .i64 (r4P l b n)), .v (.int .i64 (r4E l b n))])) ([])) := by kernel_rfl
def w4J_t (l : List Int) (s : ByteArray) : Prop :=
 List.length l ≤ (4294967296 : Nat) ∧
 ByteArray.size s ≤ (4294967296 : Nat) ∧
 (((txE l s == (0 : Int)) = true →
 (decide ((↑(ByteArray.size s) : Int) < (6 : Int)) = true → ∃ (x0 : Unit), True ∧ s = s ∧ (20 : Int) = w4E l s ∧ l = l ∧ ByteArray.empty = ByteArray.empty ∧ (0 : Int) = (0 : Int)) ∧
 (decide ((↑(ByteArray.size s) : Int) < (6 : Int)) = false → ∃ (x1 : Unit), True ∧ s = s ∧ txE l s = w4E l s ∧ l = l ∧ ByteArray.empty = ByteArray.empty ∧ (0 : Int) = (0 : Int))) ∧
 ((txE l s == (0 : Int)) = false → ∃ (x2 : Unit), True ∧ s = s ∧ txE l s = w4E l s ∧ l = l ∧ ByteArray.empty = ByteArray.empty ∧ (0 : Int) = (0 : Int))) ∧
 ∀ (x3 : Unit),
 True →
 ((w4E l s != (0 : Int)) = true → ByteArray.empty = w4O l s ∧ w4E l s = w4E l s) ∧
 ((w4E l s != (0 : Int)) = false →
 (0 : Int) ≤ (↑(ByteArray.size s) : Int) ∧
 (↑(ByteArray.size s) : Int) ≤ (131072 : Int) ∧
 List.length (ptL (↑(ByteArray.size s) : Int)) = (4 : Nat) ∧
 ∃ (y4 : Nat),
 (ISatE Try.prog ((54 : Nat)) [SV.p (800032 : Nat) (0 : Nat) (0 : Nat), SV.p (800033 : Nat) (0 : Nat) (0 : Nat)]
 [((800032 : Nat), SBlk.arr (36 : TypeId) (Dat.ints IntKind.i64 (ptL (↑(ByteArray.size s) : Int)))), ((800033 : Nat), SBlk.cells (9 : TypeId) [SV.v (Value.string s)])]
 ([Value.int IntKind.i64 (↑((0 : Nat)) : Int), Value.string (pcS s (ptL (↑(ByteArray.size s) : Int)) ((0 : Nat)))] ::
 List.map (fun (i : Nat) => [Value.int IntKind.i64 (↑i : Int), Value.string (pcS s (ptL (↑(ByteArray.size s) : Int)) i)]) [(1 : Nat), (2 : Nat), (3 : Nat)])
 fun (x : Nat) => []) ∧
 (ptL (↑(ByteArray.size s) : Int) = ptL (↑(ByteArray.size s) : Int) ∧ s = s) ∧
 True ∧
 (l = l ∧ ByteArray.empty = ByteArray.empty ∧ (0 : Int) = (0 : Int) ∧ (0 : Nat) = (0 : Nat) ∧ (0 : Nat) = (0 : Nat)) ∧
 (∀ (i5 : Nat),
 i5 <
 List.length
 ([Value.int IntKind.i64 (↑((0 : Nat)) : Int), Value.string (pcS s (ptL (↑(ByteArray.size s) : Int)) ((0 : Nat)))] ::
 List.map (fun (i : Nat) => [Value.int IntKind.i64 (↑i : Int), Value.string (pcS s (ptL (↑(ByteArray.size s) : Int)) i)]) [(1 : Nat), (2 : Nat), (3 : Nat)]) →
 True →
 ([Value.int IntKind.i64 (↑((0 : Nat)) : Int), Value.string (pcS s (ptL (↑(ByteArray.size s) : Int)) ((0 : Nat)))] ::
 List.map (fun (i : Nat) => [Value.int IntKind.i64 (↑i : Int), Value.string (pcS s (ptL (↑(ByteArray.size s) : Int)) i)])
 [(1 : Nat), (2 : Nat), (3 : Nat)])[i5]? =
 some [Value.int IntKind.i64 (↑i5 : Int), Value.string (pcS s (ptL (↑(ByteArray.size s) : Int)) i5)] ∧
 List.length [Value.int IntKind.i64 (↑i5 : Int), Value.string (pcS s (ptL (↑(ByteArray.size s) : Int)) i5)] = List.length #[(32 : Nat), (33 : Nat)].toList ∧
 chk l = (0 : Int) ∧
 txE l (pcS s (ptL (↑(ByteArray.size s) : Int)) i5) = (0 : Int) ∧
 ByteArray.size (pcS s (ptL (↑(ByteArray.size s) : Int)) i5) ≤ (100000 : Nat) ∧
 (decide ((↑i5 : Int) < (3 : Int)) = true →
 (decide ((↑(ByteArray.size (wrH l (pcS s (ptL (↑(ByteArray.size s) : Int)) i5))) : Int) > (65535 : Int)) = true →
 ByteArray.empty = w4O l s ∧ (4 : Int) = w4E l s) ∧
 (decide ((↑(ByteArray.size (wrH l (pcS s (ptL (↑(ByteArray.size s) : Int)) i5))) : Int) > (65535 : Int)) = false →
 (0 : Int) ≤ IntKind.wrap IntKind.u64 (↑(ByteArray.size (wrH l (pcS s (ptL (↑(ByteArray.size s) : Int)) i5))) : Int) ∧
 IntKind.wrap IntKind.u64 (↑(ByteArray.size (wrH l (pcS s (ptL (↑(ByteArray.size s) : Int)) i5))) : Int) < (65536 : Int) ∧
 (List.length (heads4 l s i5) + (1 : Nat)) * (16 : Nat) ≤ (140737488355328 : Nat) ∧
 (List.length (strs4 l s i5) + (1 : Nat)) * (16 : Nat) ≤ (140737488355328 : Nat) ∧
 True ∧
 l = l ∧
 ByteArray.empty = ByteArray.empty ∧
 (0 : Int) = (0 : Int) ∧
 heads4 l s i5 ++
 [lit2 (IntKind.wrap IntKind.u64 (↑(ByteArray.size (wrH l (pcS s (ptL (↑(ByteArray.size s) : Int)) i5))) : Int))] =
 heads4 l s (i5 + (1 : Nat)) ∧
 strs4 l s i5 ++ [wrH l (pcS s (ptL (↑(ByteArray.size s) : Int)) i5)] = strs4 l s (i5 + (1 : Nat)))) ∧
 (decide ((↑i5 : Int) < (3 : Int)) = false →
 (List.length (strs4 l s i5) + (1 : Nat)) * (16 : Nat) ≤ (140737488355328 : Nat) ∧
 True ∧
 l = l ∧
 ByteArray.empty = ByteArray.empty ∧
 (0 : Int) = (0 : Int) ∧
 heads4 l s i5 = heads4 l s (i5 + (1 : Nat)) ∧
 strs4 l s i5 ++ [wrH l (pcS s (ptL (↑(ByteArray.size s) : Int)) i5)] = strs4 l s (i5 + (1 : Nat)))) ∧
 (True →
 List.length
 (heads4 l s
 (List.length
 ([Value.int IntKind.i64 (↑((0 : Nat)) : Int), Value.string (pcS s (ptL (↑(ByteArray.size s) : Int)) ((0 : Nat)))] ::
 List.map (fun (i : Nat) => [Value.int IntKind.i64 (↑i : Int), Value.string (pcS s (ptL (↑(ByteArray.size s) : Int)) i)])
 [(1 : Nat), (2 : Nat), (3 : Nat)]))) ≤
 (4294967296 : Nat) ∧
 ByteArray.size
 (jn
 (heads4 l s
 (List.length
 ([Value.int IntKind.i64 (↑((0 : Nat)) : Int), Value.string (pcS s (ptL (↑(ByteArray.size s) : Int)) ((0 : Nat)))] ::
 List.map (fun (i : Nat) => [Value.int IntKind.i64 (↑i : Int), Value.string (pcS s (ptL (↑(ByteArray.size s) : Int)) i)])
 [(1 : Nat), (2 : Nat), (3 : Nat)])))) ≤
 (4294967296 : Nat) ∧
 List.length
 (strs4 l s
 (List.length
 ([Value.int IntKind.i64 (↑((0 : Nat)) : Int), Value.string (pcS s (ptL (↑(ByteArray.size s) : Int)) ((0 : Nat)))] ::
 List.map (fun (i : Nat) => [Value.int IntKind.i64 (↑i : Int), Value.string (pcS s (ptL (↑(ByteArray.size s) : Int)) i)])
 [(1 : Nat), (2 : Nat), (3 : Nat)]))) ≤
 (4294967296 : Nat) ∧
 ByteArray.size
 (jn
 (strs4 l s
 (List.length
 ([Value.int IntKind.i64 (↑((0 : Nat)) : Int), Value.string (pcS s (ptL (↑(ByteArray.size s) : Int)) ((0 : Nat)))] ::
 List.map (fun (i : Nat) => [Value.int IntKind.i64 (↑i : Int), Value.string (pcS s (ptL (↑(ByteArray.size s) : Int)) i)])
 [(1 : Nat), (2 : Nat), (3 : Nat)])))) ≤
 (4294967296 : Nat) ∧
 List.length
 [jn
 (heads4 l s
 (List.length
 ([Value.int IntKind.i64 (↑((0 : Nat)) : Int), Value.string (pcS s (ptL (↑(ByteArray.size s) : Int)) ((0 : Nat)))] ::
 List.map (fun (i : Nat) => [Value.int IntKind.i64 (↑i : Int), Value.string (pcS s (ptL (↑(ByteArray.size s) : Int)) i)])
 [(1 : Nat), (2 : Nat), (3 : Nat)]))),
 jn
 (strs4 l s
 (List.length
 ([Value.int IntKind.i64 (↑((0 : Nat)) : Int), Value.string (pcS s (ptL (↑(ByteArray.size s) : Int)) ((0 : Nat)))] ::
 List.map (fun (i : Nat) => [Value.int IntKind.i64 (↑i : Int), Value.string (pcS s (ptL (↑(ByteArray.size s) : Int)) i)])
 [(1 : Nat), (2 : Nat), (3 : Nat)])))] ≤
 (4294967296 : Nat) ∧
 ByteArray.size
 (jn
 [jn
 (heads4 l s
 (List.length
 ([Value.int IntKind.i64 (↑((0 : Nat)) : Int), Value.string (pcS s (ptL (↑(ByteArray.size s) : Int)) ((0 : Nat)))] ::
 List.map (fun (i : Nat) => [Value.int IntKind.i64 (↑i : Int), Value.string (pcS s (ptL (↑(ByteArray.size s) : Int)) i)])
 [(1 : Nat), (2 : Nat), (3 : Nat)]))),
 jn
 (strs4 l s
 (List.length
 ([Value.int IntKind.i64 (↑((0 : Nat)) : Int), Value.string (pcS s (ptL (↑(ByteArray.size s) : Int)) ((0 : Nat)))] ::
 List.map (fun (i : Nat) => [Value.int IntKind.i64 (↑i : Int), Value.string (pcS s (ptL (↑(ByteArray.size s) : Int)) i)])
 [(1 : Nat), (2 : Nat), (3 : Nat)])))]) ≤
 (4294967296 : Nat) ∧
 jn
 [jn
 (heads4 l s
 (List.length
 ([Value.int IntKind.i64 (↑((0 : Nat)) : Int), Value.string (pcS s (ptL (↑(ByteArray.size s) : Int)) ((0 : Nat)))] ::
 List.map (fun (i : Nat) => [Value.int IntKind.i64 (↑i : Int), Value.string (pcS s (ptL (↑(ByteArray.size s) : Int)) i)])
 [(1 : Nat), (2 : Nat), (3 : Nat)]))),
 jn
 (strs4 l s
 (List.length
 ([Value.int IntKind.i64 (↑((0 : Nat)) : Int), Value.string (pcS s (ptL (↑(ByteArray.size s) : Int)) ((0 : Nat)))] ::
 List.map (fun (i : Nat) => [Value.int IntKind.i64 (↑i : Int), Value.string (pcS s (ptL (↑(ByteArray.size s) : Int)) i)])
 [(1 : Nat), (2 : Nat), (3 : Nat)])))] =
 w4O l s ∧
 (0 : Int) = w4E l s))
theorem w4J_e (l : List Int) (s : ByteArray) : w4J_t l s = vcG Try.prog (Gof GUe) (oW4 l s) Try.f18 [.dat (.ints .i64 l), .v (.string s)] [] (.leaf ((.tu [.v (.string (w4O l s)), .v (.int .i64 (w4E l s))])) ([])) := by kernel_rfl
def dvJ_t (s : ByteArray) (p : List Int) (l0 : Nat) : Prop :=
 (4 : Nat) = List.length p ∧
 ∃ (g0 : Unit),
 ∃ (x1 : Nat),
 Nat.le x1 (4 : Nat) ∧
 ((0 : Nat), true) = (x1, true) ∧
 (Value.func (Fn.yield l0) #[] #[] = Value.func (Fn.yield l0) #[] #[] ∧ p = p ∧ (0 : Int) = (↑x1 : Int) ∧ p = p ∧ s = rsS s p x1) ∧
 ∀ (x2 : Nat),
 Nat.le x2 (4 : Nat) →
 (decide ((↑x2 : Int) < (4 : Int)) = true →
 (0 : Int) ≤ (↑x2 : Int) ∧
 (↑x2 : Int) < (↑(4 : Nat) : Int) ∧
 (4 : Nat) = List.length p ∧
 (0 : Int) ≤ (0 : Int) ∧
 (0 : Int) ≤ List.getD p (Int.toNat (↑x2 : Int)) (0 : Int) ∧
 List.getD p (Int.toNat (↑x2 : Int)) (0 : Int) ≤ (↑(ByteArray.size (rsS s p x2)) : Int) ∧
 l0 = l0 ∧
 (itDv s p)[x2]? =
 some
 [Value.int IntKind.i64 (↑x2 : Int),
 Value.string (ByteArray.extract (rsS s p x2) (Int.toNat (0 : Int)) (Int.toNat (List.getD p (Int.toNat (↑x2 : Int)) (0 : Int))))] ∧
 ((0 : Int) ≤ List.getD p (Int.toNat (↑x2 : Int)) (0 : Int) ∧
 List.getD p (Int.toNat (↑x2 : Int)) (0 : Int) ≤ (↑(ByteArray.size (rsS s p x2)) : Int) ∧
 (↑(ByteArray.size (rsS s p x2)) : Int) ≤ (↑(ByteArray.size (rsS s p x2)) : Int) ∧
 ∃ (y3 : Nat),
 Nat.le y3 (4 : Nat) ∧
 (x2 + (1 : Nat), true) = (y3, true) ∧
 Nat.sub (4 : Nat) y3 < Nat.sub (4 : Nat) x2 ∧
 Value.func (Fn.yield l0) #[] #[] = Value.func (Fn.yield l0) #[] #[] ∧
 p = p ∧
 IntKind.wrap IntKind.i64 ((↑x2 : Int) + (1 : Int)) = (↑y3 : Int) ∧
 p = p ∧
 ByteArray.extract (rsS s p x2) (Int.toNat (List.getD p (Int.toNat (↑x2 : Int)) (0 : Int)))
 (Int.toNat (↑(ByteArray.size (rsS s p x2)) : Int)) =
 rsS s p y3) ∧
 True) ∧
 (decide ((↑x2 : Int) < (4 : Int)) = false → x2 = List.length (itDv s p))
theorem dvJ_e (s : ByteArray) (p : List Int) (l0 : Nat) : dvJ_t s p l0 = vcFI Try.prog (Gof []) l0 (itDv s p) (oDvF l0 s p) Try.f54 [.p 0 0 0, .p 1 0 0] [(0, .arr 36 (.ints .i64 p)), (1, .cells 9 [.v (.string s)])]  := by kernel_rfl
end Go.Proofs.Ytmdbliacaeokaaa
namespace Go.Proofs.Ytmdbliacaeokaaa
open Go Go.RowKit
set_option linter.unusedVariables false
set_option linter.unusedSimpArgs false
set_option maxRecDepth 100000
theorem fldJ_v (n : Int) (h0 : 0 ≤ n) (h1 : n < 65536) : fldJ_t n := by
  unfold fldJ_t
  refine ⟨by omega, by omega, by decide, by omega, ⟨0, Nat.zero_le _, rfl, (by first | rfl | trivial), rfl, rfl⟩, fun i hi => ⟨fun hlt => ?_, fun hge => ?_⟩⟩
  · have hlt : (i : Int) < 2 := by simpa using hlt
    have hi' : i = 0 ∨ i = 1 := by omega
    have e8 : min (Int.toNat (8 : Int)) (IntKind.bits IntKind.u64) = 8 := rfl
    rcases hi' with rfl | rfl
    · refine ⟨by show (0 + 1) * 1 ≤ _; omega, by omega, 1, by rw [nle]; omega, by show 2 - 1 < 2 - 0; omega, ?_, (by first | rfl | trivial), by rw [wr (by omega) (by omega)]; rfl, ?_⟩
      · show Int.fdiv n _ = n / 256
        rw [e8, fdivp (by decide)]
        rfl
      · show [] ++ [IntKind.wrap IntKind.u8 n] = [n % 256]
        rw [wrap8]; rfl
    · refine ⟨by show (1 + 1) * 1 ≤ _; omega, by omega, 2, by rw [nle]; omega, by show 2 - 2 < 2 - 1; omega, ?_, (by first | rfl | trivial), by rw [wr (by omega) (by omega)]; rfl, ?_⟩
      · show Int.fdiv (n / 256) _ = n / 256 / 256
        rw [e8, fdivp (by decide)]
        rfl
      · show [n % 256] ++ [IntKind.wrap IntKind.u8 (n / 256)] = [n % 256, n / 256 % 256]
        rw [wrap8]; rfl
  · rw [nle] at hi
    have hge : ¬ (i : Int) < 2 := by simpa using hge
    have : i = 2 := by omega
    subst this
    rfl
theorem or16 {a b : Int} (h0 : 0 ≤ a) (h1 : a < 256) (h2 : 0 ≤ b) (h3 : b < 256) : bits .or .u64 a (b * 256) = a + 256 * b := by
  obtain ⟨x, rfl⟩ := Int.eq_ofNat_of_zero_le h0
  obtain ⟨y, rfl⟩ := Int.eq_ofNat_of_zero_le h2
  have := or_u64 x y 8 (by omega) (by omega)
  rw [show ((y : Int) * 256) = ((y * 2 ^ 8 : Nat) : Int) by omega, this]
  omega
theorem or0 {b : Int} (h2 : 0 ≤ b) (h3 : b < 256) : bits .or .u64 0 b = b := by
  obtain ⟨y, rfl⟩ := Int.eq_ofNat_of_zero_le h2
  have := or_u64 0 y 0 (by omega) (by omega)
  simpa using this
theorem rd16J_v (b : ByteArray) (i : Int) (h0 : 0 ≤ i) (h1 : i + 2 ≤ b.size) (h2 : b.size ≤ 4294967296) : rd16J_t b i := by
  unfold rd16J_t
  refine ⟨fun h => by simp at h, fun _ => ⟨fun h => by simp at h, fun _ => ⟨fun h => ?_, fun _ => ⟨fun h => ?_, fun _ => ⟨fun h => ?_, fun _ => ⟨⟨0, Nat.zero_le _, (by first | rfl | trivial), (by first | rfl | trivial), (by first | rfl | trivial), rfl, (by first | rfl | trivial), (by first | rfl | trivial), (by first | rfl | trivial), (by first | rfl | trivial)⟩, fun k hk => ⟨fun hlt => ?_, fun hge => ?_⟩⟩⟩⟩⟩⟩⟩
  · have : i < 0 := by simpa using h
    omega
  · have : i > b.size := by simpa using h
    omega
  · rw [wr (by omega) (by omega)] at h
    have : (2 : Int) > b.size - i := by simpa using h
    omega
  · have hlt : (k : Int) < 2 := by simpa using hlt
    have hk' : k = 0 ∨ k = 1 := by omega
    rw [wr (n := i + (k : Int)) (by omega) (by omega), wr (n := 8 * (k : Int)) (by omega) (by omega)]
    rcases hk' with rfl | rfl
    · have hr := byI_rng b i.toNat
      have e : (((b.data.toList.getD (i + ((0 : Nat) : Int)).toNat 0).toNat : Nat) : Int) = byI b i.toNat := by
        rw [show i + ((0 : Nat) : Int) = i by omega]; rfl
      rw [e]
      refine ⟨by omega, by omega, by omega, 1, by rw [nle]; omega, by show 2 - 1 < 2 - 0; omega, (by first | rfl | trivial), (by first | rfl | trivial), (by first | rfl | trivial), ?_, (by first | rfl | trivial), by rw [wr (by omega) (by omega)]; rfl, (by first | rfl | trivial), (by first | rfl | trivial)⟩
      have e0 : (2 : Int) ^ min (Int.toNat (8 * ((0 : Nat) : Int))) (IntKind.bits IntKind.u64) = 1 := rfl
      rw [e0, wru (n := byI b i.toNat) (by omega) (by omega), Int.mul_one, wru (n := byI b i.toNat) (by omega) (by omega)]
      exact or0 hr.1 hr.2
    · have hr := byI_rng b (i.toNat + 1)
      have hr0 := byI_rng b i.toNat
      have e : (((b.data.toList.getD (i + ((1 : Nat) : Int)).toNat 0).toNat : Nat) : Int) = byI b (i.toNat + 1) := by
        rw [show (i + ((1 : Nat) : Int)).toNat = i.toNat + 1 by omega]; rfl
      rw [e]
      refine ⟨by omega, by omega, by omega, 2, by rw [nle]; omega, by show 2 - 2 < 2 - 1; omega, (by first | rfl | trivial), (by first | rfl | trivial), (by first | rfl | trivial), ?_, (by first | rfl | trivial), by rw [wr (by omega) (by omega)]; rfl, (by first | rfl | trivial), (by first | rfl | trivial)⟩
      have e0 : (2 : Int) ^ min (Int.toNat (8 * ((1 : Nat) : Int))) (IntKind.bits IntKind.u64) = 256 := rfl
      rw [e0, wru (n := byI b (i.toNat + 1)) (by omega) (by omega), wru (n := byI b (i.toNat + 1) * 256) (by omega) (by omega)]
      exact or16 hr0.1 hr0.2 hr.1 hr.2
  · rw [nle] at hk
    have hge : ¬ (k : Int) < 2 := by simpa using hge
    have : k = 2 := by omega
    subst this
    exact ⟨rfl, wr (by omega) (by omega), rfl, rfl⟩
theorem litJ_v (n : Int) (h0 : 0 ≤ n) (h1 : n < 65536) : litJ_t n := by
  unfold litJ_t
  refine ⟨fun h => by simp at h, fun _ => ⟨fun h => by simp at h, fun _ => ⟨fun _ => ⟨by decide, fun h => ?_, fun _ => ⟨h0, h1, (by first | rfl | trivial), (by first | rfl | trivial)⟩⟩, fun h => by simp at h⟩⟩⟩
  have e : (2 : Int) ^ min (Int.toNat (IntKind.wrap IntKind.i64 (8 * 2))) (IntKind.bits IntKind.u64) = 65536 := by decide
  rw [e, fdivp (by decide), Int.ediv_eq_zero_of_lt h0 h1] at h
  cases h
theorem ptl_eq {n : Int} (h0 : 0 ≤ n) (h1 : n ≤ 131072) :
    IntKind.wrap IntKind.i64 (Int.tdiv (IntKind.wrap IntKind.i64 (n + 3)) 4) = ptK n ∧ IntKind.wrap IntKind.i64 (n - IntKind.wrap IntKind.i64 (3 * ptK n)) = n - 3 * ptK n := by
  have e1 : IntKind.wrap IntKind.i64 (n + 3) = n + 3 := wr (by omega) (by omega)
  have e2 : Int.tdiv (n + 3) 4 = (n + 3) / 4 := Int.tdiv_eq_ediv_of_nonneg (by omega)
  have ek : ptK n = (n + 3) / 4 := rfl
  refine ⟨by rw [e1, e2]; exact wr (by omega) (by omega), ?_⟩
  rw [wr (n := 3 * ptK n) (by omega) (by omega), wr (by omega) (by omega)]
theorem ptlJ_v (n : Int) (h0 : 0 ≤ n) (h1 : n ≤ 131072) : ptlJ_t n := by
  unfold ptlJ_t
  obtain ⟨e1, e2⟩ := ptl_eq h0 h1
  rw [e1, e2]
  exact ⟨by omega, rfl, rfl, rfl⟩
theorem pt_neg' {n : Int} (h : n < 0) : ptE n = 2 ∧ ptV n = [0, 0, 0, 0] := by
  have : ptE n = 2 := by unfold ptE; rw [decide_eq_true h]; rfl
  exact ⟨this, by unfold ptV; rw [this]; rfl⟩
theorem pt_big {n : Int} (h : 131072 < n) : ptE n = 2 ∧ ptV n = [0, 0, 0, 0] := by
  have : ptE n = 2 := by unfold ptE; rw [decide_eq_true h, Bool.or_true]; rfl
  exact ⟨this, by unfold ptV; rw [this]; rfl⟩
theorem pt_few {n : Int} (h0 : 0 ≤ n) (h : n < 6) : ptE n = 20 ∧ ptV n = [0, 0, 0, 0] := by
  have : ptE n = 20 := by unfold ptE; rw [decide_eq_false (by omega), decide_eq_false (by omega), decide_eq_true h]; rfl
  exact ⟨this, by unfold ptV; rw [this]; rfl⟩
theorem pt_fine {n : Int} (h0 : 6 ≤ n) (h : n ≤ 131072) : ptE n = 0 ∧ ptV n = ptL n := by
  have : ptE n = 0 := by unfold ptE; rw [decide_eq_false (by omega), decide_eq_false (by omega), decide_eq_false (by omega)]; rfl
  exact ⟨this, by unfold ptV; rw [this]; rfl⟩
theorem ptvJ_v (n : Int) : ptvJ_t n := by
  unfold ptvJ_t
  simp only [gt_iff_lt, decide_eq_true_eq, decide_eq_false_iff_not]
  refine ⟨fun h => ?_, fun h => ⟨fun h2 => ?_, fun h2 => ⟨fun h3 => ?_, fun h3 => ?_⟩⟩⟩
  · obtain ⟨e1, e2⟩ := pt_neg' h
    exact ⟨rfl, (by first | rfl | trivial), e2.symm, e1.symm⟩
  · obtain ⟨e1, e2⟩ := pt_big h2
    exact ⟨rfl, (by first | rfl | trivial), e2.symm, e1.symm⟩
  · obtain ⟨e1, e2⟩ := pt_few (by omega) h3
    exact ⟨rfl, (by first | rfl | trivial), e2.symm, e1.symm⟩
  · obtain ⟨e1, e2⟩ := pt_fine (n := n) (by omega) (by omega)
    exact ⟨by omega, by omega, rfl, rfl, rfl, e2.symm, e1.symm⟩
theorem divJ_v (s : ByteArray) (p : List Int) (h : p.length = 4) : divJ_t s p := ⟨rfl, rfl⟩
theorem itDv_at {s : ByteArray} {p : List Int} {i : Nat} (h : i < 4) : (itDv s p)[i]? = some [.int .i64 (i : Nat), .string (pcS s p i)] := by
  unfold itDv
  rw [List.getElem?_map, List.getElem?_range h]
  rfl
theorem dvJ_v (s : ByteArray) (p : List Int) (hd : DvOk s p) (l0 : Nat) : dvJ_t s p l0 := by
  unfold dvJ_t
  refine ⟨hd.1.symm, (), 0, Nat.zero_le _, rfl, ⟨(by first | rfl | trivial), (by first | rfl | trivial), (by first | rfl | trivial), (by first | rfl | trivial), rfl⟩, fun i hi => ⟨fun hlt => ?_, fun hge => ?_⟩⟩
  · have hlt : (i : Int) < 4 := by simpa using hlt
    obtain ⟨p0, p1⟩ := hd.2 i (by omega)
    simp only [toNat_cast]
    refine ⟨by omega, by omega, hd.1.symm, by omega, p0, p1, (by first | rfl | trivial), itDv_at (by omega), ⟨p0, p1, by omega, i + 1, by rw [nle]; omega, rfl, by show 4 - (i + 1) < 4 - i; omega, (by first | rfl | trivial), (by first | rfl | trivial), by rw [wr (by omega) (by omega)]; push_cast; rfl, (by first | rfl | trivial), rfl⟩, trivial⟩
  · rw [nle] at hi
    have hge : ¬ (i : Int) < 4 := by simpa using hge
    show i = 4
    omega
theorem dv_isat (s : ByteArray) (p : List Int) (hd : DvOk s p) (k : Nat) : ISat Try.prog 54 [.p k 0 0, .p (k + 1) 0 0] [(k, .arr 36 (.ints .i64 p)), (k + 1, .cells 9 [.v (.string s)])] (itDv s p) := by
  have h0 : ISat Try.prog 54 [.p 0 0 0, .p 1 0 0] [(0, .arr 36 (.ints .i64 p)), (1, .cells 9 [.v (.string s)])] (itDv s p) :=
    isat_of_vcI (Ωi := fun l0 => oDvF l0 s p) AllOk.nil mixed Try.func54 (by kernel_rfl) fun l0 => by
      have := dvJ_v s p hd l0
      rw [dvJ_e] at this
      exact this
  exact h0.ren (fun i => k + i) (by intro a b _ _ e; omega) rfl rfl
theorem jn_app : ∀ (xs : List ByteArray) (a : ByteArray), xs.foldl (· ++ ·) a = a ++ jn xs
  | [], a => by show a = a ++ ByteArray.empty; rw [ByteArray.append_empty]
  | x :: r, a => by
    show r.foldl (· ++ ·) (a ++ x) = a ++ r.foldl (· ++ ·) (ByteArray.empty ++ x)
    rw [jn_app r (a ++ x), jn_app r (ByteArray.empty ++ x), ByteArray.empty_append, ByteArray.append_assoc]
theorem take_snocB {xs : List ByteArray} {i : Nat} (h : i < xs.length) : xs.take (i + 1) = xs.take i ++ [xs.getD i ByteArray.empty] := by
  rw [List.take_add_one, List.getElem?_eq_getElem h, List.getD_eq_getElem?_getD, List.getElem?_eq_getElem h]
  rfl
theorem jn_apd (a b : List ByteArray) : jn (a ++ b) = jn a ++ jn b := by
  show (a ++ b).foldl (· ++ ·) ByteArray.empty = _
  rw [List.foldl_append]
  exact jn_app b _
theorem jn_take (xs : List ByteArray) (i : Nat) : (jn (xs.take i)).size ≤ (jn xs).size := by
  conv => rhs; rw [← List.take_append_drop i xs, jn_apd, app_size]
  omega
theorem joinJ_v (xs : List ByteArray) (h0 : xs.length ≤ 4294967296) (h1 : (jn xs).size ≤ 4294967296) : joinJ_t xs := by
  unfold joinJ_t
  refine ⟨⟨0, Nat.zero_le _, rfl, (by first | rfl | trivial), (by first | rfl | trivial), (by first | rfl | trivial)⟩, fun i hi => ⟨fun hlt => ?_, fun hge => ?_⟩⟩
  · rw [nle] at hi
    have hlt : (i : Int) < xs.length := by simpa using hlt
    have hi' : i < xs.length := by omega
    have e : jn (xs.take (i + 1)) = jn (xs.take i) ++ xs.getD i ByteArray.empty := by rw [take_snocB hi', jn_snoc]
    have hs := jn_take xs (i + 1)
    rw [e, app_size] at hs
    simp only [toNat_cast]
    exact ⟨by omega, by omega, by omega, i + 1, by rw [nle]; omega, by show xs.length - (i + 1) < xs.length - i; omega, e.symm, (by first | rfl | trivial), (by first | rfl | trivial), by rw [wr (by omega) (by omega)]; push_cast; rfl⟩
  · rw [nle] at hi
    have hge : ¬ (i : Int) < xs.length := by simpa using hge
    rw [List.take_of_length_le (by omega)]
theorem wrO_err {l : List Int} {s : ByteArray} (h : txE l s ≠ 0) : wrO l s = ByteArray.empty ∧ szO l s = 0 := by
  unfold wrO szO
  rw [beq_eq_false_iff_ne.2 h]
  exact ⟨rfl, rfl⟩
theorem wrO_ok {l : List Int} {s : ByteArray} (h : txE l s = 0) : wrO l s = wrH l s ∧ szO l s = (wrH l s).size := by
  unfold wrO szO
  rw [h]
  exact ⟨rfl, rfl⟩
theorem wroJ_v (l : List Int) (s : ByteArray) (h0 : l.length ≤ 4294967296) (h1 : s.size ≤ 40000) : wroJ_t l s := by
  unfold wroJ_t
  refine ⟨h0, by omega, fun h => ⟨(wrO_err (nz h)).1.symm, rfl⟩, fun h => ?_⟩
  have e := eq0 h
  exact ⟨(tx_ok e).1, e, by omega, (wrO_ok e).1.symm, e.symm⟩
theorem szoJ_v (l : List Int) (s : ByteArray) (h0 : l.length ≤ 4294967296) (h1 : s.size ≤ 40000) : szoJ_t l s := by
  unfold szoJ_t
  refine ⟨h0, by omega, fun h => ⟨(wrO_err (nz h)).2.symm, rfl⟩, fun h => ?_⟩
  have e := eq0 h
  exact ⟨(tx_ok e).1, e, by omega, (wrO_ok e).2.symm, e.symm⟩
theorem nu_0 {l : List Int} {n : Int} (h : nuE l n = 0) : chk l = 0 ∧ lchk l = 0 ∧ 0 ≤ n ∧ n ≤ 131072 := by
  unfold nuE at h
  by_cases h1 : lchk l = 0
  · rw [h1] at h
    cases h2 : decide (n < 0) || decide (131072 < n)
    · rw [Bool.or_eq_false_iff] at h2
      have a := h2.1
      have b := h2.2
      simp only [decide_eq_false_iff_not] at a b
      exact ⟨lchk_0 h1, h1, by omega, by omega⟩
    · rw [h2] at h; cases h
  · rw [beq_eq_false_iff_ne.2 h1] at h
    exact absurd h h1
theorem rO_err {l : List Int} {b : ByteArray} {n : Int} (h : nuE l n ≠ 0) : rO l b n = ByteArray.empty ∧ rE l b n = nuE l n := by
  unfold rO rE
  rw [beq_eq_false_iff_ne.2 h]
  exact ⟨rfl, rfl⟩
theorem rO_ok {l : List Int} {b : ByteArray} {n : Int} (h : nuE l n = 0) : rO l b n = rdS l b n ∧ rE l b n = rdE l b n := by
  unfold rO rE
  rw [h]
  exact ⟨rfl, rfl⟩
theorem rdoJ_v (l : List Int) (b : ByteArray) (n : Int) (h0 : l.length ≤ 4294967296) (h1 : b.size ≤ 4294967296) : rdoJ_t l b n := by
  unfold rdoJ_t
  refine ⟨h0, fun h => ⟨(rO_err (nz h)).1.symm, (rO_err (nz h)).2.symm⟩, fun h => ?_⟩
  have e := eq0 h
  obtain ⟨a, _, c, d⟩ := nu_0 e
  exact ⟨a, h1, c, d, (rO_ok e).1.symm, (rO_ok e).2.symm⟩
theorem w4J_v (l : List Int) (s : ByteArray) (h0 : l.length ≤ 4294967296) (h1 : s.size ≤ 40000) : w4J_t l s := by
  unfold w4J_t
  refine ⟨h0, by omega, ⟨fun h => ⟨fun h2 => ⟨(), trivial, (by first | rfl | trivial), ?_, (by first | rfl | trivial), (by first | rfl | trivial), (by first | rfl | trivial)⟩, fun h2 => ⟨(), trivial, (by first | rfl | trivial), ?_, (by first | rfl | trivial), (by first | rfl | trivial), (by first | rfl | trivial)⟩⟩, fun h => ⟨(), trivial, (by first | rfl | trivial), ?_, (by first | rfl | trivial), (by first | rfl | trivial), (by first | rfl | trivial)⟩⟩, fun _ _ => ⟨fun h => ?_, fun h => ?_⟩⟩
  · have : (s.size : Int) < 6 := by simpa using h2
    exact (w4E_few (eq_of_beq h) (by omega)).1.symm
  · have : ¬ (s.size : Int) < 6 := by simpa using h2
    rw [(w4E_ok (eq_of_beq h) (by omega)).1]
    exact eq_of_beq h
  · exact (w4E_err (ne_of_beq_false h)).1.symm
  · have hn := nz h
    refine ⟨?_, rfl⟩
    unfold w4O
    rw [beq_eq_false_iff_ne.2 hn]
    rfl
  · have he := eq0 h
    obtain ⟨hx, h6, hO⟩ := w4E_0 he
    obtain ⟨hc, hlc, hs, ht⟩ := tx_ok hx
    have hg := good hc
    have hd := pt_dv (s := s) (by omega)
    have hit : (([Value.int IntKind.i64 (↑((0 : Nat)) : Int), Value.string (pcS s (ptL (↑(ByteArray.size s) : Int)) ((0 : Nat)))] :: List.map (fun (i : Nat) => [Value.int IntKind.i64 (↑i : Int), Value.string (pcS s (ptL (↑(ByteArray.size s) : Int)) i)]) [(1 : Nat), (2 : Nat), (3 : Nat)])) = itDv s (ptL s.size) := rfl
    have hlen : (itDv s (ptL s.size)).length = 4 := rfl
    rw [hit, hlen]
    refine ⟨by omega, by omega, rfl, 0, dv_isat s (ptL s.size) hd 800032, ⟨(by first | rfl | trivial), (by first | rfl | trivial)⟩, trivial, ⟨(by first | rfl | trivial), (by first | rfl | trivial), (by first | rfl | trivial), (by first | rfl | trivial), (by first | rfl | trivial)⟩, fun i hi _ => ?_, fun _ => ?_⟩
    · have q1 := pc_ok ht (ptL s.size) i
      have q2 := pc_le s (ptL s.size) i
      have q3 := st_size hg ht h1 i
      have q7 := strs_len l s i
      have q8 := heads_len l s i
      have ew : wrH l (pcS s (ptL s.size) i) = stH l s i := rfl
      rw [ew]
      have eu : IntKind.wrap IntKind.u64 ((stH l s i).size : Int) = ((stH l s i).size : Int) := wru (by omega) (by omega)
      rw [eu]
      refine ⟨itDv_at hi, rfl, hc, ok_tx hlc (by omega) q1, by omega, fun h3 => ⟨fun h4 => ?_, fun h4 => ⟨by omega, by omega, by omega, by omega, trivial, (by first | rfl | trivial), (by first | rfl | trivial), (by first | rfl | trivial), ?_, ?_⟩⟩, fun h3 => ⟨by omega, trivial, (by first | rfl | trivial), (by first | rfl | trivial), (by first | rfl | trivial), ?_, ?_⟩⟩
      · have : ((stH l s i).size : Int) > 65535 := by simpa using h4
        omega
      · have h3 : (i : Int) < 3 := by simpa using h3
        rw [heads_succ l s (by omega)]
      · rw [strs_succ]
      · have h3 : ¬ (i : Int) < 3 := by simpa using h3
        rw [heads_all l s (by omega)]
      · rw [strs_succ]
    · have q4 := strs_size hg ht h1 4
      have q5 := heads_size l s 4
      have q7 := strs_len l s 4
      have q8 := heads_len l s 4
      rw [jn_two, app_size, hO]
      exact ⟨by omega, by omega, by omega, by omega, by show (2 : Nat) ≤ _; omega, by omega, rfl, he.symm⟩
end Go.Proofs.Ytmdbliacaeokaaa
namespace Go.Proofs.Ytmdbliacaeokaaa
open Go Go.RowKit
set_option linter.unusedVariables false
set_option linter.unusedSimpArgs false
set_option maxRecDepth 100000
theorem z4_rng (b : ByteArray) (i : Nat) : 0 ≤ z4 b i ∧ z4 b i < 65536 := by
  have h1 := byI_rng b (2 * i)
  have h2 := byI_rng b (2 * i + 1)
  unfold z4 le16
  omega
theorem at4_0 (b : ByteArray) : at4 b 0 = 6 := rfl
theorem at4_1 (b : ByteArray) : at4 b 1 = 6 + z4 b 0 := by
  show 6 + ([z4 b 0] : List Int).sum = _
  simp
theorem at4_2 (b : ByteArray) : at4 b 2 = 6 + z4 b 0 + z4 b 1 := by
  show 6 + ([z4 b 0, z4 b 1] : List Int).sum = _
  simp
  omega
theorem at4_3 (b : ByteArray) : at4 b 3 = 6 + z4 b 0 + z4 b 1 + z4 b 2 := by
  show 6 + ([z4 b 0, z4 b 1, z4 b 2] : List Int).sum = _
  simp
  omega
theorem at4_4 (b : ByteArray) : at4 b 4 = b.size := by
  show 6 + (q4 b).sum = _
  unfold q4
  simp
  omega
theorem q4_3 (b : ByteArray) : (q4 b).getD 3 0 = b.size - at4 b 3 := by
  rw [at4_3]
  show (b.size : Int) - 6 - z4 b 0 - z4 b 1 - z4 b 2 = _
  omega
theorem at4_succ (b : ByteArray) {i : Nat} (h : i < 4) : at4 b (i + 1) = at4 b i + (q4 b).getD i 0 := by
  have : i = 0 ∨ i = 1 ∨ i = 2 ∨ i = 3 := by omega
  rcases this with rfl | rfl | rfl | rfl
  · rw [at4_0, at4_1]; rfl
  · rw [at4_1, at4_2]; rfl
  · rw [at4_2, at4_3]; rfl
  · rw [at4_4, q4_3]; omega
theorem at4_rng (b : ByteArray) {i : Nat} (h : i ≤ 3) : 6 ≤ at4 b i ∧ at4 b i ≤ 6 + 65536 * i := by
  have h0 := z4_rng b 0
  have h1 := z4_rng b 1
  have h2 := z4_rng b 2
  have : i = 0 ∨ i = 1 ∨ i = 2 ∨ i = 3 := by omega
  rcases this with rfl | rfl | rfl | rfl
  · rw [at4_0]; omega
  · rw [at4_1]; omega
  · rw [at4_2]; omega
  · rw [at4_3]; omega
structure Q4 (b : ByteArray) : Prop where
  s6 : 6 ≤ b.size
  fit : at4 b 3 ≤ b.size
theorem q4_le {b : ByteArray} (h : Q4 b) {i : Nat} (hi : i < 4) : 0 ≤ (q4 b).getD i 0 ∧ at4 b i + (q4 b).getD i 0 ≤ b.size := by
  have h0 := z4_rng b 0
  have h1 := z4_rng b 1
  have h2 := z4_rng b 2
  have hf := h.fit
  rw [at4_3] at hf
  have : i = 0 ∨ i = 1 ∨ i = 2 ∨ i = 3 := by omega
  rcases this with rfl | rfl | rfl | rfl
  · rw [at4_0]; show 0 ≤ z4 b 0 ∧ 6 + z4 b 0 ≤ _; omega
  · rw [at4_1]; show 0 ≤ z4 b 1 ∧ 6 + z4 b 0 + z4 b 1 ≤ _; omega
  · rw [at4_2]; show 0 ≤ z4 b 2 ∧ 6 + z4 b 0 + z4 b 1 + z4 b 2 ≤ _; omega
  · rw [q4_3, at4_3]; omega
theorem q4_off {b : ByteArray} (h : Q4 b) : ∀ i, i ≤ 4 → ((offP (q4 b) i : Nat) : Int) + 6 = at4 b i
  | 0, _ => by rw [at4_0]; rfl
  | i + 1, hi => by
    have ih := q4_off h i (by omega)
    have hq := q4_le h (i := i) (by omega)
    rw [at4_succ b (by omega), ← ih]
    simp only [offP]
    omega
theorem q4_dv {b : ByteArray} (h : Q4 b) : DvOk (b.extract 6 b.size) (q4 b) := by
  refine dv_of rfl (fun i hi => (q4_le h hi).1) ?_
  have := q4_off h 4 (Nat.le_refl _)
  rw [at4_4] at this
  rw [ext_size (Nat.le_refl _)]
  have := h.s6
  omega
theorem p4_ext {b : ByteArray} (h : Q4 b) {i : Nat} (hi : i < 4) : b.extract (at4 b i).toNat (at4 b (i + 1)).toNat = p4 b i := by
  have ho := q4_off h i (by omega)
  have hq := q4_le h hi
  have hs := at4_succ b hi
  have hl := bytes_len b
  apply bytes_inj
  unfold p4
  rw [ext_bytes, pc_bytes, ext_bytes, List.take_of_length_le (l := List.drop 6 (bytesN b)) (by rw [List.length_drop, hl]; omega), List.drop_drop]
  congr 1
  · omega
  · congr 1
    omega
theorem p4_size {b : ByteArray} (h : Q4 b) {i : Nat} (hi : i < 4) : ((p4 b i).size : Int) = (q4 b).getD i 0 := by
  have ho := q4_off h i (by omega)
  have hq := q4_le h hi
  have hs := at4_succ b hi
  rw [← p4_ext h hi, ext_size (by omega)]
  omega
theorem e4_nu {l : List Int} {b : ByteArray} {n : Int} (h : nuE l n ≠ 0) : e4 l b n = nuE l n := by
  unfold e4
  rw [beq_eq_false_iff_ne.2 h]
  rfl
theorem e4_few {l : List Int} {b : ByteArray} {n : Int} (h : nuE l n = 0) (h6 : n < 6) : e4 l b n = 20 := by
  unfold e4
  rw [h, decide_eq_true h6]
  rfl
theorem e4_short {l : List Int} {b : ByteArray} {n : Int} (h : nuE l n = 0) (h6 : ¬ n < 6) (hb : b.size < 6 ∨ (q4 b).getD 3 0 < 0) : e4 l b n = 22 := by
  unfold e4
  have : (decide (b.size < 6) || decide ((q4 b).getD 3 0 < 0)) = true := by simpa using hb
  rw [h, decide_eq_false h6, this]
  rfl
theorem e4_ok {l : List Int} {b : ByteArray} {n : Int} (h : nuE l n = 0) (h6 : ¬ n < 6) (hb : ¬ b.size < 6) (hq : ¬ (q4 b).getD 3 0 < 0) : e4 l b n = 0 := by
  unfold e4
  rw [h, decide_eq_false h6, decide_eq_false hb, decide_eq_false hq]
  rfl
theorem e4_0 {l : List Int} {b : ByteArray} {n : Int} (h : e4 l b n = 0) : nuE l n = 0 ∧ 6 ≤ n ∧ Q4 b := by
  by_cases h1 : nuE l n = 0
  · by_cases h2 : n < 6
    · rw [e4_few h1 h2] at h; cases h
    · by_cases h3 : b.size < 6 ∨ (q4 b).getD 3 0 < 0
      · rw [e4_short h1 h2 h3] at h; cases h
      · have h4 := q4_3 b
        exact ⟨h1, by omega, by omega, by omega⟩
  · rw [e4_nu h1] at h
    exact absurd h h1
theorem r4_err {l : List Int} {b : ByteArray} {n e : Int} (h : e4 l b n = e) (he : e ≠ 0) : ByteArray.empty = r4O l b n ∧ (0 : Int) = r4P l b n ∧ e = r4E l b n := by
  unfold r4O r4P r4E
  rw [h, beq_eq_false_iff_ne.2 he]
  exact ⟨rfl, rfl, rfl⟩
theorem ok4_succ (l : List Int) (b : ByteArray) (n : Int) (i : Nat) : ok4 l b n (i + 1) = (ok4 l b n i && (x4 l b n i).isSome) := by
  unfold ok4
  rw [List.range_succ, List.all_append]
  simp
theorem ok4_mono {l : List Int} {b : ByteArray} {n : Int} {i j : Nat} (h : i ≤ j) (hj : ok4 l b n j = true) : ok4 l b n i = true := by
  unfold ok4 at hj ⊢
  rw [List.all_eq_true] at hj ⊢
  intro x hx
  rw [List.mem_range] at hx
  exact hj x (List.mem_range.2 (by omega))
theorem r4_bad {l : List Int} {b : ByteArray} {n : Int} (h : e4 l b n = 0) {i : Nat} (hi : i < 4) (ho : ok4 l b n i = true) (hx : x4 l b n i = none) : ByteArray.empty = r4O l b n ∧ at4 b i = r4P l b n ∧ (22 : Int) = r4E l b n := by
  have hno : ok4 l b n 4 = false := by
    rw [Bool.eq_false_iff]
    intro h4
    have := ok4_mono (show i + 1 ≤ 4 by omega) h4
    rw [ok4_succ, hx] at this
    simp at this
  have hb : bad4 l b n = i := by
    unfold bad4
    have hall : ∀ j, j < i → (x4 l b n j).isSome = true := fun j hj => by
      unfold ok4 at ho
      rw [List.all_eq_true] at ho
      exact ho j (List.mem_range.2 hj)
    rw [List.findIdx_eq (by simpa using hi)]
    refine ⟨by simp [hx], fun j hj => ?_⟩
    have := hall j hj
    simp [this]
  unfold r4O r4P r4E
  rw [h, hno, hb]
  exact ⟨rfl, rfl, rfl⟩
theorem r4_all {l : List Int} {b : ByteArray} {n : Int} (h : e4 l b n = 0) (ho : ok4 l b n 4 = true) : out4 l b n 4 = r4O l b n ∧ (0 : Int) = r4P l b n ∧ (0 : Int) = r4E l b n := by
  unfold r4O r4P r4E
  rw [h, ho]
  exact ⟨rfl, rfl, rfl⟩
theorem rdE_some {l : List Int} {b : ByteArray} {n : Int} (h : rdE l b n = 0) : ∃ o, rdX l b n = some o := by
  unfold rdE at h
  cases hx : rdX l b n with
  | none => rw [hx] at h; cases h
  | some o => exact ⟨o, rfl⟩
theorem rdE_none {l : List Int} {b : ByteArray} {n : Int} (h : rdE l b n ≠ 0) : rdX l b n = none := by
  unfold rdE at h
  cases hx : rdX l b n with
  | none => rfl
  | some o => rw [hx] at h; exact absurd rfl h
theorem oS_size {l : List Int} (hg : Good l) {b : ByteArray} {n : Int} (hn : 0 ≤ n) : ((oS (rdX l b n)).size : Int) ≤ n := by
  cases hx : rdX l b n with
  | none => exact hn
  | some o =>
    obtain ⟨_, h2, _⟩ := rd_inj hg hn hx
    show ((strOfNums o).size : Int) ≤ n
    rw [strOfNums_size]
    omega
theorem out4_size {l : List Int} (hg : Good l) {b : ByteArray} {n : Int} (hn : 6 ≤ n) (hn2 : n ≤ 131072) : ∀ i, i ≤ 4 → (out4 l b n i).size ≤ i * 131072
  | 0, _ => Nat.zero_le _
  | i + 1, hi => by
    have ih := out4_size hg (b := b) hn hn2 i (by omega)
    have hp := ptL_bd hn (i := i) (by omega)
    have := oS_size hg (b := p4 b i) hp.1
    show (out4 l b n i ++ oS (x4 l b n i)).size ≤ _
    rw [app_size]
    unfold x4
    omega
theorem three_cases {i : Nat} (h : i < 3) : i = 0 ∨ i = 1 ∨ i = 2 := by omega
theorem r4J_v (l : List Int) (b : ByteArray) (n : Int) (h0 : l.length ≤ 4294967296) (h1 : b.size ≤ 4294967296) : r4J_t l b n := by
  unfold r4J_t
  refine ⟨h0, fun h => r4_err (e4_nu (nz h)) (nz h), fun h => ?_⟩
  have hnu := eq0 h
  obtain ⟨hc, _, hn0, hn1⟩ := nu_0 hnu
  have hg := good hc
  refine ⟨fun h6 => ?_, fun h6 => ?_⟩
  · have h6 : n < 6 := by simpa using h6
    exact r4_err (e4_few hnu h6) (by decide)
  have h6 : ¬ n < 6 := by simpa using h6
  refine ⟨fun hb => ?_, fun hb => ?_⟩
  · have hb : (b.size : Int) < 6 := by simpa using hb
    exact r4_err (e4_short hnu h6 (.inl (by omega))) (by decide)
  · have hb : ¬ (b.size : Int) < 6 := by simpa using hb
    have ez6 : IntKind.wrap IntKind.i64 ((b.size : Int) - 6) = (b.size : Int) - 6 := wr (by omega) (by omega)
    refine ⟨by omega, by omega, by decide, ⟨0, ⟨by omega, hnu, by omega, by omega⟩, (by first | rfl | trivial), (by first | rfl | trivial), (by first | rfl | trivial), (by first | rfl | trivial), (by first | rfl | trivial), (by first | rfl | trivial), (by first | rfl | trivial), by rw [ez6]; rfl⟩, fun i ⟨hi, _⟩ => ⟨fun hlt => ?_, fun hge => ?_⟩⟩
    · have hlt : (i : Int) < 3 := by simpa using hlt
      have hi' : i < 3 := by omega
      have e2i : IntKind.wrap IntKind.i64 (2 * (i : Int)) = 2 * (i : Int) := wr (by omega) (by omega)
      have ez : le16 b (Int.toNat (2 * (i : Int))) = z4 b i := by
        unfold z4
        rw [show Int.toNat (2 * (i : Int)) = 2 * i by omega]
      have hz := z4_rng b i
      have z0 := z4_rng b 0
      have z1 := z4_rng b 1
      have z2 := z4_rng b 2
      rw [e2i, ez, wr (n := z4 b i) (by omega) (by omega)]
      have hlen : (q4P b i).length = 4 := by rcases three_cases hi' with rfl | rfl | rfl <;> rfl
      simp only [List.length_set, hlen, toNat_cast]
      refine ⟨by omega, by omega, h1, by omega, by omega, by omega, by omega, by omega, by decide, by omega, by omega, by omega, by omega, by omega, by decide, i + 1, ⟨by omega, hnu, by omega, by omega⟩, by show 3 - (i + 1) < 3 - i; omega, (by first | rfl | trivial), (by first | rfl | trivial), by rw [wr (by omega) (by omega)]; push_cast; rfl, (by first | rfl | trivial), (by first | rfl | trivial), (by first | rfl | trivial), (by first | rfl | trivial), ?_⟩
      rcases three_cases hi' with rfl | rfl | rfl
      · show [z4 b 0, 0, 0, IntKind.wrap IntKind.i64 ((b.size : Int) - 6 - z4 b 0)] = [z4 b 0, 0, 0, (b.size : Int) - 6 - z4 b 0]
        rw [wr (by omega) (by omega)]
      · show [z4 b 0, z4 b 1, 0, IntKind.wrap IntKind.i64 ((b.size : Int) - 6 - z4 b 0 - z4 b 1)] = [z4 b 0, z4 b 1, 0, (b.size : Int) - 6 - z4 b 0 - z4 b 1]
        rw [wr (by omega) (by omega)]
      · show [z4 b 0, z4 b 1, z4 b 2, IntKind.wrap IntKind.i64 ((b.size : Int) - 6 - z4 b 0 - z4 b 1 - z4 b 2)] = [z4 b 0, z4 b 1, z4 b 2, (b.size : Int) - 6 - z4 b 0 - z4 b 1 - z4 b 2]
        rw [wr (by omega) (by omega)]
    · have hge : ¬ (i : Int) < 3 := by simpa using hge
      have : i = 3 := by omega
      subst this
      have e3 : q4P b 3 = q4 b := rfl
      have e33 : (q4 b).getD (Int.toNat 3) 0 = (q4 b).getD 3 0 := rfl
      have hq3 := q4_3 b
      rw [e3, e33]
      refine ⟨by omega, by omega, by show 3 < 4; omega, fun hf => ?_, fun hf => ?_⟩
      · have hf : (q4 b).getD 3 0 < 0 := by simpa using hf
        exact r4_err (e4_short hnu h6 (.inr hf)) (by decide)
      · have hf : ¬ (q4 b).getD 3 0 < 0 := by simpa using hf
        have he : e4 l b n = 0 := e4_ok hnu h6 (by omega) hf
        have hQ : Q4 b := ⟨by omega, by omega⟩
        have hit : ([Value.int IntKind.i64 (↑((0 : Nat)) : Int), Value.string (pcS (ByteArray.extract b (6 : Nat) (ByteArray.size b)) (q4 b) ((0 : Nat)))] :: List.map (fun (i : Nat) => [Value.int IntKind.i64 (↑i : Int), Value.string (pcS (ByteArray.extract b (6 : Nat) (ByteArray.size b)) (q4 b) i)]) [(1 : Nat), (2 : Nat), (3 : Nat)]) = itDv (b.extract 6 b.size) (q4 b) := rfl
        have hlen : (itDv (b.extract 6 b.size) (q4 b)).length = 4 := rfl
        rw [hit, hlen]
        refine ⟨hn0, hn1, rfl, rfl, by omega, by omega, by omega, rfl, rfl, 0, dv_isat _ _ (q4_dv hQ) 2200024, ⟨(by first | rfl | trivial), rfl⟩, rfl, ⟨(by first | rfl | trivial), (by first | rfl | trivial), (by first | rfl | trivial), (by first | rfl | trivial), rfl, rfl, (by first | rfl | trivial)⟩, fun i hi ho => ?_, fun ho => r4_all he ho⟩
        have hp := ptL_bd (n := n) (by omega) hi
        have hq := q4_le hQ hi
        have hs := at4_succ b hi
        have hps := p4_size hQ hi
        have ha := at4_rng b (i := min i 3) (by omega)
        have ha' : 6 ≤ at4 b i := by rw [show min i 3 = i by omega] at ha; exact ha.1
        have hos := out4_size hg (b := b) (n := n) (by omega) hn1 i (by omega)
        have hrs := oS_size hg (b := p4 b i) hp.1
        simp only [toNat_cast]
        refine ⟨itDv_at hi, rfl, by omega, by omega, hi, hc, by omega, hp.1, by omega, fun hx => r4_bad he hi ho (rdE_none (nz hx)), fun hx => ?_⟩
        obtain ⟨o, hxo⟩ := rdE_some (eq0 hx)
        refine ⟨by show (out4 l b n i).size + (oS (rdX l (p4 b i) ((ptL n).getD i 0))).size ≤ _; omega, ?_, (by first | rfl | trivial), (by first | rfl | trivial), (by first | rfl | trivial), (by first | rfl | trivial), rfl, by rw [wr (by omega) (by omega), hs, hps], (by first | rfl | trivial)⟩
        rw [ok4_succ, ho]
        show (true && (rdX l (p4 b i) ((ptL n).getD i 0)).isSome) = true
        rw [hxo]
        rfl
end Go.Proofs.Ytmdbliacaeokaaa
namespace Go.Proofs.Ytmdbliacaeokaaa
open Go Go.RowKit
set_option linter.unusedVariables false
set_option maxRecDepth 100000
def shownL : List Int := List.set (List.set (List.set (List.replicate 100 0) 97 1) 98 2) 99 2
def wrsB (s w : ByteArray) : Bool := (txE shownL s == 0) && (wrO shownL s).toList == w.toList
def rdsB (b : ByteArray) (n : Int) (w : ByteArray) (e : Int) : Bool := (rO shownL b n).toList == w.toList && rE shownL b n == e
def cmN (nums : List Int) : Nat := max 2 (min nums.length 12)
def cmX (nums : List Int) (i : Nat) : Int := 1 + md (atL nums i) 100
def cmP (nums : List Int) (i : Nat) : List Int := List.replicate 97 0 ++ ((List.range i).map (cmX nums) ++ List.replicate (13 - i) 0)
def cmL (nums : List Int) : List Int := cmP nums (cmN nums)
def mdL (nums : List Int) : List Int := ofL (cmL nums)
def mdC (nums text : List Int) (i : Nat) : List Int := (text.take i).map fun x => 97 + md x (cmN nums)
def mdS (nums text : List Int) : ByteArray := strOfNums (mdC nums text (min text.length 100))
end Go.Proofs.Ytmdbliacaeokaaa
namespace Go.Proofs.Ytmdbliacaeokaaa
open Go Go.RowKit
set_option linter.unusedVariables false
set_option linter.unusedSimpArgs false
set_option maxRecDepth 100000
def sShown : Spec where
  ι := Unit
  dec l H := match l with
    | [] => some ((), [])
    | _ => none
  args := fun _ => []
  out := fun _ => .leaf (.o 2000) [(2000, .row 3 (.ints .i64 shownL))]
theorem sShown_enc : ∀ l H n i ls, sShown.dec l H = some (i, ls) → l = renL (rho ls n) (sShown.args i) ∧ givenHp H ls = renH (rho ls n) (sShown.hp i) := by
  intro l H n i ls h
  simp only [sShown] at h
  repeat' split at h
  all_goals first
    | (cases h; done)
    | (cases h; exact ⟨rfl, rfl⟩)
def sWrs : Spec where
  ι := ByteArray × ByteArray
  dec l H := match l with
    | [.v (.string s), .v (.string w)] => some ((s, w), [])
    | _ => none
  args := fun (s, w) => [.v (.string s), .v (.string w)]
  pre := fun (s, w) => [⟨s.size ≤ 40000, inferInstance⟩]
  out := fun (s, w) => .leaf (.v (.bool (wrsB s w))) []
theorem sWrs_enc : ∀ l H n i ls, sWrs.dec l H = some (i, ls) → l = renL (rho ls n) (sWrs.args i) ∧ givenHp H ls = renH (rho ls n) (sWrs.hp i) := by
  intro l H n i ls h
  simp only [sWrs] at h
  repeat' split at h
  all_goals first
    | (cases h; done)
    | (cases h; exact ⟨rfl, rfl⟩)
def sRds : Spec where
  ι := ByteArray × Int × ByteArray × Int
  dec l H := match l with
    | [.v (.string b), .v (.int .i64 n), .v (.string w), .v (.int .i64 e)] => some ((b, n, w, e), [])
    | _ => none
  args := fun (b, n, w, e) => [.v (.string b), .v (.int .i64 n), .v (.string w), .v (.int .i64 e)]
  pre := fun (b, n, w, e) => [⟨b.size ≤ 4294967296, inferInstance⟩]
  out := fun (b, n, w, e) => .leaf (.v (.bool (rdsB b n w e))) []
theorem sRds_enc : ∀ l H n i ls, sRds.dec l H = some (i, ls) → l = renL (rho ls n) (sRds.args i) ∧ givenHp H ls = renH (rho ls n) (sRds.hp i) := by
  intro l H n i ls h
  simp only [sRds] at h
  repeat' split at h
  all_goals first
    | (cases h; done)
    | (cases h; exact ⟨rfl, rfl⟩)
def sTrue : Spec where
  ι := Unit
  dec l H := match l with
    | [] => some ((), [])
    | _ => none
  args := fun _ => []
  out := fun _ => .leaf (.v (.bool true)) []
theorem sTrue_enc : ∀ l H n i ls, sTrue.dec l H = some (i, ls) → l = renL (rho ls n) (sTrue.args i) ∧ givenHp H ls = renH (rho ls n) (sTrue.hp i) := by
  intro l H n i ls h
  simp only [sTrue] at h
  repeat' split at h
  all_goals first
    | (cases h; done)
    | (cases h; exact ⟨rfl, rfl⟩)
def sMade : Spec where
  ι := List Int × List Int
  dec l H := match l with
    | [.dat (.ints .i64 nums), .dat (.ints .i64 text)] => some ((nums, text), [])
    | _ => none
  args := fun (nums, text) => [.dat (.ints .i64 nums), .dat (.ints .i64 text)]
  out := fun (nums, text) => .leaf (.tu [.o 2000, .v (.string (mdS nums text)), .v (.bool true)]) [(2000, .row 3 (.ints .i64 (mdL nums)))]
theorem sMade_enc : ∀ l H n i ls, sMade.dec l H = some (i, ls) → l = renL (rho ls n) (sMade.args i) ∧ givenHp H ls = renH (rho ls n) (sMade.hp i) := by
  intro l H n i ls h
  simp only [sMade] at h
  repeat' split at h
  all_goals first
    | (cases h; done)
    | (cases h; exact ⟨rfl, rfl⟩)
def oMdA (nums text : List Int) : LoopInv := { ι := Nat, p := fun i => i ≤ cmN nums, tm := fun i => [(0, .dat (.ints .i64 nums)), (1, .dat (.ints .i64 text)), (7, .o 5000), (8, .v (.int .i64 (i : Nat)))], hp := fun i => [(5000, .row 3 (.ints .i64 (cmP nums i)))], μ := fun i => cmN nums - i }
def oMdC (nums text : List Int) : LoopInv := { ι := Unit, p := fun _ => True, tm := fun _ => [(0, .dat (.ints .i64 nums)), (1, .dat (.ints .i64 text)), (7, .o 5000)], hp := fun _ => [(5000, .row 3 (.ints .i64 (cmL nums)))], μ := fun _ => 0 }
def oMdB (nums text : List Int) : LoopInv := { ι := Nat, p := fun i => i ≤ min text.length 100, tm := fun i => [(1, .dat (.ints .i64 text)), (9, .o 5000), (10, .v (.int .i64 0)), (11, .v (.int .i64 (cmN nums : Nat))), (12, .v (.string (strOfNums (mdC nums text i)))), (13, .v (.int .i64 (i : Nat)))], hp := fun _ => [(5000, .row 3 (.ints .i64 (mdL nums)))], μ := fun i => 100 - i }
def oMdD (nums text : List Int) : LoopInv := { ι := Unit, p := fun _ => True, tm := fun _ => [(9, .o 5000), (10, .v (.int .i64 0)), (12, .v (.string (mdS nums text)))], hp := fun _ => [(5000, .row 3 (.ints .i64 (mdL nums)))], μ := fun _ => 0 }
def oMd (nums text : List Int) : Nat → Option LoopFam := fun k => cond (Nat.beq k 0) (some (.one (oMdA nums text))) (cond (Nat.beq k 1) (some (.one (oMdB nums text))) (cond (Nat.beq k 1006) (some (.one (oMdC nums text))) (cond (Nat.beq k 1013) (some (.one (oMdD nums text))) none)))
def GUg : List (Nat × Ctr) := (24, sShown.ctr) :: (45, sOf.ctr) :: (28, sMd.ctr) :: (44, sAtL.ctr) :: GUf
def GUh : List (Nat × Ctr) := (25, sWrs.ctr) :: (26, sRds.ctr) :: (27, sMade.ctr) :: GUg
def GUi : List (Nat × Ctr) := (9, sTrue.ctr) :: GUh
def GUj : List (Nat × Ctr) := (5, sTrue.ctr) :: GUi
end Go.Proofs.Ytmdbliacaeokaaa
namespace Go.Proofs.Ytmdbliacaeokaaa
open Go Go.RowKit
set_option linter.unusedVariables false
set_option maxRecDepth 100000
def shownN_t  : Prop :=
 (0 : Int) ≤ (100 : Int) ∧
 (100 : Int) ≤ (100 : Int) ∧
 (↑((8 : Nat)) : Int) * (100 : Int) ≤ (281474976710656 : Int) ∧
 (100 : Int) ≤ (9223372036854775807 : Int) ∧
 (0 : Int) ≤ (97 : Int) ∧
 (97 : Int) < (↑(List.length (List.replicate (Int.toNat (100 : Int)) (0 : Int))) : Int) ∧
 Int.toNat (97 : Int) < List.length (List.replicate (Int.toNat (100 : Int)) (0 : Int)) ∧
 (0 : Int) ≤ (98 : Int) ∧
 (98 : Int) < (↑(List.length (List.set (List.replicate (Int.toNat (100 : Int)) (0 : Int)) (Int.toNat (97 : Int)) (1 : Int))) : Int) ∧
 Int.toNat (98 : Int) < List.length (List.set (List.replicate (Int.toNat (100 : Int)) (0 : Int)) (Int.toNat (97 : Int)) (1 : Int)) ∧
 (0 : Int) ≤ (99 : Int) ∧
 (99 : Int) < (↑(List.length (List.set (List.set (List.replicate (Int.toNat (100 : Int)) (0 : Int)) (Int.toNat (97 : Int)) (1 : Int)) (Int.toNat (98 : Int)) (2 : Int))) : Int) ∧
 Int.toNat (99 : Int) < List.length (List.set (List.set (List.replicate (Int.toNat (100 : Int)) (0 : Int)) (Int.toNat (97 : Int)) (1 : Int)) (Int.toNat (98 : Int)) (2 : Int)) ∧
 List.set (List.set (List.set (List.replicate (Int.toNat (100 : Int)) (0 : Int)) (Int.toNat (97 : Int)) (1 : Int)) (Int.toNat (98 : Int)) (2 : Int)) (Int.toNat (99 : Int))
 (2 : Int) =
 shownL
theorem shownN_e  : shownN_t  = vcG Try.prog (Gof []) (fun _ => none) Try.f24 [] [] (.leaf ((.o 2000)) ([(2000, .row 3 (.ints .i64 shownL))])) := by kernel_rfl
def wrsN_t (s w : ByteArray) : Prop :=
 List.length shownL ≤ (4294967296 : Nat) ∧
 ByteArray.size s ≤ (40000 : Nat) ∧
 ((txE shownL s == (0 : Int)) = true → (ByteArray.toList (wrO shownL s) == ByteArray.toList w) = wrsB s w) ∧ ((txE shownL s == (0 : Int)) = false → false = wrsB s w)
theorem wrsN_e (s w : ByteArray) : wrsN_t s w = vcG Try.prog (Gof GUg) (fun _ => none) Try.f25 [.v (.string s), .v (.string w)] [] (.leaf ((.v (.bool (wrsB s w)))) ([])) := by kernel_rfl
def rdsN_t (b : ByteArray) (n : Int) (w : ByteArray) (e : Int) : Prop :=
 List.length shownL ≤ (4294967296 : Nat) ∧
 ByteArray.size b ≤ (4294967296 : Nat) ∧
 ((ByteArray.toList (rO shownL b n) == ByteArray.toList w) = true → (rE shownL b n == e) = rdsB b n w e) ∧ ((ByteArray.toList (rO shownL b n) == ByteArray.toList w) = false → false = rdsB b n w e)
theorem rdsN_e (b : ByteArray) (n : Int) (w : ByteArray) (e : Int) : rdsN_t b n w e = vcG Try.prog (Gof GUg) (fun _ => none) Try.f26 [.v (.string b), .v (.int .i64 n), .v (.string w), .v (.int .i64 e)] [] (.leaf ((.v (.bool (rdsB b n w e)))) ([])) := by kernel_rfl
def madeN_t (nums text : List Int) : Prop :=
 (0 : Int) ≤ (110 : Int) ∧
 (110 : Int) ≤ (110 : Int) ∧
 (↑((8 : Nat)) : Int) * (110 : Int) ≤ (281474976710656 : Int) ∧
 (110 : Int) ≤ (9223372036854775807 : Int) ∧
 ((∃ (x0 : Nat), Nat.le x0 (cmN nums) ∧ nums = nums ∧ text = text ∧ (0 : Int) = (↑x0 : Int) ∧ List.replicate (Int.toNat (110 : Int)) (0 : Int) = cmP nums x0) ∧
 ∀ (x1 : Nat),
 Nat.le x1 (cmN nums) →
 (decide ((↑x1 : Int) < (2 : Int)) = true →
 (100 : Int) ≤ (4611686018427387904 : Int) ∧
 (0 : Int) ≤ IntKind.wrap IntKind.i64 ((97 : Int) + (↑x1 : Int)) ∧
 IntKind.wrap IntKind.i64 ((97 : Int) + (↑x1 : Int)) <
 (↑(Nat.succ
 (Nat.add (List.length (List.append (List.replicate ((96 : Nat)) (0 : Int)) (List.map (cmX nums) (List.range x1) ++ List.replicate ((13 : Nat) - x1) (0 : Int))))
 ((0 : Nat)))) :
 Int) ∧
 Int.toNat (IntKind.wrap IntKind.i64 ((97 : Int) + (↑x1 : Int))) <
 Nat.succ
 (Nat.add (List.length (List.append (List.replicate ((96 : Nat)) (0 : Int)) (List.map (cmX nums) (List.range x1) ++ List.replicate ((13 : Nat) - x1) (0 : Int))))
 ((0 : Nat))) ∧
 ∃ (y2 : Nat),
 Nat.le y2 (cmN nums) ∧
 Nat.sub (cmN nums) y2 < Nat.sub (cmN nums) x1 ∧
 nums = nums ∧
 text = text ∧
 IntKind.wrap IntKind.i64 ((↑x1 : Int) + (1 : Int)) = (↑y2 : Int) ∧
 List.set (cmP nums x1) (Int.toNat (IntKind.wrap IntKind.i64 ((97 : Int) + (↑x1 : Int))))
 (IntKind.wrap IntKind.i64 ((1 : Int) + md (atL nums (↑x1 : Int)) (100 : Int))) =
 cmP nums y2) ∧
 (decide ((↑x1 : Int) < (2 : Int)) = false →
 (decide ((↑x1 : Int) < (↑(List.length nums) : Int)) = true →
 (decide ((↑x1 : Int) < (12 : Int)) = true →
 (100 : Int) ≤ (4611686018427387904 : Int) ∧
 (0 : Int) ≤ IntKind.wrap IntKind.i64 ((97 : Int) + (↑x1 : Int)) ∧
 IntKind.wrap IntKind.i64 ((97 : Int) + (↑x1 : Int)) <
 (↑(Nat.succ
 (Nat.add
 (List.length (List.append (List.replicate ((96 : Nat)) (0 : Int)) (List.map (cmX nums) (List.range x1) ++ List.replicate ((13 : Nat) - x1) (0 : Int))))
 ((0 : Nat)))) :
 Int) ∧
 Int.toNat (IntKind.wrap IntKind.i64 ((97 : Int) + (↑x1 : Int))) <
 Nat.succ
 (Nat.add (List.length (List.append (List.replicate ((96 : Nat)) (0 : Int)) (List.map (cmX nums) (List.range x1) ++ List.replicate ((13 : Nat) - x1) (0 : Int))))
 ((0 : Nat))) ∧
 ∃ (y3 : Nat),
 Nat.le y3 (cmN nums) ∧
 Nat.sub (cmN nums) y3 < Nat.sub (cmN nums) x1 ∧
 nums = nums ∧
 text = text ∧
 IntKind.wrap IntKind.i64 ((↑x1 : Int) + (1 : Int)) = (↑y3 : Int) ∧
 List.set (cmP nums x1) (Int.toNat (IntKind.wrap IntKind.i64 ((97 : Int) + (↑x1 : Int))))
 (IntKind.wrap IntKind.i64 ((1 : Int) + md (atL nums (↑x1 : Int)) (100 : Int))) =
 cmP nums y3) ∧
 (decide ((↑x1 : Int) < (12 : Int)) = false → ∃ (x4 : Unit), True ∧ nums = nums ∧ text = text ∧ cmP nums x1 = cmL nums)) ∧
 (decide ((↑x1 : Int) < (↑(List.length nums) : Int)) = false → ∃ (x5 : Unit), True ∧ nums = nums ∧ text = text ∧ cmP nums x1 = cmL nums))) ∧
 ∀ (x6 : Unit),
 True →
 List.length (cmL nums) ≤ (256 : Nat) ∧
 List.length (leaves (cmL nums)) ≤ (40 : Nat) ∧
 cntsOk (cmL nums) = true ∧
 (2 : Nat) ≤ List.length (leaves (cmL nums)) ∧
 ((∃ (x7 : Nat),
 Nat.le x7 (min (List.length text) (100 : Nat)) ∧
 text = text ∧
 (0 : Int) = (0 : Int) ∧
 max (2 : Int) (min (↑(List.length nums) : Int) (12 : Int)) = (↑(cmN nums) : Int) ∧
 ByteArray.empty = strOfNums (mdC nums text x7) ∧ (0 : Int) = (↑x7 : Int) ∧ ofL (cmL nums) = mdL nums) ∧
 ∀ (x8 : Nat),
 Nat.le x8 (min (List.length text) (100 : Nat)) →
 (decide ((↑x8 : Int) < (↑(List.length text) : Int)) = true →
 (decide ((↑x8 : Int) < (100 : Int)) = true →
 (0 : Int) ≤ (↑x8 : Int) ∧
 (↑x8 : Int) < (↑(List.length text) : Int) ∧
 (↑(cmN nums) : Int) ≤ (4611686018427387904 : Int) ∧
 ByteArray.size (strOfNums (mdC nums text x8)) +
 ByteArray.size
 (strOfNums
 [IntKind.wrap IntKind.u8 (IntKind.wrap IntKind.i64 ((97 : Int) + md (List.getD text (Int.toNat (↑x8 : Int)) (0 : Int)) (↑(cmN nums) : Int)))]) ≤
 (9223372036854775807 : Nat) ∧
 ∃ (y9 : Nat),
 Nat.le y9 (min (List.length text) (100 : Nat)) ∧
 Nat.sub (100 : Nat) y9 < Nat.sub (100 : Nat) x8 ∧
 text = text ∧
 (0 : Int) = (0 : Int) ∧
 (↑(cmN nums) : Int) = (↑(cmN nums) : Int) ∧
 strOfNums (mdC nums text x8) ++
 strOfNums
 [IntKind.wrap IntKind.u8
 (IntKind.wrap IntKind.i64 ((97 : Int) + md (List.getD text (Int.toNat (↑x8 : Int)) (0 : Int)) (↑(cmN nums) : Int)))] =
 strOfNums (mdC nums text y9) ∧
 IntKind.wrap IntKind.i64 ((↑x8 : Int) + (1 : Int)) = (↑y9 : Int) ∧ mdL nums = mdL nums) ∧
 (decide ((↑x8 : Int) < (100 : Int)) = false → ∃ (x10 : Unit), True ∧ (0 : Int) = (0 : Int) ∧ strOfNums (mdC nums text x8) = mdS nums text ∧ mdL nums = mdL nums)) ∧
 (decide ((↑x8 : Int) < (↑(List.length text) : Int)) = false →
 ∃ (x11 : Unit), True ∧ (0 : Int) = (0 : Int) ∧ strOfNums (mdC nums text x8) = mdS nums text ∧ mdL nums = mdL nums)) ∧
 ∀ (x12 : Unit), True → mdS nums text = mdS nums text ∧ ((0 : Int) == (0 : Int)) = true ∧ mdL nums = mdL nums
theorem madeN_e (nums text : List Int) : madeN_t nums text = vcG Try.prog (Gof GUg) (oMd nums text) Try.f27 [.dat (.ints .i64 nums), .dat (.ints .i64 text)] [] (.leaf ((.tu [.o 2000, .v (.string (mdS nums text)), .v (.bool true)])) ([(2000, .row 3 (.ints .i64 (mdL nums)))])) := by kernel_rfl
def awakeN_t  : Prop :=
 List.length (ptV (10 : Int)) = (4 : Nat) ∧
 List.length (ptV (10 : Int)) = List.length (List.replicate (4 : Nat) (0 : Int)) ∧
 ByteArray.size { data := #[(97 : UInt8), (98 : UInt8), (99 : UInt8)] } ≤ (40000 : Nat) ∧
 (wrsB { data := #[(97 : UInt8), (98 : UInt8), (99 : UInt8)] } { data := #[(49 : UInt8)] } = true →
 ByteArray.size ByteArray.empty ≤ (40000 : Nat) ∧
 (wrsB ByteArray.empty { data := #[(1 : UInt8)] } = true →
 ByteArray.size { data := #[(49 : UInt8)] } ≤ (4294967296 : Nat) ∧
 (rdsB { data := #[(49 : UInt8)] } (3 : Int) { data := #[(97 : UInt8), (98 : UInt8), (99 : UInt8)] } (0 : Int) = true →
 ByteArray.size { data := #[(49 : UInt8)] } ≤ (4294967296 : Nat) ∧
 (rdsB { data := #[(49 : UInt8)] } (2 : Int) ByteArray.empty (22 : Int) = true →
 ((ptE (10 : Int) == (0 : Int)) = true →
 (4 : Nat) = List.length (ptV (10 : Int)) ∧
 (4 : Nat) = List.length (ptV (10 : Int)) ∧
 (4 : Nat) = List.length [(3 : Int), (3 : Int), (3 : Int), (1 : Int)] ∧ (ptV (10 : Int) == [(3 : Int), (3 : Int), (3 : Int), (1 : Int)]) = true) ∧
 ((ptE (10 : Int) == (0 : Int)) = false → false = true)) ∧
 (rdsB { data := #[(49 : UInt8)] } (2 : Int) ByteArray.empty (22 : Int) = false → false = true)) ∧
 (rdsB { data := #[(49 : UInt8)] } (3 : Int) { data := #[(97 : UInt8), (98 : UInt8), (99 : UInt8)] } (0 : Int) = false → false = true)) ∧
 (wrsB ByteArray.empty { data := #[(1 : UInt8)] } = false → false = true)) ∧
 (wrsB { data := #[(97 : UInt8), (98 : UInt8), (99 : UInt8)] } { data := #[(49 : UInt8)] } = false → false = true)
theorem awakeN_e  : awakeN_t  = vcG Try.prog (Gof GUh) (fun _ => none) Try.f9 [] [] (.leaf ((.v (.bool true))) ([])) := by kernel_rfl
def lawKnN_t  : Prop :=
 List.length shownL ≤ (4294967296 : Nat) ∧
 ByteArray.size { data := #[(100 : UInt8)] } ≤ (40000 : Nat) ∧
 List.length shownL ≤ (4294967296 : Nat) ∧
 ByteArray.size { data := #[(97 : UInt8), (98 : UInt8), (99 : UInt8)] } ≤ (40000 : Nat) ∧
 List.length (ptV (6 : Int)) = (4 : Nat) ∧
 List.length (ptV (6 : Int)) = List.length (List.replicate (4 : Nat) (0 : Int)) ∧
 List.length (ptV (5 : Int)) = (4 : Nat) ∧
 List.length (ptV (5 : Int)) = List.length (List.replicate (4 : Nat) (0 : Int)) ∧
 List.length shownL ≤ (4294967296 : Nat) ∧
 ByteArray.size { data := #[(97 : UInt8), (97 : UInt8), (97 : UInt8), (97 : UInt8), (97 : UInt8), (97 : UInt8), (97 : UInt8), (97 : UInt8)] } ≤ (40000 : Nat) ∧
 List.length shownL ≤ (4294967296 : Nat) ∧
 ByteArray.size { data := #[(97 : UInt8), (97 : UInt8), (97 : UInt8), (97 : UInt8), (97 : UInt8)] } ≤ (40000 : Nat) ∧
 List.length shownL ≤ (4294967296 : Nat) ∧
 ByteArray.size { data := #[(1 : UInt8), (0 : UInt8), (1 : UInt8), (0 : UInt8), (1 : UInt8), (0 : UInt8), (7 : UInt8), (7 : UInt8), (7 : UInt8), (7 : UInt8)] } ≤
 (4294967296 : Nat) ∧
 List.length shownL ≤ (4294967296 : Nat) ∧
 ByteArray.size { data := #[(1 : UInt8), (0 : UInt8), (1 : UInt8), (0 : UInt8), (1 : UInt8), (0 : UInt8), (7 : UInt8), (7 : UInt8), (7 : UInt8), (7 : UInt8)] } ≤
 (4294967296 : Nat) ∧
 (0 : Int) ≤ (0 : Int) ∧
 (0 : Int) ≤ (8 : Int) ∧
 (8 : Int) ≤
 (↑(ByteArray.size
 { data := #[(1 : UInt8), (0 : UInt8), (1 : UInt8), (0 : UInt8), (1 : UInt8), (0 : UInt8), (7 : UInt8), (7 : UInt8), (7 : UInt8), (7 : UInt8)] }) :
 Int) ∧
 List.length shownL ≤ (4294967296 : Nat) ∧
 ByteArray.size
 (ByteArray.extract
 { data := #[(1 : UInt8), (0 : UInt8), (1 : UInt8), (0 : UInt8), (1 : UInt8), (0 : UInt8), (7 : UInt8), (7 : UInt8), (7 : UInt8), (7 : UInt8)] }
 (Int.toNat (0 : Int)) (Int.toNat (8 : Int))) ≤
 (4294967296 : Nat) ∧
 ByteArray.size { data := #[(97 : UInt8)] } ≤ (40000 : Nat) ∧
 (wrsB { data := #[(97 : UInt8)] } { data := #[(3 : UInt8)] } = true →
 ((txE shownL { data := #[(100 : UInt8)] } == (7 : Int)) = true →
 ByteArray.size { data := #[(49 : UInt8)] } ≤ (4294967296 : Nat) ∧
 (rdsB { data := #[(49 : UInt8)] } (4 : Int) ByteArray.empty (22 : Int) = true →
 ByteArray.size { data := #[(0 : UInt8)] } ≤ (4294967296 : Nat) ∧
 (rdsB { data := #[(0 : UInt8)] } (0 : Int) ByteArray.empty (22 : Int) = true →
 ByteArray.size ByteArray.empty ≤ (4294967296 : Nat) ∧
 (rdsB ByteArray.empty (0 : Int) ByteArray.empty (22 : Int) = true →
 ((txE shownL { data := #[(97 : UInt8), (98 : UInt8), (99 : UInt8)] } == (0 : Int)) = true →
 ((ptE (6 : Int) == (0 : Int)) = true →
 (4 : Nat) = List.length (ptV (6 : Int)) ∧
 (4 : Nat) = List.length (ptV (6 : Int)) ∧
 (4 : Nat) = List.length [(2 : Int), (2 : Int), (2 : Int), (0 : Int)] ∧
 ((ptV (6 : Int) == [(2 : Int), (2 : Int), (2 : Int), (0 : Int)]) = true →
 ((ptE (5 : Int) == (20 : Int)) = true →
 ((w4E shownL
 {
 data :=
 #[(97 : UInt8), (97 : UInt8), (97 : UInt8), (97 : UInt8), (97 : UInt8), (97 : UInt8),
 (97 : UInt8), (97 : UInt8)] } ==
 (0 : Int)) =
 true →
 ((ByteArray.toList
 (w4O shownL
 {
 data :=
 #[(97 : UInt8), (97 : UInt8), (97 : UInt8), (97 : UInt8), (97 : UInt8), (97 : UInt8),
 (97 : UInt8), (97 : UInt8)] }) ==
 ByteArray.toList
 {
 data :=
 #[(1 : UInt8), (0 : UInt8), (1 : UInt8), (0 : UInt8), (1 : UInt8), (0 : UInt8),
 (7 : UInt8), (7 : UInt8), (7 : UInt8), (7 : UInt8)] }) =
 true →
 (true = true →
 ((szO shownL { data := #[(97 : UInt8), (98 : UInt8), (99 : UInt8)] } == (1 : Int)) = true →
 ((w4E shownL
 {
 data :=
 #[(97 : UInt8), (97 : UInt8), (97 : UInt8), (97 : UInt8), (97 : UInt8)] } ==
 (20 : Int)) =
 true →
 ((r4E shownL
 {
 data :=
 #[(1 : UInt8), (0 : UInt8), (1 : UInt8), (0 : UInt8), (1 : UInt8),
 (0 : UInt8), (7 : UInt8), (7 : UInt8), (7 : UInt8), (7 : UInt8)] }
 (8 : Int) ==
 (0 : Int)) =
 true →
 ((ByteArray.toList
 (r4O shownL
 {
 data :=
 #[(1 : UInt8), (0 : UInt8), (1 : UInt8), (0 : UInt8), (1 : UInt8),
 (0 : UInt8), (7 : UInt8), (7 : UInt8), (7 : UInt8), (7 : UInt8)] }
 (8 : Int)) ==
 ByteArray.toList
 {
 data :=
 #[(97 : UInt8), (97 : UInt8), (97 : UInt8), (97 : UInt8),
 (97 : UInt8), (97 : UInt8), (97 : UInt8), (97 : UInt8)] }) =
 true →
 ((r4P shownL
 {
 data :=
 #[(1 : UInt8), (0 : UInt8), (1 : UInt8), (0 : UInt8), (1 : UInt8),
 (0 : UInt8), (7 : UInt8), (7 : UInt8), (7 : UInt8),
 (7 : UInt8)] }
 (8 : Int) ==
 (0 : Int)) =
 true →
 ((r4E shownL
 {
 data :=
 #[(1 : UInt8), (0 : UInt8), (1 : UInt8), (0 : UInt8),
 (1 : UInt8), (0 : UInt8), (7 : UInt8), (7 : UInt8),
 (7 : UInt8), (7 : UInt8)] }
 (9 : Int) ==
 (22 : Int)) =
 true →
 ((r4P shownL
 {
 data :=
 #[(1 : UInt8), (0 : UInt8), (1 : UInt8), (0 : UInt8),
 (1 : UInt8), (0 : UInt8), (7 : UInt8), (7 : UInt8),
 (7 : UInt8), (7 : UInt8)] }
 (9 : Int) ==
 (6 : Int)) =
 true →
 ((r4E shownL
 (ByteArray.extract
 {
 data :=
 #[(1 : UInt8), (0 : UInt8), (1 : UInt8),
 (0 : UInt8), (1 : UInt8), (0 : UInt8),
 (7 : UInt8), (7 : UInt8), (7 : UInt8),
 (7 : UInt8)] }
 (Int.toNat (0 : Int)) (Int.toNat (8 : Int)))
 (8 : Int) ==
 (22 : Int)) =
 true →
 (r4P shownL
 (ByteArray.extract
 {
 data :=
 #[(1 : UInt8), (0 : UInt8), (1 : UInt8),
 (0 : UInt8), (1 : UInt8), (0 : UInt8),
 (7 : UInt8), (7 : UInt8), (7 : UInt8),
 (7 : UInt8)] }
 (Int.toNat (0 : Int)) (Int.toNat (8 : Int)))
 (8 : Int) ==
 (0 : Int)) =
 true) ∧
 ((r4E shownL
 (ByteArray.extract
 {
 data :=
 #[(1 : UInt8), (0 : UInt8), (1 : UInt8),
 (0 : UInt8), (1 : UInt8), (0 : UInt8),
 (7 : UInt8), (7 : UInt8), (7 : UInt8),
 (7 : UInt8)] }
 (Int.toNat (0 : Int)) (Int.toNat (8 : Int)))
 (8 : Int) ==
 (22 : Int)) =
 false →
 false = true)) ∧
 ((r4P shownL
 {
 data :=
 #[(1 : UInt8), (0 : UInt8), (1 : UInt8), (0 : UInt8),
 (1 : UInt8), (0 : UInt8), (7 : UInt8), (7 : UInt8),
 (7 : UInt8), (7 : UInt8)] }
 (9 : Int) ==
 (6 : Int)) =
 false →
 false = true)) ∧
 ((r4E shownL
 {
 data :=
 #[(1 : UInt8), (0 : UInt8), (1 : UInt8), (0 : UInt8),
 (1 : UInt8), (0 : UInt8), (7 : UInt8), (7 : UInt8),
 (7 : UInt8), (7 : UInt8)] }
 (9 : Int) ==
 (22 : Int)) =
 false →
 false = true)) ∧
 ((r4P shownL
 {
 data :=
 #[(1 : UInt8), (0 : UInt8), (1 : UInt8), (0 : UInt8), (1 : UInt8),
 (0 : UInt8), (7 : UInt8), (7 : UInt8), (7 : UInt8),
 (7 : UInt8)] }
 (8 : Int) ==
 (0 : Int)) =
 false →
 false = true)) ∧
 ((ByteArray.toList
 (r4O shownL
 {
 data :=
 #[(1 : UInt8), (0 : UInt8), (1 : UInt8), (0 : UInt8), (1 : UInt8),
 (0 : UInt8), (7 : UInt8), (7 : UInt8), (7 : UInt8), (7 : UInt8)] }
 (8 : Int)) ==
 ByteArray.toList
 {
 data :=
 #[(97 : UInt8), (97 : UInt8), (97 : UInt8), (97 : UInt8),
 (97 : UInt8), (97 : UInt8), (97 : UInt8), (97 : UInt8)] }) =
 false →
 false = true)) ∧
 ((r4E shownL
 {
 data :=
 #[(1 : UInt8), (0 : UInt8), (1 : UInt8), (0 : UInt8), (1 : UInt8),
 (0 : UInt8), (7 : UInt8), (7 : UInt8), (7 : UInt8), (7 : UInt8)] }
 (8 : Int) ==
 (0 : Int)) =
 false →
 false = true)) ∧
 ((w4E shownL
 {
 data :=
 #[(97 : UInt8), (97 : UInt8), (97 : UInt8), (97 : UInt8), (97 : UInt8)] } ==
 (20 : Int)) =
 false →
 false = true)) ∧
 ((szO shownL { data := #[(97 : UInt8), (98 : UInt8), (99 : UInt8)] } == (1 : Int)) = false →
 false = true)) ∧
 (true = false → false = true)) ∧
 ((ByteArray.toList
 (w4O shownL
 {
 data :=
 #[(97 : UInt8), (97 : UInt8), (97 : UInt8), (97 : UInt8), (97 : UInt8), (97 : UInt8),
 (97 : UInt8), (97 : UInt8)] }) ==
 ByteArray.toList
 {
 data :=
 #[(1 : UInt8), (0 : UInt8), (1 : UInt8), (0 : UInt8), (1 : UInt8), (0 : UInt8),
 (7 : UInt8), (7 : UInt8), (7 : UInt8), (7 : UInt8)] }) =
 false →
 (true = true →
 ((szO shownL { data := #[(97 : UInt8), (98 : UInt8), (99 : UInt8)] } == (1 : Int)) = true →
 false = true) ∧
 ((szO shownL { data := #[(97 : UInt8), (98 : UInt8), (99 : UInt8)] } == (1 : Int)) = false →
 false = true)) ∧
 (true = false → false = true))) ∧
 ((w4E shownL
 {
 data :=
 #[(97 : UInt8), (97 : UInt8), (97 : UInt8), (97 : UInt8), (97 : UInt8), (97 : UInt8),
 (97 : UInt8), (97 : UInt8)] } ==
 (0 : Int)) =
 false →
 (true = true →
 ((szO shownL { data := #[(97 : UInt8), (98 : UInt8), (99 : UInt8)] } == (1 : Int)) = true →
 false = true) ∧
 ((szO shownL { data := #[(97 : UInt8), (98 : UInt8), (99 : UInt8)] } == (1 : Int)) = false →
 false = true)) ∧
 (true = false → false = true))) ∧
 ((ptE (5 : Int) == (20 : Int)) = false →
 (true = true →
 ((szO shownL { data := #[(97 : UInt8), (98 : UInt8), (99 : UInt8)] } == (1 : Int)) = true →
 false = true) ∧
 ((szO shownL { data := #[(97 : UInt8), (98 : UInt8), (99 : UInt8)] } == (1 : Int)) = false →
 false = true)) ∧
 (true = false → false = true))) ∧
 ((ptV (6 : Int) == [(2 : Int), (2 : Int), (2 : Int), (0 : Int)]) = false →
 (true = true →
 ((szO shownL { data := #[(97 : UInt8), (98 : UInt8), (99 : UInt8)] } == (1 : Int)) = true → false = true) ∧
 ((szO shownL { data := #[(97 : UInt8), (98 : UInt8), (99 : UInt8)] } == (1 : Int)) = false →
 false = true)) ∧
 (true = false → false = true))) ∧
 ((ptE (6 : Int) == (0 : Int)) = false →
 (true = true →
 ((szO shownL { data := #[(97 : UInt8), (98 : UInt8), (99 : UInt8)] } == (1 : Int)) = true → false = true) ∧
 ((szO shownL { data := #[(97 : UInt8), (98 : UInt8), (99 : UInt8)] } == (1 : Int)) = false → false = true)) ∧
 (true = false → false = true))) ∧
 ((txE shownL { data := #[(97 : UInt8), (98 : UInt8), (99 : UInt8)] } == (0 : Int)) = false →
 ((ptE (6 : Int) == (0 : Int)) = true →
 (4 : Nat) = List.length (ptV (6 : Int)) ∧
 (4 : Nat) = List.length (ptV (6 : Int)) ∧
 (4 : Nat) = List.length [(2 : Int), (2 : Int), (2 : Int), (0 : Int)] ∧
 ((ptV (6 : Int) == [(2 : Int), (2 : Int), (2 : Int), (0 : Int)]) = true →
 ((ptE (5 : Int) == (20 : Int)) = true →
 ((w4E shownL
 {
 data :=
 #[(97 : UInt8), (97 : UInt8), (97 : UInt8), (97 : UInt8), (97 : UInt8), (97 : UInt8),
 (97 : UInt8), (97 : UInt8)] } ==
 (0 : Int)) =
 true →
 ((ByteArray.toList
 (w4O shownL
 {
 data :=
 #[(97 : UInt8), (97 : UInt8), (97 : UInt8), (97 : UInt8), (97 : UInt8), (97 : UInt8),
 (97 : UInt8), (97 : UInt8)] }) ==
 ByteArray.toList
 {
 data :=
 #[(1 : UInt8), (0 : UInt8), (1 : UInt8), (0 : UInt8), (1 : UInt8), (0 : UInt8),
 (7 : UInt8), (7 : UInt8), (7 : UInt8), (7 : UInt8)] }) =
 true →
 (true = true → false = true) ∧ (true = false → false = true)) ∧
 ((ByteArray.toList
 (w4O shownL
 {
 data :=
 #[(97 : UInt8), (97 : UInt8), (97 : UInt8), (97 : UInt8), (97 : UInt8), (97 : UInt8),
 (97 : UInt8), (97 : UInt8)] }) ==
 ByteArray.toList
 {
 data :=
 #[(1 : UInt8), (0 : UInt8), (1 : UInt8), (0 : UInt8), (1 : UInt8), (0 : UInt8),
 (7 : UInt8), (7 : UInt8), (7 : UInt8), (7 : UInt8)] }) =
 false →
 (true = true → false = true) ∧ (true = false → false = true))) ∧
 ((w4E shownL
 {
 data :=
 #[(97 : UInt8), (97 : UInt8), (97 : UInt8), (97 : UInt8), (97 : UInt8), (97 : UInt8),
 (97 : UInt8), (97 : UInt8)] } ==
 (0 : Int)) =
 false →
 (true = true → false = true) ∧ (true = false → false = true))) ∧
 ((ptE (5 : Int) == (20 : Int)) = false → (true = true → false = true) ∧ (true = false → false = true))) ∧
 ((ptV (6 : Int) == [(2 : Int), (2 : Int), (2 : Int), (0 : Int)]) = false →
 (true = true → false = true) ∧ (true = false → false = true))) ∧
 ((ptE (6 : Int) == (0 : Int)) = false → (true = true → false = true) ∧ (true = false → false = true)))) ∧
 (rdsB ByteArray.empty (0 : Int) ByteArray.empty (22 : Int) = false →
 ((ptE (6 : Int) == (0 : Int)) = true →
 (4 : Nat) = List.length (ptV (6 : Int)) ∧
 (4 : Nat) = List.length (ptV (6 : Int)) ∧
 (4 : Nat) = List.length [(2 : Int), (2 : Int), (2 : Int), (0 : Int)] ∧
 ((ptV (6 : Int) == [(2 : Int), (2 : Int), (2 : Int), (0 : Int)]) = true →
 ((ptE (5 : Int) == (20 : Int)) = true →
 ((w4E shownL
 {
 data :=
 #[(97 : UInt8), (97 : UInt8), (97 : UInt8), (97 : UInt8), (97 : UInt8), (97 : UInt8),
 (97 : UInt8), (97 : UInt8)] } ==
 (0 : Int)) =
 true →
 ((ByteArray.toList
 (w4O shownL
 {
 data :=
 #[(97 : UInt8), (97 : UInt8), (97 : UInt8), (97 : UInt8), (97 : UInt8), (97 : UInt8),
 (97 : UInt8), (97 : UInt8)] }) ==
 ByteArray.toList
 {
 data :=
 #[(1 : UInt8), (0 : UInt8), (1 : UInt8), (0 : UInt8), (1 : UInt8), (0 : UInt8), (7 : UInt8),
 (7 : UInt8), (7 : UInt8), (7 : UInt8)] }) =
 true →
 (true = true → false = true) ∧ (true = false → false = true)) ∧
 ((ByteArray.toList
 (w4O shownL
 {
 data :=
 #[(97 : UInt8), (97 : UInt8), (97 : UInt8), (97 : UInt8), (97 : UInt8), (97 : UInt8),
 (97 : UInt8), (97 : UInt8)] }) ==
 ByteArray.toList
 {
 data :=
 #[(1 : UInt8), (0 : UInt8), (1 : UInt8), (0 : UInt8), (1 : UInt8), (0 : UInt8), (7 : UInt8),
 (7 : UInt8), (7 : UInt8), (7 : UInt8)] }) =
 false →
 (true = true → false = true) ∧ (true = false → false = true))) ∧
 ((w4E shownL
 {
 data :=
 #[(97 : UInt8), (97 : UInt8), (97 : UInt8), (97 : UInt8), (97 : UInt8), (97 : UInt8),
 (97 : UInt8), (97 : UInt8)] } ==
 (0 : Int)) =
 false →
 (true = true → false = true) ∧ (true = false → false = true))) ∧
 ((ptE (5 : Int) == (20 : Int)) = false → (true = true → false = true) ∧ (true = false → false = true))) ∧
 ((ptV (6 : Int) == [(2 : Int), (2 : Int), (2 : Int), (0 : Int)]) = false →
 (true = true → false = true) ∧ (true = false → false = true))) ∧
 ((ptE (6 : Int) == (0 : Int)) = false → (true = true → false = true) ∧ (true = false → false = true)))) ∧
 (rdsB { data := #[(0 : UInt8)] } (0 : Int) ByteArray.empty (22 : Int) = false →
 ((ptE (6 : Int) == (0 : Int)) = true →
 (4 : Nat) = List.length (ptV (6 : Int)) ∧
 (4 : Nat) = List.length (ptV (6 : Int)) ∧
 (4 : Nat) = List.length [(2 : Int), (2 : Int), (2 : Int), (0 : Int)] ∧
 ((ptV (6 : Int) == [(2 : Int), (2 : Int), (2 : Int), (0 : Int)]) = true →
 ((ptE (5 : Int) == (20 : Int)) = true →
 ((w4E shownL
 {
 data :=
 #[(97 : UInt8), (97 : UInt8), (97 : UInt8), (97 : UInt8), (97 : UInt8), (97 : UInt8), (97 : UInt8),
 (97 : UInt8)] } ==
 (0 : Int)) =
 true →
 ((ByteArray.toList
 (w4O shownL
 {
 data :=
 #[(97 : UInt8), (97 : UInt8), (97 : UInt8), (97 : UInt8), (97 : UInt8), (97 : UInt8),
 (97 : UInt8), (97 : UInt8)] }) ==
 ByteArray.toList
 {
 data :=
 #[(1 : UInt8), (0 : UInt8), (1 : UInt8), (0 : UInt8), (1 : UInt8), (0 : UInt8), (7 : UInt8),
 (7 : UInt8), (7 : UInt8), (7 : UInt8)] }) =
 true →
 (true = true → false = true) ∧ (true = false → false = true)) ∧
 ((ByteArray.toList
 (w4O shownL
 {
 data :=
 #[(97 : UInt8), (97 : UInt8), (97 : UInt8), (97 : UInt8), (97 : UInt8), (97 : UInt8),
 (97 : UInt8), (97 : UInt8)] }) ==
 ByteArray.toList
 {
 data :=
 #[(1 : UInt8), (0 : UInt8), (1 : UInt8), (0 : UInt8), (1 : UInt8), (0 : UInt8), (7 : UInt8),
 (7 : UInt8), (7 : UInt8), (7 : UInt8)] }) =
 false →
 (true = true → false = true) ∧ (true = false → false = true))) ∧
 ((w4E shownL
 {
 data :=
 #[(97 : UInt8), (97 : UInt8), (97 : UInt8), (97 : UInt8), (97 : UInt8), (97 : UInt8), (97 : UInt8),
 (97 : UInt8)] } ==
 (0 : Int)) =
 false →
 (true = true → false = true) ∧ (true = false → false = true))) ∧
 ((ptE (5 : Int) == (20 : Int)) = false → (true = true → false = true) ∧ (true = false → false = true))) ∧
 ((ptV (6 : Int) == [(2 : Int), (2 : Int), (2 : Int), (0 : Int)]) = false →
 (true = true → false = true) ∧ (true = false → false = true))) ∧
 ((ptE (6 : Int) == (0 : Int)) = false → (true = true → false = true) ∧ (true = false → false = true)))) ∧
 (rdsB { data := #[(49 : UInt8)] } (4 : Int) ByteArray.empty (22 : Int) = false →
 ((ptE (6 : Int) == (0 : Int)) = true →
 (4 : Nat) = List.length (ptV (6 : Int)) ∧
 (4 : Nat) = List.length (ptV (6 : Int)) ∧
 (4 : Nat) = List.length [(2 : Int), (2 : Int), (2 : Int), (0 : Int)] ∧
 ((ptV (6 : Int) == [(2 : Int), (2 : Int), (2 : Int), (0 : Int)]) = true →
 ((ptE (5 : Int) == (20 : Int)) = true →
 ((w4E shownL
 {
 data :=
 #[(97 : UInt8), (97 : UInt8), (97 : UInt8), (97 : UInt8), (97 : UInt8), (97 : UInt8), (97 : UInt8),
 (97 : UInt8)] } ==
 (0 : Int)) =
 true →
 ((ByteArray.toList
 (w4O shownL
 {
 data :=
 #[(97 : UInt8), (97 : UInt8), (97 : UInt8), (97 : UInt8), (97 : UInt8), (97 : UInt8), (97 : UInt8),
 (97 : UInt8)] }) ==
 ByteArray.toList
 {
 data :=
 #[(1 : UInt8), (0 : UInt8), (1 : UInt8), (0 : UInt8), (1 : UInt8), (0 : UInt8), (7 : UInt8), (7 : UInt8),
 (7 : UInt8), (7 : UInt8)] }) =
 true →
 (true = true → false = true) ∧ (true = false → false = true)) ∧
 ((ByteArray.toList
 (w4O shownL
 {
 data :=
 #[(97 : UInt8), (97 : UInt8), (97 : UInt8), (97 : UInt8), (97 : UInt8), (97 : UInt8), (97 : UInt8),
 (97 : UInt8)] }) ==
 ByteArray.toList
 {
 data :=
 #[(1 : UInt8), (0 : UInt8), (1 : UInt8), (0 : UInt8), (1 : UInt8), (0 : UInt8), (7 : UInt8), (7 : UInt8),
 (7 : UInt8), (7 : UInt8)] }) =
 false →
 (true = true → false = true) ∧ (true = false → false = true))) ∧
 ((w4E shownL
 {
 data :=
 #[(97 : UInt8), (97 : UInt8), (97 : UInt8), (97 : UInt8), (97 : UInt8), (97 : UInt8), (97 : UInt8),
 (97 : UInt8)] } ==
 (0 : Int)) =
 false →
 (true = true → false = true) ∧ (true = false → false = true))) ∧
 ((ptE (5 : Int) == (20 : Int)) = false → (true = true → false = true) ∧ (true = false → false = true))) ∧
 ((ptV (6 : Int) == [(2 : Int), (2 : Int), (2 : Int), (0 : Int)]) = false →
 (true = true → false = true) ∧ (true = false → false = true))) ∧
 ((ptE (6 : Int) == (0 : Int)) = false → (true = true → false = true) ∧ (true = false → false = true)))) ∧
 ((txE shownL { data := #[(100 : UInt8)] } == (7 : Int)) = false →
 ((ptE (6 : Int) == (0 : Int)) = true →
 (4 : Nat) = List.length (ptV (6 : Int)) ∧
 (4 : Nat) = List.length (ptV (6 : Int)) ∧
 (4 : Nat) = List.length [(2 : Int), (2 : Int), (2 : Int), (0 : Int)] ∧
 ((ptV (6 : Int) == [(2 : Int), (2 : Int), (2 : Int), (0 : Int)]) = true →
 ((ptE (5 : Int) == (20 : Int)) = true →
 ((w4E shownL
 {
 data :=
 #[(97 : UInt8), (97 : UInt8), (97 : UInt8), (97 : UInt8), (97 : UInt8), (97 : UInt8), (97 : UInt8),
 (97 : UInt8)] } ==
 (0 : Int)) =
 true →
 ((ByteArray.toList
 (w4O shownL
 {
 data :=
 #[(97 : UInt8), (97 : UInt8), (97 : UInt8), (97 : UInt8), (97 : UInt8), (97 : UInt8), (97 : UInt8),
 (97 : UInt8)] }) ==
 ByteArray.toList
 {
 data :=
 #[(1 : UInt8), (0 : UInt8), (1 : UInt8), (0 : UInt8), (1 : UInt8), (0 : UInt8), (7 : UInt8), (7 : UInt8),
 (7 : UInt8), (7 : UInt8)] }) =
 true →
 (true = true → false = true) ∧ (true = false → false = true)) ∧
 ((ByteArray.toList
 (w4O shownL
 {
 data :=
 #[(97 : UInt8), (97 : UInt8), (97 : UInt8), (97 : UInt8), (97 : UInt8), (97 : UInt8), (97 : UInt8),
 (97 : UInt8)] }) ==
 ByteArray.toList
 {
 data :=
 #[(1 : UInt8), (0 : UInt8), (1 : UInt8), (0 : UInt8), (1 : UInt8), (0 : UInt8), (7 : UInt8), (7 : UInt8),
 (7 : UInt8), (7 : UInt8)] }) =
 false →
 (true = true → false = true) ∧ (true = false → false = true))) ∧
 ((w4E shownL
 {
 data :=
 #[(97 : UInt8), (97 : UInt8), (97 : UInt8), (97 : UInt8), (97 : UInt8), (97 : UInt8), (97 : UInt8),
 (97 : UInt8)] } ==
 (0 : Int)) =
 false →
 (true = true → false = true) ∧ (true = false → false = true))) ∧
 ((ptE (5 : Int) == (20 : Int)) = false → (true = true → false = true) ∧ (true = false → false = true))) ∧
 ((ptV (6 : Int) == [(2 : Int), (2 : Int), (2 : Int), (0 : Int)]) = false →
 (true = true → false = true) ∧ (true = false → false = true))) ∧
 ((ptE (6 : Int) == (0 : Int)) = false → (true = true → false = true) ∧ (true = false → false = true)))) ∧
 (wrsB { data := #[(97 : UInt8)] } { data := #[(3 : UInt8)] } = false →
 ((ptE (6 : Int) == (0 : Int)) = true →
 (4 : Nat) = List.length (ptV (6 : Int)) ∧
 (4 : Nat) = List.length (ptV (6 : Int)) ∧
 (4 : Nat) = List.length [(2 : Int), (2 : Int), (2 : Int), (0 : Int)] ∧
 ((ptV (6 : Int) == [(2 : Int), (2 : Int), (2 : Int), (0 : Int)]) = true →
 ((ptE (5 : Int) == (20 : Int)) = true →
 ((w4E shownL
 {
 data :=
 #[(97 : UInt8), (97 : UInt8), (97 : UInt8), (97 : UInt8), (97 : UInt8), (97 : UInt8), (97 : UInt8), (97 : UInt8)] } ==
 (0 : Int)) =
 true →
 ((ByteArray.toList
 (w4O shownL
 {
 data :=
 #[(97 : UInt8), (97 : UInt8), (97 : UInt8), (97 : UInt8), (97 : UInt8), (97 : UInt8), (97 : UInt8),
 (97 : UInt8)] }) ==
 ByteArray.toList
 {
 data :=
 #[(1 : UInt8), (0 : UInt8), (1 : UInt8), (0 : UInt8), (1 : UInt8), (0 : UInt8), (7 : UInt8), (7 : UInt8),
 (7 : UInt8), (7 : UInt8)] }) =
 true →
 (true = true → false = true) ∧ (true = false → false = true)) ∧
 ((ByteArray.toList
 (w4O shownL
 {
 data :=
 #[(97 : UInt8), (97 : UInt8), (97 : UInt8), (97 : UInt8), (97 : UInt8), (97 : UInt8), (97 : UInt8),
 (97 : UInt8)] }) ==
 ByteArray.toList
 {
 data :=
 #[(1 : UInt8), (0 : UInt8), (1 : UInt8), (0 : UInt8), (1 : UInt8), (0 : UInt8), (7 : UInt8), (7 : UInt8),
 (7 : UInt8), (7 : UInt8)] }) =
 false →
 (true = true → false = true) ∧ (true = false → false = true))) ∧
 ((w4E shownL
 {
 data :=
 #[(97 : UInt8), (97 : UInt8), (97 : UInt8), (97 : UInt8), (97 : UInt8), (97 : UInt8), (97 : UInt8), (97 : UInt8)] } ==
 (0 : Int)) =
 false →
 (true = true → false = true) ∧ (true = false → false = true))) ∧
 ((ptE (5 : Int) == (20 : Int)) = false → (true = true → false = true) ∧ (true = false → false = true))) ∧
 ((ptV (6 : Int) == [(2 : Int), (2 : Int), (2 : Int), (0 : Int)]) = false → (true = true → false = true) ∧ (true = false → false = true))) ∧
 ((ptE (6 : Int) == (0 : Int)) = false → (true = true → false = true) ∧ (true = false → false = true)))
theorem lawKnN_e  : lawKnN_t  = vcG Try.prog (Gof GUi) (fun _ => none) Try.f5 [] [] (.leaf ((.v (.bool true))) ([])) := by kernel_rfl
end Go.Proofs.Ytmdbliacaeokaaa
