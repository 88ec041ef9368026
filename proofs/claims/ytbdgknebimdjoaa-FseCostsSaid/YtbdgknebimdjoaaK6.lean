/-
  Texts joined: FH, FI, FJ, FK, FL, FM, FN, FO, FP, FPt, EO, FQ, D8Yf, FRf, FR, FRt, Kd, FS, FT. Conditions: each theorem's own.
-/
import Derived.Test.YtbdgknebimdjoaaK5
import Derived.Test.YtbdgknebimdjoaaK3
import Derived.Test.YtbdgknebimdjoaaK4
/-
  Chapter 11: the table made of a right distribution is right. Conditions: each theorem's own.
-/
namespace Go.Proofs.Ytbdgknebimdjoaa
open Go Go.RowKit
set_option linter.unusedVariables false
set_option linter.unusedSimpArgs false
set_option maxRecDepth 100000
theorem cellsF_asc (s : Int) : ∀ (a : List Int) (c : Int), (cellsF s c a).Pairwise (fun x y : Int => x < y)
  | [], _ => List.Pairwise.nil
  | x :: r, c => by
    show (cond (x == s) (c :: cellsF s (c + 1) r) (cellsF s (c + 1) r)).Pairwise _
    cases x == s
    · exact cellsF_asc s r (c + 1)
    · refine List.Pairwise.cons (fun y hy => ?_) (cellsF_asc s r (c + 1))
      obtain ⟨i, _, _, rfl⟩ := (cellsF_mem s r (c + 1) y).1 hy
      omega
theorem asc_sorted {l : List Int} (h : l.Pairwise (fun x y : Int => x < y)) : sorted l = true := by
  rw [sorted_iff]
  intro i hi
  have := List.pairwise_iff_getElem.1 h i (i + 1) (by omega) hi (by omega)
  rw [List.getD_eq_getElem?_getD, List.getElem?_eq_getElem (by omega), List.getD_eq_getElem?_getD, List.getElem?_eq_getElem hi]
  simp only [Option.getD_some]
  omega
theorem filt_succ (n : Nat) : ∀ sp : List Int, (sp.filter fun x => decide (0 ≤ x) && decide (x < ((n + 1 : Nat) : Int))).length = (sp.filter fun x => decide (0 ≤ x) && decide (x < (n : Int))).length + sp.count (n : Int)
  | [] => rfl
  | x :: r => by
    have ih := filt_succ n r
    by_cases hx : x = (n : Int)
    · subst hx
      rw [List.filter_cons_of_pos (by simp; omega), List.filter_cons_of_neg (by simp), List.count_cons_self, List.length_cons, ih]
      omega
    · have hc : (x :: r).count (n : Int) = r.count (n : Int) := List.count_cons_of_ne hx
      rw [hc]
      by_cases hy : 0 ≤ x ∧ x < (n : Int)
      · rw [List.filter_cons_of_pos (by simp; omega), List.filter_cons_of_pos (by simp; omega), List.length_cons, List.length_cons, ih]
        omega
      · rw [List.filter_cons_of_neg (by simp; omega), List.filter_cons_of_neg (by simp; omega), ih]
theorem states_flat (sp : List Int) : ∀ n : Nat, (statesL n sp).flatten.length = (sp.filter fun x => decide (0 ≤ x) && decide (x < (n : Int))).length
  | 0 => by
    have : sp.filter (fun x => decide (0 ≤ x) && decide (x < ((0 : Nat) : Int))) = [] := List.filter_eq_nil_iff.2 fun x _ => by simp
    rw [this]
    rfl
  | n + 1 => by
    have e : statesL (n + 1) sp = statesL n sp ++ [cellsL sp (n : Int)] := by unfold statesL; rw [List.range_succ, List.map_append]; rfl
    rw [e, List.flatten_append, List.length_append, states_flat sp n, filt_succ]
    have : [cellsL sp (n : Int)].flatten.length = sp.count (n : Int) := by simp [cellsL, cellsF_len]
    rw [this]
theorem enc_tok {g : Int} {l : List Int} (h : dchk g l = 0) : TOk g (encL g l) := by
  have hd := dchk0 h
  have hsz := szN_bd hd.g5 hd.g12
  rw [(enc_good h).2]
  refine ⟨by have := hd.g5; omega, hd.g12, by rw [← states_all, states_len]; exact hd.n2, List.all_eq_true.2 fun r hr => ?_, ?_, ?_, ?_⟩
  · unfold statesL at hr
    obtain ⟨k, _, rfl⟩ := List.mem_map.1 hr
    exact asc_sorted (cellsF_asc _ _ _)
  · show List.Pairwise _ _
    rw [List.pairwise_flatten]
    refine ⟨fun r hr => ?_, ?_⟩
    · unfold statesL at hr
      obtain ⟨k, _, rfl⟩ := List.mem_map.1 hr
      exact (cellsF_asc _ _ _).imp fun h => by omega
    · unfold statesL
      rw [List.pairwise_map]
      refine List.pairwise_lt_range.imp fun {a b} hab x hx y hy e => ?_
      subst e
      obtain ⟨i, _, h1, h2⟩ := cellsL_mem.1 hx
      obtain ⟨j, _, h3, h4⟩ := cellsL_mem.1 hy
      have : i = j := by omega
      subst this
      omega
  · intro c hc
    obtain ⟨r, hr, hc⟩ := List.mem_flatten.1 hc
    unfold statesL at hr
    obtain ⟨k, _, rfl⟩ := List.mem_map.1 hr
    obtain ⟨i, hi, _, rfl⟩ := cellsL_mem.1 hc
    rw [spr_len] at hi
    omega
  · rw [states_flat]
    have : (spr g l).filter (fun x => decide (0 ≤ x) && decide (x < (l.length : Int))) = spr g l := List.filter_eq_self.2 fun x hx => by
      obtain ⟨i, hi, rfl⟩ := List.getElem_of_mem hx
      rw [spr_len] at hi
      obtain ⟨s, h1, _, h2⟩ := spr_sym hd hi
      rw [List.getD_eq_getElem?_getD, List.getElem?_eq_getElem (by rw [spr_len]; exact hi)] at h2
      simp only [Option.getD_some] at h2
      rw [h2]
      simp
      omega
    rw [this, spr_len]
end Go.Proofs.Ytbdgknebimdjoaa
/-
  Chapter 12: what is asked ahead of a stream: conditions that hold. Conditions: each theorem's own.
-/
namespace Go.Proofs.Ytbdgknebimdjoaa
open Go Go.RowKit
set_option linter.unusedVariables false
set_option linter.unusedSimpArgs false
set_option maxRecDepth 100000
theorem noD_neg {p : List Int} {x : Int} (h : decide (x < 0) = true) : noD p x = true := by unfold noD; rw [h]; rfl
theorem noD_big {p : List Int} {x : Int} (h : decide (x ≥ (p.length : Int)) = true) : noD p x = true := by
  unfold noD
  have : decide ((p.length : Int) ≤ x) = true := h
  rw [this, Bool.or_true]
  rfl
theorem noD_in {p : List Int} {x : Int} (h : decide (x < 0) = false) (h2 : decide (x ≥ (p.length : Int)) = false) : (p.getD x.toNat 0 == 0) = noD p x := by
  unfold noD
  have : decide ((p.length : Int) ≤ x) = false := h2
  rw [h, this]
  rfl
theorem noDF_v (x g : Int) (p : List Int) (h0 : p.length ≤ 4294967296) : noDF_t x g p := by
  unfold noDF_t
  refine ⟨fun h => ⟨(noD_neg h).symm, (by first | rfl | trivial), (by first | rfl | trivial)⟩, fun h => ⟨fun h2 => ⟨(noD_big h2).symm, (by first | rfl | trivial), (by first | rfl | trivial)⟩, fun h2 => ⟨?_, ?_, noD_in h h2, (by first | rfl | trivial), (by first | rfl | trivial)⟩⟩⟩
  · simp only [decide_eq_false_iff_not] at h; omega
  · simp only [ge_iff_le, decide_eq_false_iff_not] at h2; omega
theorem any_at {q : Int → Bool} {l : List Int} {i : Nat} (h : i < l.length) (hq : q (l.getD i 0) = true) : false = !l.any q := by
  rw [List.any_eq_true.2 ⟨_, getD_mem' h, hq⟩]; rfl
theorem rcovF_v (g : Int) (p l : List Int) (h0 : p.length ≤ 4294967296) (h1 : l.length ≤ 4294967296) : rcovF_t g p l := by
  unfold rcovF_t
  refine ⟨⟨0, ⟨by omega, rfl⟩, (by first | rfl | trivial), (by first | rfl | trivial), (by first | rfl | trivial), (by first | rfl | trivial)⟩, fun i ⟨hi, ha⟩ => ⟨fun hlt => ?_, fun hge => ?_⟩⟩
  · have hlt : i < l.length := by simpa using hlt
    simp only [toNat_cast]
    refine ⟨by omega, by omega, fun h => any_at hlt (noD_neg h), fun h => ⟨by omega, by omega, fun h2 => any_at hlt (noD_big h2), fun h2 => ⟨by omega, by omega, ?_, ?_, fun h3 => ?_, fun h3 => ?_⟩⟩⟩
    · simp only [decide_eq_false_iff_not] at h; omega
    · simp only [ge_iff_le, decide_eq_false_iff_not] at h2; omega
    · rw [noD_in h h2] at h3
      exact any_at hlt h3
    · rw [noD_in h h2] at h3
      refine ⟨i + 1, ⟨by omega, ?_⟩, by rw [Nat.sub_eq, Nat.sub_eq]; omega, (by first | rfl | trivial), by rw [wr (by omega) (by omega)]; rfl, (by first | rfl | trivial), (by first | rfl | trivial)⟩
      rw [take_succ l 0 hlt, List.any_append, ha]
      simp only [List.any_cons, List.any_nil, h3]
      rfl
  · have : i = l.length := by simp only [decide_eq_false_iff_not] at hge; omega
    subst this
    rw [List.take_length] at ha
    rw [ha]
    rfl
theorem idxD_v (l : List Int) (g : Int) (p : List Int) (h0 : l.length ≤ 4294967296) (h1 : p.length ≤ 4294967296) : idxD_t l g p := by
  unfold idxD_t
  refine ⟨⟨0, ⟨by omega, rfl⟩, (by first | rfl | trivial), (by first | rfl | trivial), (by first | rfl | trivial), (by first | rfl | trivial), (by first | rfl | trivial)⟩, fun i ⟨hi, ha⟩ => ⟨fun hlt => ?_, fun hge => ?_⟩⟩
  · have hlt : i < l.length := by simpa using hlt
    simp only [toNat_cast]
    refine ⟨by omega, by omega, h1, fun hn => ?_, fun hn => ?_⟩
    · obtain ⟨k1, k2⟩ := findIdx_at (noD p) l i hlt ha hn
      rw [k1, k2]
      exact ⟨rfl, (by first | rfl | trivial), (by first | rfl | trivial)⟩
    · refine ⟨i + 1, ⟨by omega, ?_⟩, by rw [Nat.sub_eq, Nat.sub_eq]; omega, (by first | rfl | trivial), (by first | rfl | trivial), by rw [wr (by omega) (by omega)]; rfl, (by first | rfl | trivial), (by first | rfl | trivial)⟩
      rw [take_succ l 0 hlt, List.any_append, ha]
      simp only [List.any_cons, List.any_nil, hn]
      rfl
  · have : i = l.length := by simp only [decide_eq_false_iff_not] at hge; omega
    subst this
    rw [List.take_length] at ha
    rw [ha]
    exact ⟨rfl, (by first | rfl | trivial), (by first | rfl | trivial)⟩
theorem hasD_v (l : List Int) (g : Int) (p : List Int) (h0 : l.length ≤ 4294967296) (h1 : p.length ≤ 4294967296) : hasD_t l g p := by
  unfold hasD_t
  refine ⟨h0, h1, ?_, (by first | rfl | trivial), (by first | rfl | trivial)⟩
  cases l.any (noD p)
  · rfl
  · rw [cond_true]; exact decide_eq_true (by omega)
theorem ask_v {g : Int} {p l : List Int} {c : Int} (h0 : p.length ≤ 4294967296) (h1 : l.length ≤ 4294967296) : raskF_t g p l c := by
  unfold raskF_t askE
  refine ⟨h0, fun h => by rw [ne0 h]; rfl, fun h => ?_⟩
  rw [beq0 (eq0 h)]
  refine ⟨fun hl => ?_, fun hl => ⟨fun hc => ?_, fun hc => ⟨h0, h1, fun ha => ?_, fun ha => ?_⟩⟩⟩
  · rw [decide_eq_true (show 100000 < l.length by simp only [gt_iff_lt, decide_eq_true_eq] at hl; omega)]; rfl
  all_goals rw [decide_eq_false (show ¬ 100000 < l.length by simp only [gt_iff_lt, decide_eq_false_iff_not] at hl; omega)]
  · rw [hc]; rfl
  · rw [hc]
    rw [Bool.not_not] at ha
    rw [ha]; rfl
  · rw [hc]
    rw [Bool.not_not] at ha
    rw [ha]; rfl
theorem cov_v {g : Int} {p l : List Int} (h0 : p.length ≤ 4294967296) (h1 : l.length ≤ 4294967296) : rcovE_t g p l := by
  unfold rcovE_t covB
  refine ⟨h0, fun h => ⟨by rw [ne0 h]; rfl, (by first | rfl | trivial)⟩, fun h => ⟨h0, h1, by rw [beq0 (eq0 h)]; rfl, (eq0 h).symm⟩⟩
theorem noDF_sound : Sound Try.prog 111 sNoDc.ctr := sNoDc.sound (by kernel_rfl) sNoDc_enc fun ⟨x, g, p⟩ hc => by
  have h0 := hc _ (.head _)
  exact satG AllOk.nil mixed Try.func111 (noDF_e x g p) (noDF_v x g p h0)
theorem rcovF_sound : Sound Try.prog 82 sCovD.ctr := sCovD.sound (by kernel_rfl) sCovD_enc fun ⟨g, p, l⟩ hc => by
  have h0 := hc _ (.head _)
  have h1 := hc _ (.tail _ (.head _))
  exact satG AllOk.nil mixed Try.func82 (rcovF_e g p l) (rcovF_v g p l h0 h1)
theorem look_app {c : Ctr} : ∀ (A B : List (Nat × Ctr)) (f : Nat), lookupL (A ++ B) f = some c → lookupL A f = some c ∨ lookupL B f = some c
  | [], _, _, h => .inr h
  | (i, y) :: r, B, f, h => by
    simp only [List.cons_append, lookupL] at h ⊢
    cases hb : Nat.beq f i
    · rw [hb] at h; exact look_app r B f h
    · rw [hb] at h; exact .inl h
theorem all_app {P : Program} {A B : List (Nat × Ctr)} (hA : AllOk P A) (hB : AllOk P B) : AllOk P (A ++ B) := fun f c h => (look_app A B f h).elim (hA f c) (hB f c)
theorem GFd_ok : AllOk Try.prog GFd := .cons noDF_sound <| .cons rcovF_sound <| all_app GFc_ok GEk_ok
theorem idxD_sound : Sound Try.prog 98 sIdxD.ctr := sIdxD.sound (by kernel_rfl) sIdxD_enc fun ⟨l, g, p⟩ hc => by
  have h0 := hc _ (.head _)
  have h1 := hc _ (.tail _ (.head _))
  exact satG GFd_ok mixed Try.func98 (idxD_e l g p) (idxD_v l g p h0 h1)
theorem raskF_sound : Sound Try.prog 78 sAsk.ctr := sAsk.sound (by kernel_rfl) sAsk_enc fun ⟨g, p, l, c⟩ hc => by
  have h0 := hc _ (.head _)
  have h1 := hc _ (.tail _ (.head _))
  exact satG GFd_ok mixed Try.func78 (raskF_e g p l c) (ask_v h0 h1)
theorem rcovE_sound : Sound Try.prog 48 sCovE.ctr := sCovE.sound (by kernel_rfl) sCovE_enc fun ⟨g, p, l⟩ hc => by
  have h0 := hc _ (.head _)
  have h1 := hc _ (.tail _ (.head _))
  exact satG GFd_ok mixed Try.func48 (rcovE_e g p l) (cov_v h0 h1)
theorem GFe_ok : AllOk Try.prog GFe := .cons idxD_sound <| .cons raskF_sound <| .cons rcovE_sound GFd_ok
theorem hasD_sound : Sound Try.prog 63 sHasD.ctr := sHasD.sound (by kernel_rfl) sHasD_enc fun ⟨l, g, p⟩ hc => by
  have h0 := hc _ (.head _)
  have h1 := hc _ (.tail _ (.head _))
  exact satG GFe_ok mixed Try.func63 (hasD_e l g p) (hasD_v l g p h0 h1)
theorem GFf_ok : AllOk Try.prog GFf := .cons hasD_sound GFe_ok
theorem covF_sound : Sound Try.prog 81 sCovD.ctr := sCovD.sound (by kernel_rfl) sCovD_enc fun ⟨g, p, l⟩ hc => by
  have h0 := hc _ (.head _)
  have h1 := hc _ (.tail _ (.head _))
  exact satG GFf_ok mixed Try.func81 (covF_e g p l) (⟨h1, h0, rfl⟩)
end Go.Proofs.Ytbdgknebimdjoaa
/-
  Chapter 11: the symbols of a distribution's table are the distribution's. Conditions: each theorem's own.
-/
namespace Go.Proofs.Ytbdgknebimdjoaa
open Go Go.RowKit
set_option linter.unusedVariables false
set_option linter.unusedSimpArgs false
set_option maxRecDepth 100000
theorem spr_has {g : Int} {l : List Int} (h : DOk g l) {s : Nat} (hs : s < l.length) (hne : l.getD s 0 ≠ 0) : (s : Int) ∈ spr g l := by
  rw [(spr_perm h).mem_iff, List.mem_append]
  by_cases hr : isR (l.getD s 0) = true
  · left
    have := lowF_at l 0 s hs hr
    rw [Int.zero_add] at this
    exact List.mem_of_getElem? this
  · right
    have hp : 0 < (l.getD s 0).toNat := by
      have := h.lo _ (getD_mem' hs)
      unfold isR at hr
      simp only [beq_iff_eq, decide_eq_true_eq, Bool.not_eq_true] at hr
      first | omega | (simp at hr; omega)
    have := hiF_at hs hp
    exact List.mem_of_getElem? this
theorem noC_enc {g : Int} {l : List Int} (h : dchk g l = 0) (s : Int) : noC (encL g l) s = noD l s := by
  have hd := dchk0 h
  have hlen : (statesL l.length (spr g l)).length = l.length := by rw [← states_all, states_len]
  rw [(enc_good h).2]
  by_cases hs : s < 0 ∨ (l.length : Int) ≤ s
  · have e : noD l s = true := by
      rcases hs with hs | hs
      · exact noD_neg (decide_eq_true hs)
      · exact noD_big (decide_eq_true hs)
    rw [e]
    exact noC_iff.2 (by rw [celT_out (by rw [hlen]; exact hs)]; rfl)
  · have h0 : 0 ≤ s := by omega
    have h1 : s < l.length := by omega
    obtain ⟨k, rfl⟩ := Int.eq_ofNat_of_zero_le h0
    have hk : k < l.length := by omega
    have ec : celT (statesL l.length (spr g l)) (k : Int) = cellsL (spr g l) (k : Int) := by
      rw [celT_in (by omega) (by rw [hlen]; exact h1), toNat_cast, ← states_all, states_get hk, cellsP_all]
    have en := noD_in (p := l) (x := (k : Int)) (decide_eq_false (by omega)) (decide_eq_false (by omega))
    rw [toNat_cast] at en
    rw [← en]
    by_cases hz : l.getD k 0 = 0
    · rw [hz]
      exact noC_iff.2 (by rw [ec, cells_zero hd hk hz]; rfl)
    · have e2 : (l.getD k 0 == 0) = false := beq_eq_false_iff_ne.2 hz
      rw [e2]
      cases hb : noC (statesL l.length (spr g l)) (k : Int)
      · rfl
      · have hl := noC_iff.1 hb
        rw [ec] at hl
        have hc : (cellsL (spr g l) (k : Int)).length = (spr g l).count (k : Int) := cellsF_len _ _ _
        have := List.count_pos_iff.2 (spr_has hd hk hz)
        omega
theorem enc_echk {g : Int} {l : List Int} (h : dchk g l = 0) : echk g (encL g l) = 0 := echk0' (enc_tok h)
theorem enc_lit {g : Int} {l : List Int} (h : dchk g l = 0) : litT g (encL g l) = true := by
  have ht := enc_tok h
  have hs := sz0 ht.g0 ht.g12
  unfold litT
  rw [decide_eq_true (show (encL g l).flatten.length ≤ 65536 by rw [ht.w.len]; omega), Bool.or_true]
end Go.Proofs.Ytbdgknebimdjoaa
/-
  Chapter 12: bounds of the states and of the writer. Conditions: each theorem's own.
-/
namespace Go.Proofs.Ytbdgknebimdjoaa
open Go Go.RowKit
set_option linter.unusedVariables false
set_option linter.unusedSimpArgs false
set_option maxRecDepth 100000
structure FwB (g : Int) (t : List (List Int)) (l : List Int) (c k : Nat) : Prop where
  len : (fwX g t l c k).length = 2
  x0 : ∀ j, 0 ≤ (fwX g t l c k).getD j 0
  x1 : ∀ j, (fwX g t l c k).getD j 0 < (szN g : Int)
  n0 : 0 ≤ fwN g t l c k
  n7 : fwN g t l c k ≤ 7
  p0 : 0 ≤ fwP g t l c k
  p1 : fwP g t l c k < 2 ^ (fwN g t l c k).toNat
  size : (fwS g t l c k).size ≤ 2 * k
theorem getD_set' {l : List Int} {i j : Nat} {x : Int} (P : Int → Prop) (h0 : P 0) (hx : P x) (hl : ∀ j, P (l.getD j 0)) : P ((l.set i x).getD j 0) := by
  rw [List.getD_eq_getElem?_getD, List.getElem?_set]
  split
  · split
    · exact hx
    · exact h0
  · have := hl j
    rw [List.getD_eq_getElem?_getD] at this
    exact this
theorem blt_t {a b : Nat} (h : a < b) : Nat.blt a b = true := by unfold Nat.blt; exact Nat.ble_eq_true_of_le h
theorem blt_f {a b : Nat} (h : ¬ a < b) : Nat.blt a b = false := by
  cases hb : Nat.blt a b
  · rfl
  · exact absurd (Nat.le_of_ble_eq_true hb) h
theorem fw_first {g : Int} {t : List (List Int)} {l : List Int} {c k : Nat} (h : k < c) : fwR g t l c (k + 1) = ((fwX g t l c k).set (nthI l k % c) ((celT t (nthS l k)).getD 0 0), (fwR g t l c k).2) := by
  show cond (Nat.blt k c) _ _ = _
  rw [blt_t h]
  rfl
theorem fw_put {g : Int} {t : List (List Int)} {l : List Int} {c k : Nat} (h : ¬ k < c) : fwR g t l c (k + 1) = ((fwX g t l c k).set (nthI l k % c) (putS g t ((fwX g t l c k).getD (nthI l k % c) 0) (nthS l k)),
    putWr (fwR g t l c k).2 (putN g t ((fwX g t l c k).getD (nthI l k % c) 0) (nthS l k)) (putV g t ((fwX g t l c k).getD (nthI l k % c) 0) (nthS l k))) := by
  show cond (Nat.blt k c) _ _ = _
  rw [blt_f h]
  rfl
theorem put_nums {g : Int} {t : List (List Int)} {x s p n : Int} (hT : TOk g t) (hx0 : 0 ≤ x) (hx1 : x < (szN g : Int)) (hn : noC t s = false) (n0 : 0 ≤ n) (n7 : n ≤ 7) (p0 : 0 ≤ p) (p1 : p < 2 ^ n.toNat) : PutN p n (putN g t x s) (putV g t x s) := by
  have hb := put_bd hT hx0 hx1 hn
  exact ⟨n0, n7, p0, p1, hb.1, by omega, Int.emod_nonneg _ (by have := pow_pos' (putN g t x s).toNat; omega), Int.emod_lt_of_pos _ (pow_pos' _)⟩
theorem fw_bd {g : Int} {t : List (List Int)} {l : List Int} {c : Nat} (hT : TOk g t) (hn : l.any (noC t) = false) : ∀ k, k ≤ l.length → FwB g t l c k
  | 0, _ => by
    have hz := szN_pos g
    have h2 : ∀ j, ([0, 0] : List Int).getD j 0 = 0 := fun j => by
      match j with
      | 0 => rfl
      | 1 => rfl
      | j + 2 => rfl
    exact ⟨rfl, fun j => by show 0 ≤ ([0, 0] : List Int).getD j 0; rw [h2]; exact Int.le_refl _, fun j => by show ([0, 0] : List Int).getD j 0 < _; rw [h2]; omega, Int.le_refl _, by show (0 : Int) ≤ 7; decide, Int.le_refl _, by show (0 : Int) < 2 ^ (0 : Int).toNat; decide, by show ByteArray.empty.size ≤ _; exact Nat.zero_le _⟩
  | k + 1, hk => by
    have ih := fw_bd (c := c) hT hn k (by omega)
    have hs : noC t (nthS l k) = false := any_get hn (by unfold nthI; omega)
    have hz := szN_pos g
    have hx0 := ih.x0 (nthI l k % c)
    have hx1 := ih.x1 (nthI l k % c)
    by_cases hc : k < c
    · have e := fw_first (g := g) (t := t) (l := l) hc
      have hb := cel_any hT (nthS l k) 0
      have eX : fwX g t l c (k + 1) = (fwX g t l c k).set (nthI l k % c) ((celT t (nthS l k)).getD 0 0) := congrArg Prod.fst e
      have eS : fwS g t l c (k + 1) = fwS g t l c k := congrArg (fun r => r.2.1) e
      have eP : fwP g t l c (k + 1) = fwP g t l c k := congrArg (fun r => r.2.2.1) e
      have eN : fwN g t l c (k + 1) = fwN g t l c k := congrArg (fun r => r.2.2.2) e
      exact ⟨by rw [eX, List.length_set]; exact ih.len, fun j => by rw [eX]; exact getD_set' (fun z => 0 ≤ z) (Int.le_refl _) hb.1 ih.x0, fun j => by rw [eX]; exact getD_set' (fun z => z < (szN g : Int)) (by omega) hb.2 ih.x1,
        by rw [eN]; exact ih.n0, by rw [eN]; exact ih.n7, by rw [eP]; exact ih.p0, by rw [eP, eN]; exact ih.p1, by rw [eS]; have := ih.size; omega⟩
    · have e := fw_put (g := g) (t := t) (l := l) hc
      have hp := put_nums (s := nthS l k) hT hx0 hx1 hs ih.n0 ih.n7 ih.p0 ih.p1
      have hb := put_bd hT hx0 hx1 hs
      obtain ⟨q0, q1⟩ := hp.P
      obtain ⟨r0, r1, r2⟩ := wM_eq ih.n0 hb.1
      have hc2 := cel_any hT (nthS l k) (putX g ((fwX g t l c k).getD (nthI l k % c) 0) / 2 ^ (putN g t ((fwX g t l c k).getD (nthI l k % c) 0) (nthS l k)).toNat - (celT t (nthS l k)).length).toNat
      have eX : fwX g t l c (k + 1) = (fwX g t l c k).set (nthI l k % c) (putS g t ((fwX g t l c k).getD (nthI l k % c) 0) (nthS l k)) := congrArg Prod.fst e
      have eS : fwS g t l c (k + 1) = wS (fwS g t l c k) (fwP g t l c k) (fwN g t l c k) (putN g t ((fwX g t l c k).getD (nthI l k % c) 0) (nthS l k)) (putV g t ((fwX g t l c k).getD (nthI l k % c) 0) (nthS l k)) := congrArg (fun r => r.2.1) e
      have eP : fwP g t l c (k + 1) = wP (fwP g t l c k) (fwN g t l c k) (putN g t ((fwX g t l c k).getD (nthI l k % c) 0) (nthS l k)) (putV g t ((fwX g t l c k).getD (nthI l k % c) 0) (nthS l k)) := congrArg (fun r => r.2.2.1) e
      have eN : fwN g t l c (k + 1) = wN (fwN g t l c k) (putN g t ((fwX g t l c k).getD (nthI l k % c) 0) (nthS l k)) := congrArg (fun r => r.2.2.2) e
      exact ⟨by rw [eX, List.length_set]; exact ih.len, fun j => by rw [eX]; exact getD_set' (fun z => 0 ≤ z) (Int.le_refl _) hc2.1 ih.x0, fun j => by rw [eX]; exact getD_set' (fun z => z < (szN g : Int)) (by omega) hc2.2 ih.x1,
        by rw [eN]; exact r1, by rw [eN]; exact r2, by rw [eP]; exact q0, by rw [eP, eN]; exact q1, by rw [eS, wS_size]; have := ih.size; have := ih.n7; omega⟩
end Go.Proofs.Ytbdgknebimdjoaa
/-
  Chapter 12: who has a state. Conditions: each theorem's own.
-/
namespace Go.Proofs.Ytbdgknebimdjoaa
open Go Go.RowKit
set_option linter.unusedVariables false
set_option linter.unusedSimpArgs false
set_option maxRecDepth 100000
theorem fwG_len (l : List Int) (c : Nat) : ∀ k, (fwG l c k).length = 2
  | 0 => rfl
  | k + 1 => by
    show ((fwG l c k).set (nthI l k % c) true).length = 2
    rw [List.length_set, fwG_len l c k]
theorem fwG_keep (l : List Int) (c : Nat) (k : Nat) {j : Nat} (h : (fwG l c k).getD j false = true) : (fwG l c (k + 1)).getD j false = true := by
  show ((fwG l c k).set (nthI l k % c) true).getD j false = true
  rw [List.getD_eq_getElem?_getD] at h ⊢
  rw [List.getElem?_set]
  split
  · split
    · rfl
    · rename_i h1 h2
      subst h1
      rw [List.getElem?_eq_none (by omega)] at h
      cases h
  · exact h
theorem fwG_new (l : List Int) (c : Nat) (k : Nat) {j : Nat} (hj : j < 2) (h : nthI l k % c = j) : (fwG l c (k + 1)).getD j false = true := by
  show ((fwG l c k).set (nthI l k % c) true).getD j false = true
  rw [List.getD_eq_getElem?_getD, List.getElem?_set, if_pos h, if_pos (by rw [h, fwG_len]; exact hj)]
  rfl
end Go.Proofs.Ytbdgknebimdjoaa
/-
  Chapter 12: a list's stream is written. Conditions: each theorem's own.
-/
namespace Go.Proofs.Ytbdgknebimdjoaa
open Go Go.RowKit
set_option linter.unusedVariables false
set_option linter.unusedSimpArgs false
set_option maxRecDepth 100000
theorem fwG_keeps {l : List Int} {c k j : Nat} (h : (fwG l c k).getD j false = true) : ∀ m, (fwG l c (k + m)).getD j false = true
  | 0 => h
  | m + 1 => fwG_keep l c (k + m) (fwG_keeps h m)
theorem fwG_has {l : List Int} {c k : Nat} (hc : c = 1 ∨ c = 2) (hn : c ≤ l.length) (hk : k < l.length) : (fwG l c k).getD (nthI l k % c) false = Nat.ble c k := by
  by_cases h : c ≤ k
  · have e : nthI l (k - c) % c = nthI l k % c := by
      unfold nthI
      rw [show l.length - 1 - (k - c) = l.length - 1 - k + c by omega, Nat.add_mod_right]
    have hl : nthI l k % c < 2 := by
      have := Nat.mod_lt (nthI l k) (show c > 0 by omega)
      omega
    have := fwG_keeps (fwG_new l c (k - c) hl e) (c - 1)
    rw [show k - c + 1 + (c - 1) = k by omega] at this
    rw [this, Nat.ble_eq_true_of_le h]
  · have hb : Nat.ble c k = false := by
      cases hb : Nat.ble c k
      · rfl
      · exact absurd (Nat.le_of_ble_eq_true hb) h
    rw [hb]
    have h0 : ∀ j, ([false, false] : List Bool).getD j false = false := fun j => by
      match j with
      | 0 => rfl
      | 1 => rfl
      | j + 2 => rfl
    cases k with
    | zero => exact h0 _
    | succ k =>
      have : k = 0 ∧ c = 2 := by omega
      obtain ⟨rfl, rfl⟩ := this
      show ([false, false].set (nthI l 0 % 2) true).getD (nthI l (0 + 1) % 2) false = false
      have e1 : nthI l 0 = nthI l (0 + 1) + 1 := by unfold nthI; omega
      rw [e1]
      rcases Nat.mod_two_eq_zero_or_one (nthI l (0 + 1)) with h | h
      · rw [h, show (nthI l (0 + 1) + 1) % 2 = 1 by omega]; rfl
      · rw [h, show (nthI l (0 + 1) + 1) % 2 = 0 by omega]; rfl
structure AskOk (g : Int) (p l : List Int) (c : Nat) : Prop where
  d : dchk g p = 0
  hi : l.length ≤ 100000
  lo : c ≤ l.length
  no : l.any (noD p) = false
theorem ask0 {g : Int} {p l : List Int} {c : Nat} (h : askE g p l (c : Int) = 0) : AskOk g p l c := by
  unfold askE at h
  cases hd : dchk g p == 0
  · rw [hd] at h
    exact absurd h (by simpa using hd)
  rw [hd, cond_true] at h
  cases h1 : decide (100000 < l.length)
  · rw [h1, cond_false] at h
    cases h2 : decide ((l.length : Int) < (c : Int))
    · rw [h2, cond_false] at h
      cases h3 : l.any (noD p)
      · simp only [decide_eq_false_iff_not] at h1 h2
        exact ⟨by simpa using hd, by omega, by omega, h3⟩
      · rw [h3, cond_true] at h; exact absurd h (by decide)
    · rw [h2, cond_true] at h; exact absurd h (by decide)
  · rw [h1, cond_true] at h; exact absurd h (by decide)
theorem AskOk.T {g : Int} {p l : List Int} {c : Nat} (h : AskOk g p l c) : TOk g (encL g p) := enc_tok h.d
theorem AskOk.nc {g : Int} {p l : List Int} {c : Nat} (h : AskOk g p l c) : l.any (noC (encL g p)) = false := by
  have := h.no
  rw [← this]
  exact congrArg (List.any l) (funext fun s => noC_enc h.d s)
theorem AskOk.len {g : Int} {p l : List Int} {c : Nat} (h : AskOk g p l c) : (encL g p).length ≤ 4294967296 := by
  have := h.T.n
  omega
theorem pu_ok {g : Int} {t : List (List Int)} {x s : Int} (hc : echk g t = 0) (h0 : 0 ≤ x) (h1 : x < (szN g : Int)) (hn : noC t s = false) : puS g t x s = putS g t x s ∧ puB g t x s = putN g t x s ∧ puV g t x s = putV g t x s := by
  refine pu_good ?_
  rw [puE_st hc, stE_in h0 h1]
  unfold celM
  rw [hn]
  rfl
theorem noC_ne {t : List (List Int)} {s : Int} (hn : noC t s = false) : (celT t s).length ≠ 0 := by
  intro h
  unfold noC at hn
  rw [h] at hn
  cases hn
theorem fr_ok {g : Int} {t : List (List Int)} {s : Int} (hc : echk g t = 0) (hn : noC t s = false) : frI g t s = (celT t s).getD 0 0 := (fr_good hc (noC_ne hn)).2
/-! ### the states behind the rest -/
structure FfB (g : Int) (t : List (List Int)) (l : List Int) (c m : Nat) : Prop where
  n0 : 0 ≤ ffN g t l c m
  n7 : ffN g t l c m ≤ 7
  p0 : 0 ≤ ffP g t l c m
  p1 : ffP g t l c m < 2 ^ (ffN g t l c m).toNat
  size : (ffS g t l c m).size ≤ 2 * l.length + 3 * m
def lstX (g : Int) (t : List (List Int)) (l : List Int) (c m : Nat) : Int := (fwX g t l c l.length).getD (c - 1 - m) 0
theorem ff_S (g : Int) (t : List (List Int)) (l : List Int) (c m : Nat) : ffS g t l c (m + 1) = wS (ffS g t l c m) (ffP g t l c m) (ffN g t l c m) g (lstX g t l c m) := rfl
theorem ff_P (g : Int) (t : List (List Int)) (l : List Int) (c m : Nat) : ffP g t l c (m + 1) = wP (ffP g t l c m) (ffN g t l c m) g (lstX g t l c m) := rfl
theorem ff_N (g : Int) (t : List (List Int)) (l : List Int) (c m : Nat) : ffN g t l c (m + 1) = wN (ffN g t l c m) g := rfl
theorem ff_num {g : Int} {t : List (List Int)} {l : List Int} {c m : Nat} (hT : TOk g t) (hn : l.any (noC t) = false) (n0 : 0 ≤ ffN g t l c m) (n7 : ffN g t l c m ≤ 7) (p0 : 0 ≤ ffP g t l c m) (p1 : ffP g t l c m < 2 ^ (ffN g t l c m).toNat) (j : Nat) :
    PutN (ffP g t l c m) (ffN g t l c m) g ((fwX g t l c l.length).getD j 0) := by
  have hb := fw_bd (c := c) hT hn l.length (Nat.le_refl _)
  have := hb.x1 j
  rw [szI] at this
  exact ⟨n0, n7, p0, p1, hT.g0, by have := hT.g12; omega, hb.x0 j, this⟩
theorem ff_bd {g : Int} {t : List (List Int)} {l : List Int} {c : Nat} (hT : TOk g t) (hn : l.any (noC t) = false) : ∀ m, FfB g t l c m
  | 0 => by
    have hb := fw_bd (c := c) hT hn l.length (Nat.le_refl _)
    exact ⟨hb.n0, hb.n7, hb.p0, hb.p1, by have := hb.size; show (fwS g t l c l.length).size ≤ _; omega⟩
  | m + 1 => by
    have ih := ff_bd (c := c) hT hn m
    have hp := ff_num hT hn ih.n0 ih.n7 ih.p0 ih.p1 (c - 1 - m)
    obtain ⟨q0, q1⟩ := hp.P
    obtain ⟨r0, r1, r2⟩ := wM_eq ih.n0 hT.g0
    have := hT.g12
    have := ih.n7
    have := ih.size
    exact ⟨by rw [ff_N]; exact r1, by rw [ff_N]; exact r2, by rw [ff_P]; exact q0, by rw [ff_P, ff_N]; exact q1, by rw [ff_S, wS_size]; omega⟩
theorem bkw_isat (k : Nat) (l : List Int) (h0 : l.length ≤ 4294967296) : ISat Try.prog 139 [.p k 0 0] [(k, .cells 22 [.dat (.ints .i64 l)])] (itBk l) := by
  have h0 : ISat Try.prog 139 [.p 0 0 0] [(0, .cells 22 [.dat (.ints .i64 l)])] (itBk l) :=
    isat_of_vcI (Ωi := fun l0 => oBkwF l0 l) AllOk.nil mixed Try.func139 (by kernel_rfl) fun l0 => by
      have := bkwI_v l h0 l0
      rw [bkwI_e] at this
      exact this
  exact h0.ren (fun i => k + i) (by intro a b _ _ e; omega) rfl rfl
theorem tmod_nat (a b : Nat) : Int.tmod (a : Int) (b : Int) = ((a % b : Nat) : Int) := (Int.ofNat_tmod a b).symm
theorem itBk_len (l : List Int) : (itBk l).length = l.length := by unfold itBk; rw [List.length_map, List.length_range]
theorem itBk_at {l : List Int} {k : Nat} (h : k < l.length) : (itBk l)[k]? = some [.int .i64 (nthI l k : Nat), .int .i64 (nthS l k)] := by
  unfold itBk
  rw [List.getElem?_map, List.getElem?_range h]
  rfl
theorem x_u64 {g x : Int} (h0 : 0 ≤ x) (h1 : x < (szN g : Int)) (hg : szN g ≤ 4096) : IntKind.wrap IntKind.u64 x = x := wru h0 (by omega)
theorem v_u64 {x : Int} {n : Nat} (h0 : 0 ≤ x) (h1 : x < 2 ^ n) (hn : n ≤ 32) : IntKind.wrap IntKind.u64 x = x := wru h0 (by have := pow_mono hn; simp at this; omega)
end Go.Proofs.Ytbdgknebimdjoaa
/-
  Chapter 12: fse.write has its contract. Conditions: each theorem's own.
-/
namespace Go.Proofs.Ytbdgknebimdjoaa
open Go Go.RowKit
set_option linter.unusedVariables false
set_option linter.unusedSimpArgs false
set_option maxRecDepth 100000
theorem fwrF_v (g : Int) (p l : List Int) (c : Nat) (ha : askE g p l (c : Int) = 0) (hc : c = 1 ∨ c = 2) : fwrF_t g p l c := by
  have hA := ask0 ha
  have hT := hA.T
  have hn := hA.nc
  have hd := dchk0 hA.d
  have hel := hA.len
  have hlit := enc_lit hA.d
  have heG := (enc_good hA.d).1
  have hck := enc_echk hA.d
  have hsz := sz0 hT.g0 hT.g12
  have hlo := hA.lo
  have hhi := hA.hi
  have hpl := hd.n2
  unfold fwrF_t
  simp only [tmod_nat, toNat_cast]
  refine ⟨by omega, (), bkw_isat 600008 l (by omega), (by first | rfl | trivial), trivial, ⟨(by first | rfl | trivial), (by first | rfl | trivial), (by first | rfl | trivial), (by first | rfl | trivial), (by first | rfl | trivial), (by first | rfl | trivial), heG, (by first | rfl | trivial), (by first | rfl | trivial), (by first | rfl | trivial), (by first | rfl | trivial), (by first | rfl | trivial), (by first | rfl | trivial)⟩, fun i hi _ => ?_, fun _ => ⟨⟨0, Nat.zero_le _, ?_⟩, fun m hm => ⟨fun h => ?_, fun h => ?_⟩⟩⟩
  · have hi : i < l.length := by
      have := itBk_len l
      unfold itBk at this
      omega
    have hb := fw_bd (c := c) hT hn i (by omega)
    have hG := fwG_has hc hlo hi
    have hgl := fwG_len l c i
    have hxl := hb.len
    have hm : nthI l i % c < 2 := by
      have := Nat.mod_lt (nthI l i) (show c > 0 by omega)
      omega
    have hs : noC (encL g p) (nthS l i) = false := any_get hn (by unfold nthI; omega)
    refine ⟨itBk_at hi, rfl, by omega, by omega, by omega, by omega, fun h => ?_, fun h => ?_⟩
    · rw [hG] at h
      have hic : i < c := by
        cases hb : Nat.ble c i
        · have : ¬ c ≤ i := fun h2 => by rw [Nat.ble_eq_true_of_le h2] at hb; cases hb
          omega
        · rw [hb] at h; cases h
      have e := fw_first (g := g) (t := encL g p) (l := l) hic
      have eX : (fwX g (encL g p) l c i).set (nthI l i % c) (frI g (encL g p) (nthS l i)) = fwX g (encL g p) l c (i + 1) := by
        rw [fr_ok hck hs]; exact (congrArg Prod.fst e).symm
      have eS : fwS g (encL g p) l c i = fwS g (encL g p) l c (i + 1) := (congrArg (fun r => r.2.1) e).symm
      have eP : fwP g (encL g p) l c i = fwP g (encL g p) l c (i + 1) := (congrArg (fun r => r.2.2.1) e).symm
      have eN : fwN g (encL g p) l c i = fwN g (encL g p) l c (i + 1) := (congrArg (fun r => r.2.2.2) e).symm
      (repeat' (refine And.intro ?_ ?_)) <;> first | assumption | omega | exact True.intro | rfl
    · rw [hG] at h
      have hic : ¬ i < c := by
        cases hb : Nat.ble c i
        · rw [hb] at h; cases h
        · have := Nat.le_of_ble_eq_true hb; omega
      have e := fw_put (g := g) (t := encL g p) (l := l) hic
      have hx0 := hb.x0 (nthI l i % c)
      have hx1 := hb.x1 (nthI l i % c)
      obtain ⟨pS, pB, pV⟩ := pu_ok (s := nthS l i) hck hx0 hx1 hs
      have hp := put_nums (s := nthS l i) hT hx0 hx1 hs hb.n0 hb.n7 hb.p0 hb.p1
      rw [pS, pB, pV, v_u64 hp.v0 hp.v1 (by have := hp.k1; omega)]
      have eX : (fwX g (encL g p) l c i).set (nthI l i % c) (putS g (encL g p) ((fwX g (encL g p) l c i).getD (nthI l i % c) 0) (nthS l i)) = fwX g (encL g p) l c (i + 1) := (congrArg Prod.fst e).symm
      have eS : wS (fwS g (encL g p) l c i) (fwP g (encL g p) l c i) (fwN g (encL g p) l c i) (putN g (encL g p) ((fwX g (encL g p) l c i).getD (nthI l i % c) 0) (nthS l i)) (putV g (encL g p) ((fwX g (encL g p) l c i).getD (nthI l i % c) 0) (nthS l i)) = fwS g (encL g p) l c (i + 1) := (congrArg (fun r => r.2.1) e).symm
      have eP : wP (fwP g (encL g p) l c i) (fwN g (encL g p) l c i) (putN g (encL g p) ((fwX g (encL g p) l c i).getD (nthI l i % c) 0) (nthS l i)) (putV g (encL g p) ((fwX g (encL g p) l c i).getD (nthI l i % c) 0) (nthS l i)) = fwP g (encL g p) l c (i + 1) := (congrArg (fun r => r.2.2.1) e).symm
      have eN : wN (fwN g (encL g p) l c i) (putN g (encL g p) ((fwX g (encL g p) l c i).getD (nthI l i % c) 0) (nthS l i)) = fwN g (encL g p) l c (i + 1) := (congrArg (fun r => r.2.2.2) e).symm
      have eG : fwG l c i = fwG l c (i + 1) := by
        show fwG l c i = (fwG l c i).set (nthI l i % c) true
        have h1 : (fwG l c i)[nthI l i % c]? = some true := by
          rw [Nat.ble_eq_true_of_le (by omega)] at hG
          rw [List.getD_eq_getElem?_getD] at hG
          cases hx : (fwG l c i)[nthI l i % c]? with
          | none => rw [hx] at hG; cases hG
          | some b => rw [hx] at hG; simp only [Option.getD_some] at hG; rw [hG]
        refine List.ext_getElem? fun j => ?_
        rw [List.getElem?_set]
        split
        · rename_i hj
          subst hj
          rw [h1, if_pos (by omega)]
        · rfl
      have hsz2 := hb.size
      obtain ⟨q1, q2, q3, q4, q5, q6, q7, q8⟩ := hp
      (repeat' (refine And.intro ?_ ?_)) <;> first | assumption | omega | exact True.intro | rfl
  · have e := itBk_len l
    unfold itBk at e
    rw [e]
    rw [wr (by omega) (by omega)]
    (repeat' (refine And.intro ?_ ?_)) <;> first | omega | rfl
  · have hb := fw_bd (c := c) hT hn l.length (Nat.le_refl _)
    have hf := ff_bd (c := c) hT hn m
    have hp := ff_num hT hn hf.n0 hf.n7 hf.p0 hf.p1 (c - 1 - m)
    have hxl := hb.len
    simp only [nle] at hm ⊢
    simp only [ge_iff_le, decide_eq_true_eq] at h
    have ej : ((c : Int) - 1 - (m : Int)).toNat = c - 1 - m := by omega
    rw [ej]
    have hp2 := hp
    obtain ⟨q1, q2, q3, q4, q5, q6, q7, q8⟩ := hp2
    rw [v_u64 q7 q8 (by omega)]
    have hsz2 := hf.size
    refine ⟨by omega, by omega, by omega, q1, q2, q3, q4, q5, q6, q7, q8, by omega, m + 1, by omega, by rw [Nat.sub_eq, Nat.sub_eq]; omega, by rw [wr (by omega) (by omega)]; omega, (by first | rfl | trivial), (by first | rfl | trivial), (by first | rfl | trivial), (by first | rfl | trivial), (by first | rfl | trivial), (ff_S _ _ _ _ _).symm, (ff_P _ _ _ _ _).symm, (ff_N _ _ _ _ _).symm, (by first | rfl | trivial)⟩
  · simp only [nle] at hm
    simp only [ge_iff_le, decide_eq_false_iff_not] at h
    have : m = c := by omega
    subst this
    exact ⟨rfl, rfl, rfl⟩
theorem fwrF_sound : Sound Try.prog 76 sFwr.ctr := sFwr.sound (by kernel_rfl) sFwr_enc fun ⟨g, p, l, c⟩ hc => by
  have h0 := hc _ (.head _)
  have h1 := hc _ (.tail _ (.head _))
  rcases h1 with rfl | rfl
  · exact satG GFf_ok mixed Try.func76 (fwrF_e g p l 1) (fwrF_v g p l 1 h0 (.inl rfl))
  · exact satG GFf_ok mixed Try.func76 (fwrF_e g p l 2) (fwrF_v g p l 2 h0 (.inr rfl))
theorem GFg_ok : AllOk Try.prog GFg := .cons covF_sound <| .cons fwrF_sound GFf_ok
theorem askF_v {g : Int} {p l : List Int} {c : Int} (h0 : p.length ≤ 4294967296) (h1 : l.length ≤ 4294967296) : askF_t g p l c := ask_v h0 h1
theorem covE_v {g : Int} {p l : List Int} (h0 : p.length ≤ 4294967296) (h1 : l.length ≤ 4294967296) : covE_t g p l := cov_v h0 h1
theorem askF_sound : Sound Try.prog 75 sAsk.ctr := sAsk.sound (by kernel_rfl) sAsk_enc fun ⟨g, p, l, c⟩ hc => by
  have h0 := hc _ (.head _)
  have h1 := hc _ (.tail _ (.head _))
  exact satG GFg_ok mixed Try.func75 (askF_e g p l c) (askF_v h0 h1)
theorem covE_sound : Sound Try.prog 47 sCovE.ctr := sCovE.sound (by kernel_rfl) sCovE_enc fun ⟨g, p, l⟩ hc => by
  have h0 := hc _ (.head _)
  have h1 := hc _ (.tail _ (.head _))
  exact satG GFg_ok mixed Try.func47 (covE_e g p l) (covE_v h0 h1)
theorem GFh_ok : AllOk Try.prog GFh := .cons askF_sound <| .cons covE_sound GFg_ok
end Go.Proofs.Ytbdgknebimdjoaa
/-
  Chapter 12: the streams and costs of lists. Conditions: each theorem's own.
-/
namespace Go.Proofs.Ytbdgknebimdjoaa
open Go Go.RowKit
set_option linter.unusedVariables false
set_option linter.unusedSimpArgs false
set_option maxRecDepth 100000
theorem wrt_bad {g : Int} {p l : List Int} {c : Nat} (h : (askE g p l (c : Int) != (0 : Int)) = true) : ByteArray.empty = wrtS g p l c := by
  unfold wrtS
  rw [ne0 h]
  rfl
theorem wrt_good {g : Int} {p l : List Int} {c : Nat} (h : askE g p l (c : Int) = 0) : fulS g p l c = wrtS g p l c := by
  unfold wrtS
  rw [beq0 h]
  rfl
theorem wrt1F_v (g : Int) (p l : List Int) (h0 : p.length ≤ 4294967296) (h1 : l.length ≤ 4294967296) : wrt1F_t g p l := by
  unfold wrt1F_t
  refine ⟨h0, h1, fun h => ⟨wrt_bad (c := 1) h, rfl⟩, fun h => ?_⟩
  have ha := eq0 h
  have hA := ask0 (c := 1) ha
  have hf := ff_bd (c := 1) hA.T hA.nc 1
  have hs := hf.size
  have hi := hA.hi
  exact ⟨ha, .inl rfl, hf.n0, hf.n7, hf.p0, hf.p1, by show (ffS g (encL g p) l 1 1).size ≤ 1000000; omega, wrt_good (c := 1) ha, ha.symm⟩
theorem wrt2F_v (g : Int) (p l : List Int) (h0 : p.length ≤ 4294967296) (h1 : l.length ≤ 4294967296) : wrt2F_t g p l := by
  unfold wrt2F_t
  refine ⟨h0, h1, fun h => ⟨wrt_bad (c := 2) h, rfl⟩, fun h => ?_⟩
  have ha := eq0 h
  have hA := ask0 (c := 2) ha
  have hf := ff_bd (c := 2) hA.T hA.nc 2
  have hs := hf.size
  have hi := hA.hi
  exact ⟨ha, .inr rfl, hf.n0, hf.n7, hf.p0, hf.p1, by show (ffS g (encL g p) l 2 2).size ≤ 1000000; omega, wrt_good (c := 2) ha, ha.symm⟩
theorem getD_set0 {l : List Int} (h : 0 < l.length) (x : Int) : (l.set 0 x).getD 0 0 = x := by
  rw [List.getD_eq_getElem?_getD, List.getElem?_set_self h]
  rfl
theorem wS_bits (s : ByteArray) (p n k v : Int) (h0 : 0 ≤ n) (h1 : 0 ≤ k) : 8 * ((wS s p n k v).size : Int) + wN n k = 8 * (s.size : Int) + n + k := by
  obtain ⟨e, _, _⟩ := wM_eq h0 h1
  rw [wS_size]
  push_cast
  omega
/-- one state: a run -/
theorem fw_run {g : Int} {t : List (List Int)} {l : List Int} (hT : TOk g t) (hn : l.any (noC t) = false) : ∀ k, k < l.length → (fwX g t l 1 (k + 1)).getD 0 0 = (runL g t (l.drop (nthI l k))).1 ∧
    8 * ((fwS g t l 1 (k + 1)).size : Int) + fwN g t l 1 (k + 1) = (runL g t (l.drop (nthI l k))).2
  | 0, hk => by
    have e := fw_first (g := g) (t := t) (l := l) (c := 1) (k := 0) (by omega)
    have e1 : nthI l 0 = l.length - 1 := rfl
    have hx := (fw_bd (c := 1) hT hn 0 (by omega)).len
    have eX : fwX g t l 1 (0 + 1) = (fwX g t l 1 0).set (nthI l 0 % 1) ((celT t (nthS l 0)).getD 0 0) := congrArg Prod.fst e
    rw [Nat.mod_one] at eX
    rw [eX, getD_set0 (by omega), e1, run_last (by omega)]
    exact ⟨rfl, rfl⟩
  | k + 1, hk => by
    obtain ⟨i1, i2⟩ := fw_run hT hn k (by omega)
    have e := fw_put (g := g) (t := t) (l := l) (c := 1) (k := k + 1) (by omega)
    have hb := fw_bd (c := 1) hT hn (k + 1) (by omega)
    have hs : noC t (nthS l (k + 1)) = false := any_get hn (by unfold nthI; omega)
    rw [Nat.mod_one] at e
    have hpb := put_bd hT (hb.x0 0) (hb.x1 0) hs
    have eI : nthI l (k + 1) + 1 = nthI l k := by unfold nthI; omega
    have hr := run_step (g := g) (t := t) (l := l) (k := nthI l (k + 1)) (by unfold nthI; omega)
    rw [eI, ← i1] at hr
    have eX : fwX g t l 1 (k + 1 + 1) = (fwX g t l 1 (k + 1)).set 0 (putS g t ((fwX g t l 1 (k + 1)).getD 0 0) (nthS l (k + 1))) := congrArg Prod.fst e
    have eS : fwS g t l 1 (k + 1 + 1) = wS (fwS g t l 1 (k + 1)) (fwP g t l 1 (k + 1)) (fwN g t l 1 (k + 1)) (putN g t ((fwX g t l 1 (k + 1)).getD 0 0) (nthS l (k + 1))) (putV g t ((fwX g t l 1 (k + 1)).getD 0 0) (nthS l (k + 1))) := congrArg (fun r => r.2.1) e
    have eN : fwN g t l 1 (k + 1 + 1) = wN (fwN g t l 1 (k + 1)) (putN g t ((fwX g t l 1 (k + 1)).getD 0 0) (nthS l (k + 1))) := congrArg (fun r => r.2.2.2) e
    rw [eX, getD_set0 (by have := hb.len; omega), hr, eS, eN, wS_bits _ _ _ _ _ hb.n0 hpb.1, i2]
    exact ⟨rfl, rfl⟩
theorem cos_eq {g : Int} {p l : List Int} (ha : askE g p l 1 = 0) : 8 * ((ffS g (encL g p) l 1 1).size : Int) + ffN g (encL g p) l 1 1 = cosN g p l ∧ ruE g (encL g p) l = 0 ∧ cosN g p l = ruN g (encL g p) l + g := by
  have hA := ask0 (c := 1) ha
  have hT := hA.T
  have hlo := hA.lo
  have hck := enc_echk hA.d
  have hr := ru_good hck (by have := hA.hi; omega) (by omega) hA.nc
  have hv := (ru_vals hr).2.1
  obtain ⟨r1, r2⟩ := fw_run hT hA.nc (l.length - 1) (by omega)
  have eI : nthI l (l.length - 1) = 0 := by unfold nthI; omega
  rw [eI, List.drop_zero, show l.length - 1 + 1 = l.length by omega] at r2
  have e3 : cosN g p l = ruN g (encL g p) l + g := by
    unfold cosN
    rw [beq0 ha]
    rfl
  have hb := fw_bd (c := 1) hT hA.nc l.length (Nat.le_refl _)
  refine ⟨?_, hr, e3⟩
  rw [e3, ← hv, ← r2, ff_S, ff_N, wS_bits _ _ _ _ _ (ff_bd hT hA.nc 0).n0 hT.g0]
  rfl
theorem cos_bad {g : Int} {p l : List Int} (h : (askE g p l 1 != (0 : Int)) = true) : 0 = cosN g p l := by
  unfold cosN
  rw [ne0 h]
  rfl
theorem cosF_v (g : Int) (p l : List Int) (h0 : p.length ≤ 4294967296) (h1 : l.length ≤ 4294967296) : cosF_t g p l := by
  unfold cosF_t
  refine ⟨h0, h1, fun h => ⟨cos_bad h, rfl⟩, fun h => ?_⟩
  have ha := eq0 h
  have hA := ask0 (c := 1) ha
  have hf := ff_bd (c := 1) hA.T hA.nc 1
  have hs := hf.size
  have hi := hA.hi
  have hn7 := hf.n7
  have hn0 := hf.n0
  have e := (cos_eq ha).1
  refine ⟨ha, .inl rfl, ?_, ha.symm⟩
  show IntKind.wrap IntKind.i64 (IntKind.wrap IntKind.i64 (8 * ((ffS g (encL g p) l 1 1).size : Int)) + ffN g (encL g p) l 1 1) = _
  rw [show IntKind.wrap IntKind.i64 (8 * ((ffS g (encL g p) l 1 1).size : Int)) = 8 * ((ffS g (encL g p) l 1 1).size : Int) from wr (by omega) (by omega), wr (by omega) (by omega), e]
theorem rcosF_v (g : Int) (p l : List Int) (h0 : p.length ≤ 4294967296) (h1 : l.length ≤ 4294967296) : rcosF_t g p l := by
  unfold rcosF_t
  refine ⟨h0, h1, fun h => ⟨cos_bad h, rfl⟩, fun h => ?_⟩
  have ha := eq0 h
  have hA := ask0 (c := 1) ha
  have hf := ff_bd (c := 1) hA.T hA.nc 1
  have hs := hf.size
  have hi := hA.hi
  have hn7 := hf.n7
  have hn0 := hf.n0
  obtain ⟨e, er, e3⟩ := cos_eq ha
  rw [(enc_good hA.d).1]
  refine ⟨h0, hA.len, enc_lit hA.d, h1, ?_, by rw [er, ha]⟩
  rw [← e3, wr (by omega) (by omega)]
theorem rwrt1F_v (g : Int) (p l : List Int) (h0 : p.length ≤ 4294967296) (h1 : l.length ≤ 4294967296) : rwrt1F_t g p l := by
  unfold rwrt1F_t
  refine ⟨h0, h1, fun h => ⟨wrt_bad (c := 1) h, rfl⟩, fun h => ?_⟩
  have ha := eq0 h
  have hA := ask0 (c := 1) ha
  have hT := hA.T
  have hn := hA.nc
  have hlo := hA.lo
  have hhi := hA.hi
  have hlit := enc_lit hA.d
  have hck := enc_echk hA.d
  have hel := hA.len
  rw [(enc_good hA.d).1]
  rw [show IntKind.wrap IntKind.i64 ((l.length : Int) - 1) = ((nthI l 0 : Nat) : Int) by rw [wr (by omega) (by omega)]; unfold nthI; omega]
  have hI0 : nthI l 0 = l.length - 1 := rfl
  refine ⟨h0, by omega, by omega, hel, hlit, ⟨1, ⟨by omega, by omega, ha⟩, rfl, ?_, by rw [wr (by omega) (by omega)]; omega, rfl, rfl, rfl, rfl, ?_⟩, fun k ⟨hk1, hk2, _⟩ => ⟨fun h => ?_, fun h => ?_⟩⟩
  · have e := fw_first (g := g) (t := encL g p) (l := l) (c := 1) (k := 0) (by omega)
    have hx := (fw_bd (c := 1) hT hn 0 (by omega)).len
    have eX : fwX g (encL g p) l 1 1 = (fwX g (encL g p) l 1 0).set (nthI l 0 % 1) ((celT (encL g p) (nthS l 0)).getD 0 0) := congrArg Prod.fst e
    rw [Nat.mod_one] at eX
    rw [toNat_cast, eX, getD_set0 (by omega)]
    exact fr_ok hck (any_get hn (by unfold nthI; omega))
  · exact ⟨rfl, rfl, rfl⟩
  · have hk : k < l.length := by simp only [ge_iff_le, decide_eq_true_eq] at h; omega
    rw [show (l.length : Int) - 1 - (k : Int) = ((nthI l k : Nat) : Int) by unfold nthI; omega, toNat_cast]
    have hb := fw_bd (c := 1) hT hn k (by omega)
    have hs : noC (encL g p) (l.getD (nthI l k) 0) = false := any_get hn (by unfold nthI; omega)
    obtain ⟨pS, pB, pV⟩ := pu_ok hck (hb.x0 0) (hb.x1 0) hs
    have hp := put_nums hT (hb.x0 0) (hb.x1 0) hs hb.n0 hb.n7 hb.p0 hb.p1
    rw [pS, pB, pV, v_u64 hp.v0 hp.v1 (by have := hp.k1; omega)]
    have e := fw_put (g := g) (t := encL g p) (l := l) (c := 1) (k := k) (by omega)
    rw [Nat.mod_one] at e
    have eX : fwX g (encL g p) l 1 (k + 1) = (fwX g (encL g p) l 1 k).set 0 (putS g (encL g p) ((fwX g (encL g p) l 1 k).getD 0 0) (nthS l k)) := congrArg Prod.fst e
    have hsz := hb.size
    obtain ⟨q1, q2, q3, q4, q5, q6, q7, q8⟩ := hp
    have hI : nthI l k = l.length - 1 - k := rfl
    refine ⟨by omega, by omega, hel, hlit, q1, q2, q3, q4, q5, q6, q7, q8, by omega, k + 1, ⟨by omega, by omega, ha⟩, by rw [Nat.sub_eq, Nat.sub_eq]; omega, rfl, ?_, by rw [wr (by omega) (by omega)]; omega, rfl, rfl, rfl, rfl, (congrArg (fun r => r.2.1) e).symm, (congrArg (fun r => r.2.2.1) e).symm, (congrArg (fun r => r.2.2.2) e).symm⟩
    rw [eX, getD_set0 (by have := hb.len; omega)]
    rfl
  · have hk : k = l.length := by simp only [ge_iff_le, decide_eq_false_iff_not] at h; omega
    subst hk
    have hf := ff_bd (c := 1) hT hn 0
    have hf1 := ff_bd (c := 1) hT hn 1
    have hp := ff_num hT hn hf.n0 hf.n7 hf.p0 hf.p1 0
    have hs0 := hf.size
    have hs1 := hf1.size
    obtain ⟨q1, q2, q3, q4, q5, q6, q7, q8⟩ := hp
    rw [v_u64 q7 q8 (by omega)]
    exact ⟨q1, q2, q3, q4, q5, q6, q7, q8, by show (ffS g (encL g p) l 1 0).size ≤ 1000000; omega, hf1.n0, hf1.n7, hf1.p0, hf1.p1, by show (ffS g (encL g p) l 1 1).size ≤ 1000000; omega, wrt_good (c := 1) ha, ha.symm⟩
theorem tmod2 (a : Nat) : Int.tmod (a : Int) 2 = ((a % 2 : Nat) : Int) := tmod_nat a 2
theorem rwrt2F_v (g : Int) (p l : List Int) (h0 : p.length ≤ 4294967296) (h1 : l.length ≤ 4294967296) : rwrt2F_t g p l := by
  unfold rwrt2F_t
  refine ⟨h0, h1, fun h => ⟨wrt_bad (c := 2) h, rfl⟩, fun h => ?_⟩
  have ha := eq0 h
  have hA := ask0 (c := 2) ha
  have hT := hA.T
  have hn := hA.nc
  have hlo := hA.lo
  have hhi := hA.hi
  have hlit := enc_lit hA.d
  have hck := enc_echk hA.d
  have hel := hA.len
  rw [(enc_good hA.d).1]
  rw [show IntKind.wrap IntKind.i64 ((l.length : Int) - 1) = ((nthI l 0 : Nat) : Int) by rw [wr (by omega) (by omega)]; unfold nthI; omega]
  rw [show IntKind.wrap IntKind.i64 ((l.length : Int) - 2) = ((nthI l 1 : Nat) : Int) by rw [wr (by omega) (by omega)]; unfold nthI; omega]
  simp only [tmod2, toNat_cast]
  have hI0 : nthI l 0 = l.length - 1 := rfl
  have hI1 : nthI l 1 = l.length - 1 - 1 := rfl
  have hs0 : noC (encL g p) (l.getD (nthI l 0) 0) = false := any_get hn (by omega)
  have hs1 : noC (encL g p) (l.getD (nthI l 1) 0) = false := any_get hn (by omega)
  rw [fr_ok hck hs0, fr_ok hck hs1]
  have m0 := Nat.mod_lt (nthI l 0) (show 2 > 0 by omega)
  have m1 := Nat.mod_lt (nthI l 1) (show 2 > 0 by omega)
  refine ⟨h0, by omega, by omega, by omega, hel, hlit, by omega, by omega, m0, by omega, by omega, by omega, hel, hlit, by omega, by omega, by rw [List.length_set, List.length_replicate]; exact m1, ⟨2, ⟨by omega, by omega, ha⟩, (by first | rfl | trivial), by rw [wr (by omega) (by omega)]; omega, (by first | rfl | trivial), (by first | rfl | trivial), (by first | rfl | trivial), (by first | rfl | trivial), (by first | rfl | trivial), (by first | rfl | trivial), (by first | rfl | trivial), (by first | rfl | trivial)⟩, fun k ⟨hk1, hk2, _⟩ => ⟨fun h => ?_, fun h => ?_⟩⟩
  · have hk : k < l.length := by simp only [ge_iff_le, decide_eq_true_eq] at h; omega
    rw [show (l.length : Int) - 1 - (k : Int) = ((nthI l k : Nat) : Int) by unfold nthI; omega]
    simp only [tmod2, toNat_cast]
    have hb := fw_bd (c := 2) hT hn k (by omega)
    have hs : noC (encL g p) (l.getD (nthI l k) 0) = false := any_get hn (by unfold nthI; omega)
    have hx0 := hb.x0 (nthI l k % 2)
    have hx1 := hb.x1 (nthI l k % 2)
    obtain ⟨pS, pB, pV⟩ := pu_ok hck hx0 hx1 hs
    have hp := put_nums hT hx0 hx1 hs hb.n0 hb.n7 hb.p0 hb.p1
    rw [pS, pB, pV, v_u64 hp.v0 hp.v1 (by have := hp.k1; omega)]
    have e := fw_put (g := g) (t := encL g p) (l := l) (c := 2) (k := k) (by omega)
    have hsz := hb.size
    have hxl := hb.len
    have mk := Nat.mod_lt (nthI l k) (show 2 > 0 by omega)
    obtain ⟨q1, q2, q3, q4, q5, q6, q7, q8⟩ := hp
    have hI : nthI l k = l.length - 1 - k := rfl
    refine ⟨by omega, by omega, by omega, by omega, by omega, by omega, hel, hlit, q1, q2, q3, q4, q5, q6, q7, q8, by omega, by omega, by omega, by omega, by omega, k + 1, ⟨by omega, by omega, ha⟩, by rw [Nat.sub_eq, Nat.sub_eq]; omega, (by first | rfl | trivial), by rw [wr (by omega) (by omega)]; omega, (by first | rfl | trivial), (by first | rfl | trivial), (by first | rfl | trivial), (by first | rfl | trivial), (congrArg Prod.fst e).symm, (congrArg (fun r => r.2.1) e).symm, (congrArg (fun r => r.2.2.1) e).symm, (congrArg (fun r => r.2.2.2) e).symm⟩
  · have hk : k = l.length := by simp only [ge_iff_le, decide_eq_false_iff_not] at h; omega
    subst hk
    rw [show Int.toNat (1 : Int) = 1 from rfl, show Int.toNat (0 : Int) = 0 from rfl]
    have hb := fw_bd (c := 2) hT hn l.length (Nat.le_refl _)
    have hf := ff_bd (c := 2) hT hn 0
    have hf1 := ff_bd (c := 2) hT hn 1
    have hf2 := ff_bd (c := 2) hT hn 2
    have hp := ff_num hT hn hf.n0 hf.n7 hf.p0 hf.p1 1
    have hq := ff_num hT hn hf1.n0 hf1.n7 hf1.p0 hf1.p1 0
    have hs0 := hf.size
    have hs1 := hf1.size
    have hxl := hb.len
    obtain ⟨q1, q2, q3, q4, q5, q6, q7, q8⟩ := hp
    obtain ⟨u1, u2, u3, u4, u5, u6, u7, u8⟩ := hq
    rw [v_u64 q7 q8 (by omega), v_u64 u7 u8 (by omega)]
    have hs2 := hf2.size
    exact ⟨by omega, by omega, by omega, q1, q2, q3, q4, q5, q6, q7, q8, by show (ffS g (encL g p) l 2 0).size ≤ 1000000; omega, by omega, by omega, by omega, u1, u2, u3, u4, u5, u6, u7, u8, by show (ffS g (encL g p) l 2 1).size ≤ 1000000; omega, hf2.n0, hf2.n7, hf2.p0, hf2.p1, by show (ffS g (encL g p) l 2 2).size ≤ 1000000; omega, wrt_good (c := 2) ha, ha.symm⟩
theorem wrt1F_sound : Sound Try.prog 40 sWrt1.ctr := sWrt1.sound (by kernel_rfl) sWrt1_enc fun ⟨g, p, l⟩ hc => by
  have h0 := hc _ (.head _)
  have h1 := hc _ (.tail _ (.head _))
  exact satG GFh_ok mixed Try.func40 (wrt1F_e g p l) (wrt1F_v g p l h0 h1)
theorem wrt2F_sound : Sound Try.prog 44 sWrt2.ctr := sWrt2.sound (by kernel_rfl) sWrt2_enc fun ⟨g, p, l⟩ hc => by
  have h0 := hc _ (.head _)
  have h1 := hc _ (.tail _ (.head _))
  exact satG GFh_ok mixed Try.func44 (wrt2F_e g p l) (wrt2F_v g p l h0 h1)
theorem cosF_sound : Sound Try.prog 37 sCos.ctr := sCos.sound (by kernel_rfl) sCos_enc fun ⟨g, p, l⟩ hc => by
  have h0 := hc _ (.head _)
  have h1 := hc _ (.tail _ (.head _))
  exact satG GFh_ok mixed Try.func37 (cosF_e g p l) (cosF_v g p l h0 h1)
theorem rwrt1F_sound : Sound Try.prog 43 sWrt1.ctr := sWrt1.sound (by kernel_rfl) sWrt1_enc fun ⟨g, p, l⟩ hc => by
  have h0 := hc _ (.head _)
  have h1 := hc _ (.tail _ (.head _))
  exact satG GFe_ok mixed Try.func43 (rwrt1F_e g p l) (rwrt1F_v g p l h0 h1)
theorem rwrt2F_sound : Sound Try.prog 45 sWrt2.ctr := sWrt2.sound (by kernel_rfl) sWrt2_enc fun ⟨g, p, l⟩ hc => by
  have h0 := hc _ (.head _)
  have h1 := hc _ (.tail _ (.head _))
  exact satG GFe_ok mixed Try.func45 (rwrt2F_e g p l) (rwrt2F_v g p l h0 h1)
theorem rcosF_sound : Sound Try.prog 46 sCos.ctr := sCos.sound (by kernel_rfl) sCos_enc fun ⟨g, p, l⟩ hc => by
  have h0 := hc _ (.head _)
  have h1 := hc _ (.tail _ (.head _))
  exact satG GFe_ok mixed Try.func46 (rcosF_e g p l) (rcosF_v g p l h0 h1)
def GFi : List (Nat × Ctr) := (40, sWrt1.ctr) :: (44, sWrt2.ctr) :: (37, sCos.ctr) :: (43, sWrt1.ctr) :: (45, sWrt2.ctr) :: (46, sCos.ctr) :: GFh
theorem GFi_ok : AllOk Try.prog GFi := .cons wrt1F_sound <| .cons wrt2F_sound <| .cons cosF_sound <| .cons rwrt1F_sound <| .cons rwrt2F_sound <| .cons rcosF_sound GFh_ok
end Go.Proofs.Ytbdgknebimdjoaa
/-
  Chapter 12: the law of streams that are written: contracts. Conditions: none (definitions).
-/
namespace Go.Proofs.Ytbdgknebimdjoaa
open Go Go.RowKit
set_option linter.unusedVariables false
set_option linter.unusedSimpArgs false
set_option maxRecDepth 100000
def sEven : Spec where
  ι := Unit
  dec l H := match l with
    | [] => some ((), [])
    | _ => none
  args := fun _ => []
  out := fun _ => .leaf (.ag [.v (.int .i64 5), .dat (.ints .i64 [16, 16])]) []
theorem sEven_enc : ∀ l H n i ls, sEven.dec l H = some (i, ls) → l = renL (rho ls n) (sEven.args i) ∧ givenHp H ls = renH (rho ls n) (sEven.hp i) := by
  intro l H n i ls h
  simp only [sEven] at h
  repeat' split at h
  all_goals first
    | (cases h; done)
    | (cases h; exact ⟨rfl, rfl⟩)
def sFour : Spec where
  ι := Unit
  dec l H := match l with
    | [] => some ((), [])
    | _ => none
  args := fun _ => []
  out := fun _ => .leaf (.dat (.ints .i64 [0, 1, 1, 0])) []
theorem sFour_enc : ∀ l H n i ls, sFour.dec l H = some (i, ls) → l = renL (rho ls n) (sFour.args i) ∧ givenHp H ls = renH (rho ls n) (sFour.hp i) := by
  intro l H n i ls h
  simp only [sFour] at h
  repeat' split at h
  all_goals first
    | (cases h; done)
    | (cases h; exact ⟨rfl, rfl⟩)
def sLiD : Spec where
  ι := Int × List Int
  dec l H := match l with
    | [.ag [.v (.int .i64 g), .dat (.ints .i64 p)]] => some ((g, p), [])
    | _ => none
  args := fun (g, p) => [.ag [.v (.int .i64 g), .dat (.ints .i64 p)]]
  out := fun (g, p) => .leaf (.v (.bool (liD g p))) []
theorem sLiD_enc : ∀ l H n i ls, sLiD.dec l H = some (i, ls) → l = renL (rho ls n) (sLiD.args i) ∧ givenHp H ls = renH (rho ls n) (sLiD.hp i) := by
  intro l H n i ls h
  simp only [sLiD] at h
  repeat' split at h
  all_goals first
    | (cases h; done)
    | (cases h; exact ⟨rfl, rfl⟩)
def GFj : List (Nat × Ctr) := (57, sEven.ctr) :: (58, sFour.ctr) :: (41, sLiD.ctr) :: GFi
def GFk : List (Nat × Ctr) := (39, sAwake.ctr) :: GFj
/-! ### conditions
--%VC evenF ;;  ;; [] ;; fun _ => none ;; law12.even ;; [] ;; [] ;; (.ag [.v (.int .i64 5), .dat (.ints .i64 [16, 16])]) ;; []
--%VC fourF ;;  ;; [] ;; fun _ => none ;; law12.four ;; [] ;; [] ;; (.dat (.ints .i64 [0, 1, 1, 0])) ;; []
--%VC liDF ;; (g : Int) (p : List Int) ;; [] ;; fun _ => none ;; law12.light ;; [.ag [.v (.int .i64 g), .dat (.ints .i64 p)]] ;; [] ;; (.v (.bool (liD g p))) ;; []
--%VC awkF ;;  ;; GFj ;; fun _ => none ;; law12.awake ;; [] ;; [] ;; (.v (.bool true)) ;; []
--%VC lwWr ;; (g : Int) (p l : List Int) ;; GFk ;; fun _ => none ;; law12.FseWrites ;; [.ag [.v (.int .i64 g), .dat (.ints .i64 p)], .dat (.ints .i64 l)] ;; [] ;; (.v (.bool true)) ;; []
-/
end Go.Proofs.Ytbdgknebimdjoaa
/-
  The conditions of the functions told in the text before, and that they are the executor's. Conditions: none.
-/
namespace Go.Proofs.Ytbdgknebimdjoaa
open Go Go.RowKit
set_option linter.unusedVariables false
set_option maxRecDepth 100000
def evenF_t  : Prop :=
 (5 : Int) = (5 : Int) ∧ [(16 : Int), (16 : Int)] = [(16 : Int), (16 : Int)]
--end
theorem evenF_e  : evenF_t  = vcG Try.prog (Gof []) (fun _ => none) Try.f57 [] [] (.leaf ((.ag [.v (.int .i64 5), .dat (.ints .i64 [16, 16])])) ([])) := by kernel_rfl
def fourF_t  : Prop :=
 [(0 : Int), (1 : Int), (1 : Int), (0 : Int)] = [(0 : Int), (1 : Int), (1 : Int), (0 : Int)]
--end
theorem fourF_e  : fourF_t  = vcG Try.prog (Gof []) (fun _ => none) Try.f58 [] [] (.leaf ((.dat (.ints .i64 [0, 1, 1, 0]))) ([])) := by kernel_rfl
def liDF_t (g : Int) (p : List Int) : Prop :=
 (decide ((↑(List.length p) : Int) ≤ (60 : Int)) = true → (decide (g ≤ (9 : Int)) = true → true = liD g p) ∧ (decide (g ≤ (9 : Int)) = false → decide (g > (12 : Int)) = liD g p)) ∧
 (decide ((↑(List.length p) : Int) ≤ (60 : Int)) = false → false = liD g p)
--end
theorem liDF_e (g : Int) (p : List Int) : liDF_t g p = vcG Try.prog (Gof []) (fun _ => none) Try.f41 [.ag [.v (.int .i64 g), .dat (.ints .i64 p)]] [] (.leaf ((.v (.bool (liD g p)))) ([])) := by kernel_rfl
def awkF_t  : Prop :=
 List.length [(16 : Int), (16 : Int)] ≤ (4294967296 : Nat) ∧
 List.length [(0 : Int), (1 : Int), (1 : Int), (0 : Int)] ≤ (4294967296 : Nat) ∧
 ((cosN (5 : Int) [(16 : Int), (16 : Int)] [(0 : Int), (1 : Int), (1 : Int), (0 : Int)] == (8 : Int)) = true →
 (askE (5 : Int) [(16 : Int), (16 : Int)] [(0 : Int), (1 : Int), (1 : Int), (0 : Int)] (1 : Int) == (0 : Int)) = true) ∧
 ((cosN (5 : Int) [(16 : Int), (16 : Int)] [(0 : Int), (1 : Int), (1 : Int), (0 : Int)] == (8 : Int)) = false → false = true)
--end
theorem awkF_e  : awkF_t  = vcG Try.prog (Gof GFj) (fun _ => none) Try.f39 [] [] (.leaf ((.v (.bool true))) ([])) := by kernel_rfl
def lwWr_t (g : Int) (p l : List Int) : Prop :=
 ((!liD g p) = true → true = true) ∧
 ((!liD g p) = false →
 (decide ((↑(List.length l) : Int) > (200 : Int)) = true → true = true) ∧
 (decide ((↑(List.length l) : Int) > (200 : Int)) = false →
 List.length l ≤ (4294967296 : Nat) ∧
 List.length p ≤ (4294967296 : Nat) ∧
 List.length l ≤ (4294967296 : Nat) ∧
 List.length p ≤ (4294967296 : Nat) ∧
 List.length l ≤ (4294967296 : Nat) ∧
 ((!ByteArray.toList (wrtS g p l (1 : Nat)) == ByteArray.toList (wrtS g p l (1 : Nat))) = true → false = true) ∧
 ((!ByteArray.toList (wrtS g p l (1 : Nat)) == ByteArray.toList (wrtS g p l (1 : Nat))) = false →
 ((askE g p l (1 : Int) != askE g p l (1 : Int)) = true → false = true) ∧
 ((askE g p l (1 : Int) != askE g p l (1 : Int)) = false →
 List.length p ≤ (4294967296 : Nat) ∧
 List.length l ≤ (4294967296 : Nat) ∧
 List.length p ≤ (4294967296 : Nat) ∧
 List.length l ≤ (4294967296 : Nat) ∧
 ((!ByteArray.toList (wrtS g p l (2 : Nat)) == ByteArray.toList (wrtS g p l (2 : Nat))) = true → false = true) ∧
 ((!ByteArray.toList (wrtS g p l (2 : Nat)) == ByteArray.toList (wrtS g p l (2 : Nat))) = false →
 ((askE g p l (2 : Int) != askE g p l (2 : Int)) = true → false = true) ∧
 ((askE g p l (2 : Int) != askE g p l (2 : Int)) = false →
 List.length p ≤ (4294967296 : Nat) ∧
 List.length l ≤ (4294967296 : Nat) ∧
 List.length p ≤ (4294967296 : Nat) ∧
 List.length l ≤ (4294967296 : Nat) ∧
 List.length p ≤ (4294967296 : Nat) ∧
 List.length l ≤ (4294967296 : Nat) ∧
 List.length p ≤ (4294967296 : Nat) ∧
 List.length l ≤ (4294967296 : Nat) ∧
 ((cosN g p l == cosN g p l) = true →
 ((askE g p l (1 : Int) == askE g p l (1 : Int)) = true →
 ((covB g p l == covB g p l) = true →
 ((dchk g p == dchk g p) = true →
 List.length l ≤ (4294967296 : Nat) ∧ (eqI l l = true → true = true) ∧ (eqI l l = false → false = true)) ∧
 ((dchk g p == dchk g p) = false → false = true)) ∧
 ((covB g p l == covB g p l) = false → false = true)) ∧
 ((askE g p l (1 : Int) == askE g p l (1 : Int)) = false → false = true)) ∧
 ((cosN g p l == cosN g p l) = false → false = true)))))))
--end
theorem lwWr_e (g : Int) (p l : List Int) : lwWr_t g p l = vcG Try.prog (Gof GFk) (fun _ => none) Try.f7 [.ag [.v (.int .i64 g), .dat (.ints .i64 p)], .dat (.ints .i64 l)] [] (.leaf ((.v (.bool true))) ([])) := by kernel_rfl
end Go.Proofs.Ytbdgknebimdjoaa
/-
  Chapter 11: the laws that need no reader hold. Conditions: each theorem's own.
-/
namespace Go.Proofs.Ytbdgknebimdjoaa
open Go Go.RowKit
set_option linter.unusedVariables false
set_option linter.unusedSimpArgs false
set_option maxRecDepth 100000
theorem sameL_refl (a : List (List Int)) : sameL a a = true := by unfold sameL; simp
theorem eqI_refl (l : List Int) : eqI l l = true := by unfold eqI; simp
theorem flat_le {t : List (List Int)} {B : Nat} : (∀ r ∈ t, r.length ≤ B) → t.flatten.length ≤ t.length * B := by
  induction t with
  | nil => intro _; simp
  | cons r t ih =>
    intro h
    have h1 := h r (by simp)
    have h2 := ih fun r hr => h r (by simp [hr])
    simp only [List.flatten_cons, List.length_append, List.length_cons]
    rw [Nat.add_mul]
    omega
theorem one_bdd (s : Int) : (oneL s).length ≤ 256 ∧ (oneL s).flatten.length ≤ 256 := by
  by_cases h : s < 0 ∨ 255 < s
  · rw [(one_bad h).1]; simp
  · have e := (one_good (s := s) (by omega) (by omega)).1
    have hl : (oneL s).length ≤ 256 := by rw [e]; simp; omega
    refine ⟨hl, ?_⟩
    have := flat_le (t := oneL s) (B := 1) fun r hr => by
      rw [e] at hr
      rcases List.mem_or_eq_of_mem_set hr with h | h
      · rw [List.mem_replicate] at h; rw [h.2]; simp
      · rw [h]; simp
    omega
theorem enc_bdd (g : Int) (l : List Int) (h : l.length ≤ 300) : (encL g l).length ≤ 4294967296 ∧ (encL g l).flatten.length ≤ 4294967296 := by
  by_cases hd : dchk g l = 0
  · have hD := dchk0 hd
    have hs := szN_bd hD.g5 hD.g12
    have hl : (encL g l).length = l.length := by rw [(enc_good hd).2, ← states_all, states_len]
    refine ⟨by omega, ?_⟩
    have := flat_le (t := encL g l) (B := 4096) fun r hr => by
      rw [(enc_good hd).2] at hr
      unfold statesL at hr
      obtain ⟨k, _, rfl⟩ := List.mem_map.1 hr
      have := cellsP_le (spr g l) (k : Int) (spr g l).length
      rw [cellsP_all, spr_len] at this
      omega
    omega
  · have := (enc_bad (g := g) (l := l) (by simpa using hd)).2
    rw [this]
    simp
theorem lwMk_v (g : Int) (l : List Int) (s : Int) : lwMk_t g l s := by
  unfold lwMk_t
  refine ⟨fun _ => rfl, fun h => ?_⟩
  have h : l.length ≤ 300 := by simp only [gt_iff_lt, decide_eq_false_iff_not] at h; omega
  have hb := enc_bdd g l h
  have ho := one_bdd s
  have o1 : (oneL s).length ≤ 4294967296 := by omega
  have o2 : (oneL s).flatten.length ≤ 4294967296 := by omega
  have hl : l.length ≤ 4294967296 := by omega
  simp only [hb.1, hb.2, o1, o2, hl, sameL_refl, bne_self_eq_false, beq_self_eq_true, Bool.and_self, Bool.not_true, true_and, and_true, implies_true, Bool.false_eq_true, Bool.true_eq_false, false_implies, true_implies]
set_option synthInstance.maxSize 10000 in
set_option synthInstance.maxHeartbeats 400000 in
theorem lwKn_v : lwKn_t := by
  unfold lwKn_t
  decide +kernel
theorem litT_L {g : Int} {t : List (List Int)} (h : litL g t = true) : litT g t = true := by
  unfold litL at h
  simp only [Bool.and_eq_true, decide_eq_true_eq] at h
  have : (flatP t 301).length = t.flatten.length := by
    unfold flatP
    rw [List.take_of_length_le (by omega)]
  unfold litT
  rw [decide_eq_true (by omega), Bool.or_true]
theorem ce_len (g : Int) (t : List (List Int)) : (ceO g t).length ≤ 4294967296 := by
  by_cases h : echk g t = 0
  · have hT := echk0 h
    rw [ce_good h, markP_len]
    have := sz0 hT.g0 hT.g12
    omega
  · rw [ce_bad (by simpa using h)]
    simp
theorem lwSt_v (g : Int) (t : List (List Int)) (x s : Int) (l : List Int) (h0' : t.length ≤ 17592186044416) (h1 : rowsOk t = true) : lwSt_t g t x s l := by
  unfold lwSt_t
  refine ⟨h0', h1, fun _ => rfl, fun h => ?_⟩
  have hL : litL g t = true := by simpa using h
  have h2 : litT g t = true := litT_L hL
  have h0 : t.length ≤ 4294967296 := by
    unfold litL at hL
    simp only [Bool.and_eq_true, decide_eq_true_eq] at hL
    omega
  have hc := ce_len g t
  refine ⟨fun _ => ⟨fun _ => rfl, fun _ => ⟨fun _ => rfl, fun hl => ?_⟩⟩, fun _ => ⟨fun _ => rfl, fun hl => ?_⟩⟩
  all_goals
    have hl : l.length ≤ 4294967296 := by simp only [gt_iff_lt, decide_eq_false_iff_not] at hl; omega
    simp only [h0, h2, hc, hl, eqI_refl, bne_self_eq_false, beq_self_eq_true, Bool.and_self, Bool.not_true, true_and, and_true, implies_true, Bool.false_eq_true, Bool.true_eq_false, false_implies, true_implies]
theorem eknown_any (W : World) : Calls Try.prog 4 #[] W fun e w' => e = .returned (.bool true) ∧ Below W.heap.size W w' :=
  law_true (us := []) (satG GEk_ok mixed Try.func4 lwKn_e lwKn_v) (.inr rfl) (by simp only [Reps])
theorem emakes_any (g : Int) (A : Option Addr) (n cap : Nat) (zs : List Int) (s : Int) (W : World) (hg : InR g) (hI : IntsIn W A n cap zs) (hs : InR s) :
    Calls Try.prog 3 #[.agg #[.int .i64 g, .slice A n cap], .int .i64 s] W fun e w' => e = .returned (.bool true) ∧ Below W.heap.size W w' := by
  refine law_true (us := [.agg #[.int .i64 g, .slice A n cap], .int .i64 s]) (satG GEk_ok mixed Try.func3 (lwMk_e g (zs.take n) s) (lwMk_v g _ s)) (.inr rfl) ?_
  simp only [Reps]
  exact ⟨_, _, rfl, ⟨[_, _], rfl, _, _, rfl, rfl, _, _, rfl, dat_ints hI, rfl⟩, _, _, rfl, rfl, rfl⟩
theorem esteps_any (g : Int) (A : Option Addr) (n cap : Nat) (xss : List (List Int)) (x s : Int) (A2 : Option Addr) (n2 cap2 : Nat) (zs : List Int) (W : World) (hg : InR g) (hL : ListsIn W A n cap xss) (hx : InR x) (hs : InR s) (hI : IntsIn W A2 n2 cap2 zs) :
    Calls Try.prog 5 #[.agg #[.int .i64 g, .slice A n cap], .int .i64 x, .int .i64 s, .slice A2 n2 cap2] W fun e w' => e = .returned (.bool true) ∧ Below W.heap.size W w' := by
  have hr : rowsOk xss = true := List.all_eq_true.2 fun r hr => decide_eq_true (hL.rows r hr)
  have hn : xss.length ≤ 17592186044416 := by rw [hL.len]; exact hL.big
  refine law_true (us := [.agg #[.int .i64 g, .slice A n cap], .int .i64 x, .int .i64 s, .slice A2 n2 cap2]) (satG GEk_ok mixed Try.func5 (lwSt_e g xss x s (zs.take n2)) (lwSt_v g _ x s _ hn hr)) (.inr rfl) ?_
  simp only [Reps]
  exact ⟨_, _, rfl, ⟨[_, _], rfl, _, _, rfl, rfl, _, _, rfl, dat_lists hL, rfl⟩, _, _, rfl, rfl, _, _, rfl, rfl, _, _, rfl, dat_ints hI, rfl⟩
end Go.Proofs.Ytbdgknebimdjoaa
/-
  Chapter 12: the law of streams that are written holds. Conditions: each theorem's own.
-/
namespace Go.Proofs.Ytbdgknebimdjoaa
open Go Go.RowKit
set_option linter.unusedVariables false
set_option linter.unusedSimpArgs false
set_option maxRecDepth 100000
theorem evenF_v : evenF_t := ⟨rfl, rfl⟩
theorem fourF_v : fourF_t := rfl
theorem liDF_v (g : Int) (p : List Int) : liDF_t g p := by
  unfold liDF_t liD
  have e1 : decide ((p.length : Int) ≤ (60 : Int)) = decide (p.length ≤ 60) := decide_eq_decide.2 (by omega)
  have e3 : decide (g > (12 : Int)) = decide (12 < g) := rfl
  rw [e1, e3]
  cases decide (p.length ≤ 60) <;> cases decide (g ≤ 9) <;> cases decide (12 < g) <;> simp
set_option synthInstance.maxSize 10000 in
set_option synthInstance.maxHeartbeats 400000 in
theorem awkF_v : awkF_t := by
  unfold awkF_t
  decide +kernel
theorem evenF_sound : Sound Try.prog 57 sEven.ctr := sEven.sound (by kernel_rfl) sEven_enc fun _ hc => by
  exact satG AllOk.nil mixed Try.func57 (evenF_e ) (evenF_v)
theorem fourF_sound : Sound Try.prog 58 sFour.ctr := sFour.sound (by kernel_rfl) sFour_enc fun _ hc => by
  exact satG AllOk.nil mixed Try.func58 (fourF_e ) (fourF_v)
theorem liDF_sound : Sound Try.prog 41 sLiD.ctr := sLiD.sound (by kernel_rfl) sLiD_enc fun ⟨g, p⟩ hc => by
  exact satG AllOk.nil mixed Try.func41 (liDF_e g p) (liDF_v g p)
theorem GFj_ok : AllOk Try.prog GFj := .cons evenF_sound <| .cons fourF_sound <| .cons liDF_sound GFi_ok
theorem awkF_sound : Sound Try.prog 39 sAwake.ctr := sAwake.sound (by kernel_rfl) sAwake_enc fun _ hc => by
  exact satG GFj_ok mixed Try.func39 (awkF_e ) (awkF_v)
theorem GFk_ok : AllOk Try.prog GFk := .cons awkF_sound GFj_ok
theorem lwWr_v (g : Int) (p l : List Int) : lwWr_t g p l := by
  unfold lwWr_t
  refine ⟨fun _ => rfl, fun h => ⟨fun _ => rfl, fun hl => ?_⟩⟩
  have hp : p.length ≤ 4294967296 := by
    simp only [liD, Bool.not_eq_false', Bool.and_eq_true, decide_eq_true_eq] at h
    omega
  have hl : l.length ≤ 4294967296 := by simp only [gt_iff_lt, decide_eq_false_iff_not] at hl; omega
  simp only [hp, hl, eqI_refl, bne_self_eq_false, beq_self_eq_true, Bool.and_self, Bool.not_true, true_and, and_true, implies_true, Bool.false_eq_true, Bool.true_eq_false, false_implies, true_implies]
theorem fwrites_any (g : Int) (A : Option Addr) (n cap : Nat) (zs : List Int) (A2 : Option Addr) (n2 cap2 : Nat) (ys : List Int) (W : World) (hg : InR g) (hI : IntsIn W A n cap zs) (hI2 : IntsIn W A2 n2 cap2 ys) :
    Calls Try.prog 7 #[.agg #[.int .i64 g, .slice A n cap], .slice A2 n2 cap2] W fun e w' => e = .returned (.bool true) ∧ Below W.heap.size W w' := by
  refine law_true (us := [.agg #[.int .i64 g, .slice A n cap], .slice A2 n2 cap2]) (satG GFk_ok mixed Try.func7 (lwWr_e g (zs.take n) (ys.take n2)) (lwWr_v g _ _)) (.inr rfl) ?_
  simp only [Reps]
  exact ⟨_, _, rfl, ⟨[_, _], rfl, _, _, rfl, rfl, _, _, rfl, dat_ints hI, rfl⟩, _, _, rfl, dat_ints hI2, rfl⟩
end Go.Proofs.Ytbdgknebimdjoaa
/-
  Chapter 8: kit.Dist's numbers. Conditions: none (definitions).
-/
namespace Go.Proofs.Ytbdgknebimdjoaa
open Go Go.RowKit
def stepV (x left : Int) : Int := cond (modI x 1048576 % 4 == 0) (-1) (cond (modI x 1048576 % 4 == 1) 0 (1 + modI x 1048576 / 4 % min left 40))
/-- kit.Dist's numbers -/
def kdL : List Int → Int → List Int → List Int × Int
  | [], left, out => (out, left)
  | x :: r, left, out => cond (decide (1 < left)) (cond (decide (left ≤ stepV x left)) (out, left) (kdL r (left - cond (decide (stepV x left < 0)) 1 (stepV x left)) (out ++ [stepV x left]))) (out, left)
def kdG (l : List Int) : Int := 5 + modI (atI l 0) 4
def kdF (l : List Int) : List Int × Int := kdL ((l.take 30).drop 1) (2 ^ (kdG l).toNat) []
def kdP (l : List Int) : List Int := (kdF l).1 ++ [(kdF l).2]
end Go.Proofs.Ytbdgknebimdjoaa
/-
  Chapter 12: what symbols cost: plain definitions. Conditions: none (definitions).
-/
namespace Go.Proofs.Ytbdgknebimdjoaa
open Go
set_option linter.unusedVariables false
set_option maxRecDepth 100000
/-- the symbols that are there -/
def thF (s : Int) : List Int → List Int
  | [] => []
  | x :: r => cond (x == 0) (thF (s + 1) r) (s :: thF (s + 1) r)
def thP (p : List Int) (i : Nat) : List Int := thF 0 (p.take i)
def thL (p : List Int) : List Int := thF 0 p
def symP (p nums : List Int) (i : Nat) : List Int := ((nums.take 200).take i).map fun x => (thL p).getD (modI x (thL p).length).toNat 0
def symL (p nums : List Int) : List Int := cond (Nat.beq (thL p).length 0) [] ((nums.take 200).map fun x => (thL p).getD (modI x (thL p).length).toNat 0)
def lastN (g : Int) (p l : List Int) (i : Nat) : Int := cond (Nat.beq i 0) 0 (cosN g p (l.drop (l.length - i)))
abbrev YC : Type := Int × List Int × List Int
def okY (y : YC) : Prop := dchk y.1 y.2.1 = 0 ∧ y.2.2.any (noD y.2.1) = false ∧ y.2.2.length ≤ 200
def yG (y : YC) : Int := y.1
def yP (y : YC) : List Int := y.2.1
def yL (y : YC) : List Int := y.2.2
def cosY (y : YC) (i : Nat) : Int := cosN (yG y) (yP y) ((yL y).drop (nthI (yL y) i))
def ptY (y : YC) (i : Nat) : Int := pt ((yP y).getD (nthS (yL y) i).toNat 0)
def lstY (y : YC) (i : Nat) : Int := lastN (yG y) (yP y) (yL y) i
end Go.Proofs.Ytbdgknebimdjoaa
/-
  Chapter 12: what symbols cost: contracts and loops. Conditions: none (definitions).
-/
namespace Go.Proofs.Ytbdgknebimdjoaa
open Go Go.RowKit
set_option linter.unusedVariables false
set_option linter.unusedSimpArgs false
set_option maxRecDepth 100000
def sAt : Spec where
  ι := List Int × Int
  dec l H := match l with
    | [.dat (.ints .i64 l), .v (.int .i64 i)] => some ((l, i), [])
    | _ => none
  args := fun (l, i) => [.dat (.ints .i64 l), .v (.int .i64 i)]
  out := fun (l, i) => .leaf (.v (.int .i64 (atI l i))) []
theorem sAt_enc : ∀ l H n i ls, sAt.dec l H = some (i, ls) → l = renL (rho ls n) (sAt.args i) ∧ givenHp H ls = renH (rho ls n) (sAt.hp i) := by
  intro l H n i ls h
  simp only [sAt] at h
  repeat' split at h
  all_goals first
    | (cases h; done)
    | (cases h; exact ⟨rfl, rfl⟩)
def sKd : Spec where
  ι := List Int
  dec l H := match l with
    | [.dat (.ints .i64 l)] => some (l, [])
    | _ => none
  args := fun l => [.dat (.ints .i64 l)]
  pre := fun l => [⟨l.all inW = true, inferInstance⟩]
  out := fun l => .leaf (.ag [.v (.int .i64 (kdG l)), .dat (.ints .i64 (kdP l))]) []
theorem sKd_enc : ∀ l H n i ls, sKd.dec l H = some (i, ls) → l = renL (rho ls n) (sKd.args i) ∧ givenHp H ls = renH (rho ls n) (sKd.hp i) := by
  intro l H n i ls h
  simp only [sKd] at h
  repeat' split at h
  all_goals first
    | (cases h; done)
    | (cases h; exact ⟨rfl, rfl⟩)
def sSymb : Spec where
  ι := Int × List Int × List Int
  dec l H := match l with
    | [.ag [.v (.int .i64 g), .dat (.ints .i64 p)], .dat (.ints .i64 l)] => some ((g, p, l), [])
    | _ => none
  args := fun (g, p, l) => [.ag [.v (.int .i64 g), .dat (.ints .i64 p)], .dat (.ints .i64 l)]
  pre := fun (g, p, l) => [⟨l.all inW = true, inferInstance⟩, ⟨p.length ≤ 4294967296, inferInstance⟩]
  out := fun (g, p, l) => .leaf (.dat (.ints .i64 (symL p l))) []
theorem sSymb_enc : ∀ l H n i ls, sSymb.dec l H = some (i, ls) → l = renL (rho ls n) (sSymb.args i) ∧ givenHp H ls = renH (rho ls n) (sSymb.hp i) := by
  intro l H n i ls h
  simp only [sSymb] at h
  repeat' split at h
  all_goals first
    | (cases h; done)
    | (cases h; exact ⟨rfl, rfl⟩)
def oKd (l : List Int) : LoopInv := { ι := Nat × Int × List Int, p := fun x => kdL ((l.take 30).drop x.1) x.2.1 x.2.2 = kdF l ∧ 1 ≤ x.1 ∧ x.1 ≤ 30 ∧ 1 ≤ x.2.1 ∧ x.2.1 ≤ 256 ∧ x.2.2.length ≤ x.1, tm := fun x => [(0, .dat (.ints .i64 l)), (2, .p 1000 0 0), (3, .p 1001 0 0), (4, .v (.int .i64 x.2.1)), (5, .v (.int .i64 (x.1 : Nat)))], hp := fun x => [(1000, .cells 24 [.v (.int .i64 0), .v (.slice none 0 0)]), (1001, .cells 24 [.v (.int .i64 (kdG l)), .o 1003]), (1003, .row 3 (.ints .i64 x.2.2))], μ := fun x => 30 - x.1 }
def oSymA (g : Int) (p l : List Int) : LoopInv := { ι := Nat, p := fun i => i ≤ p.length, tm := fun i => [(1, .dat (.ints .i64 l)), (2, .p 1000 0 0), (5, .o 5000), (6, .v (.int .i64 (i : Nat)))], hp := fun i => [dF 1000 g p, (5000, .row 3 (.ints .i64 (thP p i)))], μ := fun i => p.length - i }
def oSymB (g : Int) (p l : List Int) : LoopInv := { ι := Nat, p := fun i => i ≤ l.length ∧ i ≤ 200 ∧ (thL p = [] → i = 0), tm := fun i => [(1, .dat (.ints .i64 l)), (2, .p 1000 0 0), (5, .o 5000), (7, .o 5001), (8, .v (.int .i64 (i : Nat)))], hp := fun i => [dF 1000 g p, (5000, .row 3 (.ints .i64 (thL p))), (5001, .row 3 (.ints .i64 (symP p l i)))], μ := fun i => l.length - i }
def oSym (g : Int) (p l : List Int) : Nat → Option LoopFam := fun k => cond (Nat.beq k 0) (some (.one (oSymA g p l))) (cond (Nat.beq k 1) (some (.one (oSymB g p l))) none)
def tmY (y : YC) (i : Nat) : List (Nat × SV) := [(5, .p 1000 0 0), (6, .dat (.ints .i64 (yL y))), (7, .v (.int .i64 (lstY y i))), (8, .v (.int .i64 (i : Nat)))]
def oFcL (y : YC) : LoopInv := { ι := Nat, p := fun i => okY y ∧ i ≤ (yL y).length, tm := fun i => tmY y i, hp := fun i => [dF 1000 (yG y) (yP y)], μ := fun i => (yL y).length - i }
def oFcA : LoopInv := { ι := YC, p := fun y => okY y, tm := fun y => [(5, .p 1000 0 0), (6, .dat (.ints .i64 (yL y)))], hp := fun y => [dF 1000 (yG y) (yP y)], μ := fun _ => 0 }
def oFcB (y : YC) (i : Nat) : LoopInv := { ι := Unit, p := fun _ => okY y ∧ i < (yL y).length, tm := fun _ => (9, .dat (.ints .i64 ((yL y).drop (nthI (yL y) i)))) :: tmY y i, hp := fun _ => [dF 1000 (yG y) (yP y)], μ := fun _ => 0 }
def oFcC (y : YC) (i : Nat) : LoopInv := { ι := Unit, p := fun _ => okY y ∧ i < (yL y).length ∧ 0 < i, tm := fun _ => (10, .v (.int .i64 (cosY y i))) :: (12, .v (.int .i64 (ptY y i))) :: tmY y i, hp := fun _ => [dF 1000 (yG y) (yP y)], μ := fun _ => 0 }
def oFc : Nat → Option LoopFam := fun k => cond (Nat.beq k 0) (some (.fam YC oFcL)) (cond (Nat.beq k 1003) (some (.one oFcA)) (cond (Nat.beq k 1008) (some (.fam (YC × Nat) fun z => oFcB z.1 z.2)) (cond (Nat.beq k 1015) (some (.fam (YC × Nat) fun z => oFcC z.1 z.2)) none)))
def GFl : List (Nat × Ctr) := (74, sAt.ctr) :: (36, sSymb.ctr) :: GFk
def GFm : List (Nat × Ctr) := (35, sKd.ctr) :: GFl
/-! ### conditions
--%VC atK ;; (l : List Int) (i : Int) ;; [] ;; fun _ => none ;; kit.At ;; [.dat (.ints .i64 l), .v (.int .i64 i)] ;; [] ;; (.v (.int .i64 (atI l i))) ;; []
--%VC symK ;; (g : Int) (p l : List Int) ;; GFk ;; oSym g p l ;; kit.Symbols ;; [.ag [.v (.int .i64 g), .dat (.ints .i64 p)], .dat (.ints .i64 l)] ;; [] ;; (.dat (.ints .i64 (symL p l))) ;; []
--%VC kd ;; (l : List Int) ;; GFl ;; one (oKd l) ;; kit.Dist ;; [.dat (.ints .i64 l)] ;; [] ;; (.ag [.v (.int .i64 (kdG l)), .dat (.ints .i64 (kdP l))]) ;; []
--%VC lwCo ;; (l s : List Int) ;; GFm ;; oFc ;; law12.FseCosts ;; [.dat (.ints .i64 l), .dat (.ints .i64 s)] ;; [] ;; (.v (.bool true)) ;; []
-/
end Go.Proofs.Ytbdgknebimdjoaa
/-
  The conditions of the functions told in the text before, and that they are the executor's. Conditions: none.
-/
namespace Go.Proofs.Ytbdgknebimdjoaa
open Go Go.RowKit
set_option linter.unusedVariables false
set_option maxRecDepth 100000
def atK_t (l : List Int) (i : Int) : Prop :=
 (decide (i < (0 : Int)) = true → (0 : Int) = atI l i) ∧
 (decide (i < (0 : Int)) = false →
 (decide (i ≥ (↑(List.length l) : Int)) = true → (0 : Int) = atI l i) ∧
 (decide (i ≥ (↑(List.length l) : Int)) = false → (0 : Int) ≤ i ∧ i < (↑(List.length l) : Int) ∧ List.getD l (Int.toNat i) (0 : Int) = atI l i))
--end
theorem atK_e (l : List Int) (i : Int) : atK_t l i = vcG Try.prog (Gof []) (fun _ => none) Try.f74 [.dat (.ints .i64 l), .v (.int .i64 i)] [] (.leaf ((.v (.int .i64 (atI l i)))) ([])) := by kernel_rfl
def symK_t (g : Int) (p l : List Int) : Prop :=
 (∃ (x0 : Nat), Nat.le x0 (List.length p) ∧ l = l ∧ (0 : Int) = (↑x0 : Int) ∧ g = g ∧ p = p ∧ List.length (thP p x0) = (0 : Nat)) ∧
 ∀ (x1 : Nat),
 Nat.le x1 (List.length p) →
 (decide ((↑x1 : Int) < (↑(List.length p) : Int)) = true →
 (0 : Int) ≤ (↑x1 : Int) ∧
 (↑x1 : Int) < (↑(List.length p) : Int) ∧
 ((List.getD p (Int.toNat (↑x1 : Int)) (0 : Int) != (0 : Int)) = true →
 (List.length (thP p x1) + (1 : Nat)) * (8 : Nat) ≤ (140737488355328 : Nat) ∧
 ∃ (y2 : Nat),
 Nat.le y2 (List.length p) ∧
 Nat.sub (List.length p) y2 < Nat.sub (List.length p) x1 ∧
 l = l ∧ IntKind.wrap IntKind.i64 ((↑x1 : Int) + (1 : Int)) = (↑y2 : Int) ∧ g = g ∧ p = p ∧ thP p x1 ++ [(↑x1 : Int)] = thP p y2) ∧
 ((List.getD p (Int.toNat (↑x1 : Int)) (0 : Int) != (0 : Int)) = false →
 ∃ (y3 : Nat),
 Nat.le y3 (List.length p) ∧
 Nat.sub (List.length p) y3 < Nat.sub (List.length p) x1 ∧ l = l ∧ IntKind.wrap IntKind.i64 ((↑x1 : Int) + (1 : Int)) = (↑y3 : Int) ∧ g = g ∧ p = p ∧ thP p x1 = thP p y3)) ∧
 (decide ((↑x1 : Int) < (↑(List.length p) : Int)) = false →
 (∃ (x4 : Nat),
 (x4 ≤ List.length l ∧ x4 ≤ (200 : Nat) ∧ (thL p = [] → x4 = (0 : Nat))) ∧ l = l ∧ (0 : Int) = (↑x4 : Int) ∧ g = g ∧ p = p ∧ thP p x1 = thL p ∧ List.length (symP p l x4) = (0 : Nat)) ∧
 ∀ (x5 : Nat),
 x5 ≤ List.length l ∧ x5 ≤ (200 : Nat) ∧ (thL p = [] → x5 = (0 : Nat)) →
 (decide ((↑x5 : Int) < (↑(List.length l) : Int)) = true →
 (decide ((↑x5 : Int) < (200 : Int)) = true →
 (decide ((↑(List.length (thL p)) : Int) > (0 : Int)) = true →
 (0 : Int) ≤ (↑x5 : Int) ∧
 (↑x5 : Int) < (↑(List.length l) : Int) ∧
 inW (List.getD l (Int.toNat (↑x5 : Int)) (0 : Int)) = true ∧
 inW (↑(List.length (thL p)) : Int) = true ∧
 (0 : Int) ≤ modI (List.getD l (Int.toNat (↑x5 : Int)) (0 : Int)) (↑(List.length (thL p)) : Int) ∧
 modI (List.getD l (Int.toNat (↑x5 : Int)) (0 : Int)) (↑(List.length (thL p)) : Int) < (↑(List.length (thL p)) : Int) ∧
 Int.toNat (modI (List.getD l (Int.toNat (↑x5 : Int)) (0 : Int)) (↑(List.length (thL p)) : Int)) < List.length (thL p) ∧
 (List.length (symP p l x5) + (1 : Nat)) * (8 : Nat) ≤ (140737488355328 : Nat) ∧
 ∃ (y6 : Nat),
 (y6 ≤ List.length l ∧ y6 ≤ (200 : Nat) ∧ (thL p = [] → y6 = (0 : Nat))) ∧
 Nat.sub (List.length l) y6 < Nat.sub (List.length l) x5 ∧
 l = l ∧
 IntKind.wrap IntKind.i64 ((↑x5 : Int) + (1 : Int)) = (↑y6 : Int) ∧
 g = g ∧
 p = p ∧
 thL p = thL p ∧
 symP p l x5 ++
 [List.getD (thL p) (Int.toNat (modI (List.getD l (Int.toNat (↑x5 : Int)) (0 : Int)) (↑(List.length (thL p)) : Int))) (0 : Int)] =
 symP p l y6) ∧
 (decide ((↑(List.length (thL p)) : Int) > (0 : Int)) = false → symP p l x5 = symL p l)) ∧
 (decide ((↑x5 : Int) < (200 : Int)) = false → symP p l x5 = symL p l)) ∧
 (decide ((↑x5 : Int) < (↑(List.length l) : Int)) = false → symP p l x5 = symL p l))
--end
theorem symK_e (g : Int) (p l : List Int) : symK_t g p l = vcG Try.prog (Gof GFk) (oSym g p l) Try.f36 [.ag [.v (.int .i64 g), .dat (.ints .i64 p)], .dat (.ints .i64 l)] [] (.leaf ((.dat (.ints .i64 (symL p l)))) ([])) := by kernel_rfl
def kd_t (l : List Int) : Prop :=
 inW (atI l (0 : Int)) = true ∧
 inW (4 : Int) = true ∧
 (0 : Int) ≤ IntKind.wrap IntKind.u64 (IntKind.wrap IntKind.i64 ((5 : Int) + modI (atI l (0 : Int)) (4 : Int))) ∧
 (∃ (x0 : Nat × Int × List Int),
 (kdL (List.drop x0.fst (List.take (30 : Nat) l)) x0.snd.fst x0.snd.snd = kdF l ∧
 (1 : Nat) ≤ x0.fst ∧ x0.fst ≤ (30 : Nat) ∧ (1 : Int) ≤ x0.snd.fst ∧ x0.snd.fst ≤ (256 : Int) ∧ List.length x0.snd.snd ≤ x0.fst) ∧
 l = l ∧
 IntKind.wrap IntKind.i64
 ((1 : Int) * (2 : Int) ^ min (Int.toNat (IntKind.wrap IntKind.u64 (IntKind.wrap IntKind.i64 ((5 : Int) + modI (atI l (0 : Int)) (4 : Int))))) (IntKind.bits IntKind.i64)) =
 x0.snd.fst ∧
 (1 : Int) = (↑x0.fst : Int) ∧
 (0 : Int) = (0 : Int) ∧
 Value.slice none (0 : Nat) (0 : Nat) = Value.slice none (0 : Nat) (0 : Nat) ∧
 IntKind.wrap IntKind.i64 ((5 : Int) + modI (atI l (0 : Int)) (4 : Int)) = kdG l ∧ List.length x0.snd.snd = (0 : Nat)) ∧
 ∀ (x1 : Nat × Int × List Int),
 kdL (List.drop x1.fst (List.take (30 : Nat) l)) x1.snd.fst x1.snd.snd = kdF l ∧
 (1 : Nat) ≤ x1.fst ∧ x1.fst ≤ (30 : Nat) ∧ (1 : Int) ≤ x1.snd.fst ∧ x1.snd.fst ≤ (256 : Int) ∧ List.length x1.snd.snd ≤ x1.fst →
 (decide ((↑x1.fst : Int) < (↑(List.length l) : Int)) = true →
 (decide ((↑x1.fst : Int) < (30 : Int)) = true →
 (decide (x1.snd.fst > (1 : Int)) = true →
 (0 : Int) ≤ (↑x1.fst : Int) ∧
 (↑x1.fst : Int) < (↑(List.length l) : Int) ∧
 inW (List.getD l (Int.toNat (↑x1.fst : Int)) (0 : Int)) = true ∧
 inW (1048576 : Int) = true ∧
 (4 : Int) ≠ (0 : Int) ∧
 ((Int.tmod (modI (List.getD l (Int.toNat (↑x1.fst : Int)) (0 : Int)) (1048576 : Int)) (4 : Int) == (0 : Int)) = true →
 (decide ((-1 : Int) ≥ x1.snd.fst) = true →
 (List.length x1.snd.snd + (1 : Nat)) * (8 : Nat) ≤ (140737488355328 : Nat) ∧ kdG l = kdG l ∧ x1.snd.snd ++ [x1.snd.fst] = kdP l) ∧
 (decide ((-1 : Int) ≥ x1.snd.fst) = false →
 (List.length x1.snd.snd + (1 : Nat)) * (8 : Nat) ≤ (140737488355328 : Nat) ∧
 (decide ((-1 : Int) < (0 : Int)) = true →
 ∃ (y2 : Nat × Int × List Int),
 (kdL (List.drop y2.fst (List.take (30 : Nat) l)) y2.snd.fst y2.snd.snd = kdF l ∧
 (1 : Nat) ≤ y2.fst ∧ y2.fst ≤ (30 : Nat) ∧ (1 : Int) ≤ y2.snd.fst ∧ y2.snd.fst ≤ (256 : Int) ∧ List.length y2.snd.snd ≤ y2.fst) ∧
 Nat.sub (30 : Nat) y2.fst < Nat.sub (30 : Nat) x1.fst ∧
 l = l ∧
 IntKind.wrap IntKind.i64 (x1.snd.fst - (1 : Int)) = y2.snd.fst ∧
 IntKind.wrap IntKind.i64 ((↑x1.fst : Int) + (1 : Int)) = (↑y2.fst : Int) ∧
 (0 : Int) = (0 : Int) ∧
 Value.slice none (0 : Nat) (0 : Nat) = Value.slice none (0 : Nat) (0 : Nat) ∧ kdG l = kdG l ∧ x1.snd.snd ++ [(-1 : Int)] = y2.snd.snd) ∧
 (decide ((-1 : Int) < (0 : Int)) = false →
 ∃ (y3 : Nat × Int × List Int),
 (kdL (List.drop y3.fst (List.take (30 : Nat) l)) y3.snd.fst y3.snd.snd = kdF l ∧
 (1 : Nat) ≤ y3.fst ∧ y3.fst ≤ (30 : Nat) ∧ (1 : Int) ≤ y3.snd.fst ∧ y3.snd.fst ≤ (256 : Int) ∧ List.length y3.snd.snd ≤ y3.fst) ∧
 Nat.sub (30 : Nat) y3.fst < Nat.sub (30 : Nat) x1.fst ∧
 l = l ∧
 IntKind.wrap IntKind.i64 (x1.snd.fst - (-1 : Int)) = y3.snd.fst ∧
 IntKind.wrap IntKind.i64 ((↑x1.fst : Int) + (1 : Int)) = (↑y3.fst : Int) ∧
 (0 : Int) = (0 : Int) ∧
 Value.slice none (0 : Nat) (0 : Nat) = Value.slice none (0 : Nat) (0 : Nat) ∧ kdG l = kdG l ∧ x1.snd.snd ++ [(-1 : Int)] = y3.snd.snd))) ∧
 ((Int.tmod (modI (List.getD l (Int.toNat (↑x1.fst : Int)) (0 : Int)) (1048576 : Int)) (4 : Int) == (0 : Int)) = false →
 ((Int.tmod (modI (List.getD l (Int.toNat (↑x1.fst : Int)) (0 : Int)) (1048576 : Int)) (4 : Int) == (1 : Int)) = true →
 (decide ((0 : Int) ≥ x1.snd.fst) = true →
 (List.length x1.snd.snd + (1 : Nat)) * (8 : Nat) ≤ (140737488355328 : Nat) ∧ kdG l = kdG l ∧ x1.snd.snd ++ [x1.snd.fst] = kdP l) ∧
 (decide ((0 : Int) ≥ x1.snd.fst) = false →
 (List.length x1.snd.snd + (1 : Nat)) * (8 : Nat) ≤ (140737488355328 : Nat) ∧
 (decide ((0 : Int) < (0 : Int)) = true →
 ∃ (y4 : Nat × Int × List Int),
 (kdL (List.drop y4.fst (List.take (30 : Nat) l)) y4.snd.fst y4.snd.snd = kdF l ∧
 (1 : Nat) ≤ y4.fst ∧ y4.fst ≤ (30 : Nat) ∧ (1 : Int) ≤ y4.snd.fst ∧ y4.snd.fst ≤ (256 : Int) ∧ List.length y4.snd.snd ≤ y4.fst) ∧
 Nat.sub (30 : Nat) y4.fst < Nat.sub (30 : Nat) x1.fst ∧
 l = l ∧
 IntKind.wrap IntKind.i64 (x1.snd.fst - (1 : Int)) = y4.snd.fst ∧
 IntKind.wrap IntKind.i64 ((↑x1.fst : Int) + (1 : Int)) = (↑y4.fst : Int) ∧
 (0 : Int) = (0 : Int) ∧
 Value.slice none (0 : Nat) (0 : Nat) = Value.slice none (0 : Nat) (0 : Nat) ∧
 kdG l = kdG l ∧ x1.snd.snd ++ [(0 : Int)] = y4.snd.snd) ∧
 (decide ((0 : Int) < (0 : Int)) = false →
 ∃ (y5 : Nat × Int × List Int),
 (kdL (List.drop y5.fst (List.take (30 : Nat) l)) y5.snd.fst y5.snd.snd = kdF l ∧
 (1 : Nat) ≤ y5.fst ∧ y5.fst ≤ (30 : Nat) ∧ (1 : Int) ≤ y5.snd.fst ∧ y5.snd.fst ≤ (256 : Int) ∧ List.length y5.snd.snd ≤ y5.fst) ∧
 Nat.sub (30 : Nat) y5.fst < Nat.sub (30 : Nat) x1.fst ∧
 l = l ∧
 IntKind.wrap IntKind.i64 (x1.snd.fst - (0 : Int)) = y5.snd.fst ∧
 IntKind.wrap IntKind.i64 ((↑x1.fst : Int) + (1 : Int)) = (↑y5.fst : Int) ∧
 (0 : Int) = (0 : Int) ∧
 Value.slice none (0 : Nat) (0 : Nat) = Value.slice none (0 : Nat) (0 : Nat) ∧
 kdG l = kdG l ∧ x1.snd.snd ++ [(0 : Int)] = y5.snd.snd))) ∧
 ((Int.tmod (modI (List.getD l (Int.toNat (↑x1.fst : Int)) (0 : Int)) (1048576 : Int)) (4 : Int) == (1 : Int)) = false →
 (4 : Int) ≠ (0 : Int) ∧
 min x1.snd.fst (40 : Int) ≠ (0 : Int) ∧
 (decide
 (IntKind.wrap IntKind.i64
 ((1 : Int) +
 Int.tmod (IntKind.wrap IntKind.i64 (Int.tdiv (modI (List.getD l (Int.toNat (↑x1.fst : Int)) (0 : Int)) (1048576 : Int)) (4 : Int)))
 (min x1.snd.fst (40 : Int))) ≥
 x1.snd.fst) =
 true →
 (List.length x1.snd.snd + (1 : Nat)) * (8 : Nat) ≤ (140737488355328 : Nat) ∧ kdG l = kdG l ∧ x1.snd.snd ++ [x1.snd.fst] = kdP l) ∧
 (decide
 (IntKind.wrap IntKind.i64
 ((1 : Int) +
 Int.tmod (IntKind.wrap IntKind.i64 (Int.tdiv (modI (List.getD l (Int.toNat (↑x1.fst : Int)) (0 : Int)) (1048576 : Int)) (4 : Int)))
 (min x1.snd.fst (40 : Int))) ≥
 x1.snd.fst) =
 false →
 (List.length x1.snd.snd + (1 : Nat)) * (8 : Nat) ≤ (140737488355328 : Nat) ∧
 (decide
 (IntKind.wrap IntKind.i64
 ((1 : Int) +
 Int.tmod (IntKind.wrap IntKind.i64 (Int.tdiv (modI (List.getD l (Int.toNat (↑x1.fst : Int)) (0 : Int)) (1048576 : Int)) (4 : Int)))
 (min x1.snd.fst (40 : Int))) <
 (0 : Int)) =
 true →
 ∃ (y6 : Nat × Int × List Int),
 (kdL (List.drop y6.fst (List.take (30 : Nat) l)) y6.snd.fst y6.snd.snd = kdF l ∧
 (1 : Nat) ≤ y6.fst ∧ y6.fst ≤ (30 : Nat) ∧ (1 : Int) ≤ y6.snd.fst ∧ y6.snd.fst ≤ (256 : Int) ∧ List.length y6.snd.snd ≤ y6.fst) ∧
 Nat.sub (30 : Nat) y6.fst < Nat.sub (30 : Nat) x1.fst ∧
 l = l ∧
 IntKind.wrap IntKind.i64 (x1.snd.fst - (1 : Int)) = y6.snd.fst ∧
 IntKind.wrap IntKind.i64 ((↑x1.fst : Int) + (1 : Int)) = (↑y6.fst : Int) ∧
 (0 : Int) = (0 : Int) ∧
 Value.slice none (0 : Nat) (0 : Nat) = Value.slice none (0 : Nat) (0 : Nat) ∧
 kdG l = kdG l ∧
 x1.snd.snd ++
 [IntKind.wrap IntKind.i64
 ((1 : Int) +
 Int.tmod
 (IntKind.wrap IntKind.i64
 (Int.tdiv (modI (List.getD l (Int.toNat (↑x1.fst : Int)) (0 : Int)) (1048576 : Int)) (4 : Int)))
 (min x1.snd.fst (40 : Int)))] =
 y6.snd.snd) ∧
 (decide
 (IntKind.wrap IntKind.i64
 ((1 : Int) +
 Int.tmod (IntKind.wrap IntKind.i64 (Int.tdiv (modI (List.getD l (Int.toNat (↑x1.fst : Int)) (0 : Int)) (1048576 : Int)) (4 : Int)))
 (min x1.snd.fst (40 : Int))) <
 (0 : Int)) =
 false →
 ∃ (y7 : Nat × Int × List Int),
 (kdL (List.drop y7.fst (List.take (30 : Nat) l)) y7.snd.fst y7.snd.snd = kdF l ∧
 (1 : Nat) ≤ y7.fst ∧ y7.fst ≤ (30 : Nat) ∧ (1 : Int) ≤ y7.snd.fst ∧ y7.snd.fst ≤ (256 : Int) ∧ List.length y7.snd.snd ≤ y7.fst) ∧
 Nat.sub (30 : Nat) y7.fst < Nat.sub (30 : Nat) x1.fst ∧
 l = l ∧
 IntKind.wrap IntKind.i64
 (x1.snd.fst -
 IntKind.wrap IntKind.i64
 ((1 : Int) +
 Int.tmod
 (IntKind.wrap IntKind.i64 (Int.tdiv (modI (List.getD l (Int.toNat (↑x1.fst : Int)) (0 : Int)) (1048576 : Int)) (4 : Int)))
 (min x1.snd.fst (40 : Int)))) =
 y7.snd.fst ∧
 IntKind.wrap IntKind.i64 ((↑x1.fst : Int) + (1 : Int)) = (↑y7.fst : Int) ∧
 (0 : Int) = (0 : Int) ∧
 Value.slice none (0 : Nat) (0 : Nat) = Value.slice none (0 : Nat) (0 : Nat) ∧
 kdG l = kdG l ∧
 x1.snd.snd ++
 [IntKind.wrap IntKind.i64
 ((1 : Int) +
 Int.tmod
 (IntKind.wrap IntKind.i64
 (Int.tdiv (modI (List.getD l (Int.toNat (↑x1.fst : Int)) (0 : Int)) (1048576 : Int)) (4 : Int)))
 (min x1.snd.fst (40 : Int)))] =
 y7.snd.snd))))) ∧
 (decide (x1.snd.fst > (1 : Int)) = false → (List.length x1.snd.snd + (1 : Nat)) * (8 : Nat) ≤ (140737488355328 : Nat) ∧ kdG l = kdG l ∧ x1.snd.snd ++ [x1.snd.fst] = kdP l)) ∧
 (decide ((↑x1.fst : Int) < (30 : Int)) = false → (List.length x1.snd.snd + (1 : Nat)) * (8 : Nat) ≤ (140737488355328 : Nat) ∧ kdG l = kdG l ∧ x1.snd.snd ++ [x1.snd.fst] = kdP l)) ∧
 (decide ((↑x1.fst : Int) < (↑(List.length l) : Int)) = false →
 (List.length x1.snd.snd + (1 : Nat)) * (8 : Nat) ≤ (140737488355328 : Nat) ∧ kdG l = kdG l ∧ x1.snd.snd ++ [x1.snd.fst] = kdP l)
--end
theorem kd_e (l : List Int) : kd_t l = vcG Try.prog (Gof GFl) (one (oKd l)) Try.f35 [.dat (.ints .i64 l)] [] (.leaf ((.ag [.v (.int .i64 (kdG l)), .dat (.ints .i64 (kdP l))])) ([])) := by kernel_rfl
def lwCo_t (l s : List Int) : Prop :=
 List.all l inW = true ∧
 (List.all s inW = true ∧
 List.length (kdP l) ≤ (4294967296 : Nat) ∧
 ∃ (x0 : Int × List Int × List Int),
 (dchk x0.fst x0.snd.fst = (0 : Int) ∧ List.any x0.snd.snd (noD x0.snd.fst) = false ∧ List.length x0.snd.snd ≤ (200 : Nat)) ∧ symL (kdP l) s = yL x0 ∧ kdG l = yG x0 ∧ kdP l = yP x0) ∧
 ∀ (x1 : Int × List Int × List Int),
 dchk x1.fst x1.snd.fst = (0 : Int) ∧ List.any x1.snd.snd (noD x1.snd.fst) = false ∧ List.length x1.snd.snd ≤ (200 : Nat) →
 ∃ (g2 : YC),
 (∃ (x3 : Nat), (okY g2 ∧ x3 ≤ List.length (yL g2)) ∧ yL x1 = yL g2 ∧ (0 : Int) = lstY g2 x3 ∧ (0 : Int) = (↑x3 : Int) ∧ yG x1 = yG g2 ∧ yP x1 = yP g2) ∧
 ∀ (x4 : Nat),
 okY g2 ∧ x4 ≤ List.length (yL g2) →
 (decide ((↑x4 : Int) < (↑(List.length (yL g2)) : Int)) = true →
 ∃ (g5 : YC × Nat),
 ((0 : Int) ≤ IntKind.wrap IntKind.i64 (IntKind.wrap IntKind.i64 ((↑(List.length (yL g2)) : Int) - (1 : Int)) - (↑x4 : Int)) ∧
 IntKind.wrap IntKind.i64 (IntKind.wrap IntKind.i64 ((↑(List.length (yL g2)) : Int) - (1 : Int)) - (↑x4 : Int)) ≤ (↑(List.length (yL g2)) : Int) ∧
 (↑(List.length (yL g2)) : Int) ≤ (↑(List.length (yL g2)) : Int) ∧
 ∃ (x6 : Unit),
 (okY g5.fst ∧ g5.snd < List.length (yL g5.fst)) ∧
 List.take
 (Int.toNat (↑(List.length (yL g2)) : Int) -
 Int.toNat (IntKind.wrap IntKind.i64 (IntKind.wrap IntKind.i64 ((↑(List.length (yL g2)) : Int) - (1 : Int)) - (↑x4 : Int))))
 (List.drop (Int.toNat (IntKind.wrap IntKind.i64 (IntKind.wrap IntKind.i64 ((↑(List.length (yL g2)) : Int) - (1 : Int)) - (↑x4 : Int)))) (yL g2)) =
 List.drop (nthI (yL g5.fst) g5.snd) (yL g5.fst) ∧
 yL g2 = yL g5.fst ∧ lstY g2 x4 = lstY g5.fst g5.snd ∧ (↑x4 : Int) = (↑g5.snd : Int) ∧ yG g2 = yG g5.fst ∧ yP g2 = yP g5.fst) ∧
 ∀ (x7 : Unit),
 okY g5.fst ∧ g5.snd < List.length (yL g5.fst) →
 List.length (yP g5.fst) ≤ (4294967296 : Nat) ∧
 List.length (List.drop (nthI (yL g5.fst) g5.snd) (yL g5.fst)) ≤ (4294967296 : Nat) ∧
 ((askE (yG g5.fst) (yP g5.fst) (List.drop (nthI (yL g5.fst) g5.snd) (yL g5.fst)) (1 : Int) != (0 : Int)) = true → false = true) ∧
 ((askE (yG g5.fst) (yP g5.fst) (List.drop (nthI (yL g5.fst) g5.snd) (yL g5.fst)) (1 : Int) != (0 : Int)) = false →
 (decide ((↑g5.snd : Int) > (0 : Int)) = true →
 (0 : Int) ≤ (0 : Int) ∧
 (0 : Int) < (↑(List.length (List.drop (nthI (yL g5.fst) g5.snd) (yL g5.fst))) : Int) ∧
 (0 : Int) ≤ List.getD (List.drop (nthI (yL g5.fst) g5.snd) (yL g5.fst)) (Int.toNat (0 : Int)) (0 : Int) ∧
 List.getD (List.drop (nthI (yL g5.fst) g5.snd) (yL g5.fst)) (Int.toNat (0 : Int)) (0 : Int) < (↑(List.length (yP g5.fst)) : Int) ∧
 ∃ (g8 : YC × Nat),
 ((decide
 (List.getD (yP g5.fst) (Int.toNat (List.getD (List.drop (nthI (yL g5.fst) g5.snd) (yL g5.fst)) (Int.toNat (0 : Int)) (0 : Int))) (0 : Int) <
 (0 : Int)) =
 true →
 ∃ (x9 : Unit),
 (okY g8.fst ∧ g8.snd < List.length (yL g8.fst) ∧ (0 : Nat) < g8.snd) ∧
 cosN (yG g5.fst) (yP g5.fst) (List.drop (nthI (yL g5.fst) g5.snd) (yL g5.fst)) = cosY g8.fst g8.snd ∧
 (1 : Int) = ptY g8.fst g8.snd ∧
 yL g5.fst = yL g8.fst ∧
 lstY g5.fst g5.snd = lstY g8.fst g8.snd ∧ (↑g5.snd : Int) = (↑g8.snd : Int) ∧ yG g5.fst = yG g8.fst ∧ yP g5.fst = yP g8.fst) ∧
 (decide
 (List.getD (yP g5.fst) (Int.toNat (List.getD (List.drop (nthI (yL g5.fst) g5.snd) (yL g5.fst)) (Int.toNat (0 : Int)) (0 : Int))) (0 : Int) <
 (0 : Int)) =
 false →
 ∃ (x10 : Unit),
 (okY g8.fst ∧ g8.snd < List.length (yL g8.fst) ∧ (0 : Nat) < g8.snd) ∧
 cosN (yG g5.fst) (yP g5.fst) (List.drop (nthI (yL g5.fst) g5.snd) (yL g5.fst)) = cosY g8.fst g8.snd ∧
 List.getD (yP g5.fst) (Int.toNat (List.getD (List.drop (nthI (yL g5.fst) g5.snd) (yL g5.fst)) (Int.toNat (0 : Int)) (0 : Int)))
 (0 : Int) =
 ptY g8.fst g8.snd ∧
 yL g5.fst = yL g8.fst ∧
 lstY g5.fst g5.snd = lstY g8.fst g8.snd ∧ (↑g5.snd : Int) = (↑g8.snd : Int) ∧ yG g5.fst = yG g8.fst ∧ yP g5.fst = yP g8.fst)) ∧
 ∀ (x11 : Unit),
 okY g8.fst ∧ g8.snd < List.length (yL g8.fst) ∧ (0 : Nat) < g8.snd →
 ptY g8.fst g8.snd ≤ (9223372036854775807 : Int) ∧
 ((IntKind.wrap IntKind.i64 (cosY g8.fst g8.snd - lstY g8.fst g8.snd) != IntKind.wrap IntKind.i64 (yG g8.fst - hiI (ptY g8.fst g8.snd))) =
 true →
 ((IntKind.wrap IntKind.i64 (cosY g8.fst g8.snd - lstY g8.fst g8.snd) !=
 IntKind.wrap IntKind.i64 (IntKind.wrap IntKind.i64 (yG g8.fst - hiI (ptY g8.fst g8.snd)) - (1 : Int))) =
 true →
 false = true) ∧
 ((IntKind.wrap IntKind.i64 (cosY g8.fst g8.snd - lstY g8.fst g8.snd) !=
 IntKind.wrap IntKind.i64 (IntKind.wrap IntKind.i64 (yG g8.fst - hiI (ptY g8.fst g8.snd)) - (1 : Int))) =
 false →
 ∃ (y12 : Nat),
 (okY g2 ∧ y12 ≤ List.length (yL g2)) ∧
 Nat.sub (List.length (yL g2)) y12 < Nat.sub (List.length (yL g2)) x4 ∧
 yL g8.fst = yL g2 ∧
 cosY g8.fst g8.snd = lstY g2 y12 ∧
 IntKind.wrap IntKind.i64 ((↑g8.snd : Int) + (1 : Int)) = (↑y12 : Int) ∧ yG g8.fst = yG g2 ∧ yP g8.fst = yP g2)) ∧
 ((IntKind.wrap IntKind.i64 (cosY g8.fst g8.snd - lstY g8.fst g8.snd) != IntKind.wrap IntKind.i64 (yG g8.fst - hiI (ptY g8.fst g8.snd))) =
 false →
 ∃ (y13 : Nat),
 (okY g2 ∧ y13 ≤ List.length (yL g2)) ∧
 Nat.sub (List.length (yL g2)) y13 < Nat.sub (List.length (yL g2)) x4 ∧
 yL g8.fst = yL g2 ∧
 cosY g8.fst g8.snd = lstY g2 y13 ∧
 IntKind.wrap IntKind.i64 ((↑g8.snd : Int) + (1 : Int)) = (↑y13 : Int) ∧ yG g8.fst = yG g2 ∧ yP g8.fst = yP g2)) ∧
 (decide ((↑g5.snd : Int) > (0 : Int)) = false →
 ((cosN (yG g5.fst) (yP g5.fst) (List.drop (nthI (yL g5.fst) g5.snd) (yL g5.fst)) != yG g5.fst) = true → false = true) ∧
 ((cosN (yG g5.fst) (yP g5.fst) (List.drop (nthI (yL g5.fst) g5.snd) (yL g5.fst)) != yG g5.fst) = false →
 ∃ (y14 : Nat),
 (okY g2 ∧ y14 ≤ List.length (yL g2)) ∧
 Nat.sub (List.length (yL g2)) y14 < Nat.sub (List.length (yL g2)) x4 ∧
 yL g5.fst = yL g2 ∧
 cosN (yG g5.fst) (yP g5.fst) (List.drop (nthI (yL g5.fst) g5.snd) (yL g5.fst)) = lstY g2 y14 ∧
 IntKind.wrap IntKind.i64 ((↑g5.snd : Int) + (1 : Int)) = (↑y14 : Int) ∧ yG g5.fst = yG g2 ∧ yP g5.fst = yP g2)))) ∧
 (decide ((↑x4 : Int) < (↑(List.length (yL g2)) : Int)) = false →
 (((↑(List.length (yL g2)) : Int) == (0 : Int)) = true → true = true) ∧
 (((↑(List.length (yL g2)) : Int) == (0 : Int)) = false →
 List.length (yP g2) ≤ (4294967296 : Nat) ∧
 List.length (yL g2) ≤ (4294967296 : Nat) ∧
 ((askE (yG g2) (yP g2) (yL g2) (1 : Int) == (0 : Int)) = true →
 (8 : Int) ≠ (0 : Int) ∧
 (((↑(ByteArray.size (wrtS (yG g2) (yP g2) (yL g2) (1 : Nat))) : Int) ==
 IntKind.wrap IntKind.i64 (IntKind.wrap IntKind.i64 (Int.tdiv (lstY g2 x4) (8 : Int)) + (1 : Int))) =
 true →
 true = true) ∧
 (((↑(ByteArray.size (wrtS (yG g2) (yP g2) (yL g2) (1 : Nat))) : Int) ==
 IntKind.wrap IntKind.i64 (IntKind.wrap IntKind.i64 (Int.tdiv (lstY g2 x4) (8 : Int)) + (1 : Int))) =
 false →
 false = true)) ∧
 ((askE (yG g2) (yP g2) (yL g2) (1 : Int) == (0 : Int)) = false → false = true)))
--end
theorem lwCo_e (l s : List Int) : lwCo_t l s = vcG Try.prog (Gof GFm) (oFc) Try.f6 [.dat (.ints .i64 l), .dat (.ints .i64 s)] [] (.leaf ((.v (.bool true))) ([])) := by kernel_rfl
end Go.Proofs.Ytbdgknebimdjoaa
/-
  The verifier's distributions made of numbers: kit.Dist has its contract, they are right. Conditions: each theorem's own.
-/
namespace Go.Proofs.Ytbdgknebimdjoaa
open Go Go.RowKit
set_option linter.unusedVariables false
set_option linter.unusedSimpArgs false
set_option maxRecDepth 100000
theorem pts_cons (p : Int) (r : List Int) : pts (p :: r) = pt p + pts r := by
  have := pts_app [p] r
  have h5 : pts [p] = pt p := by simp [pts]
  rw [h5] at this
  exact this
theorem mod20 (x : Int) : 0 ≤ modI x 1048576 ∧ modI x 1048576 < 1048576 := by
  unfold modI
  simp only [show decide ((1048576 : Int) < 1) = false from rfl, cond_false]
  omega
theorem kdG_in (l : List Int) : 5 ≤ kdG l ∧ kdG l ≤ 8 := by
  unfold kdG modI
  simp only [show decide ((4 : Int) < 1) = false from rfl, cond_false]
  omega
theorem kd_one {r : List Int} {left : Int} {out : List Int} (h : ¬ 1 < left) : kdL r left out = (out, left) := by
  cases r
  · rfl
  · unfold kdL; rw [decide_eq_false h]; rfl
theorem kd_stop {x : Int} {r : List Int} {left v : Int} {out : List Int} (h : 1 < left) (hv : stepV x left = v) (h2 : left ≤ v) : kdL (x :: r) left out = (out, left) := by
  unfold kdL; rw [decide_eq_true h, hv, decide_eq_true h2]; rfl
theorem kd_step {x : Int} {r : List Int} {left v : Int} {out : List Int} (h : 1 < left) (hv : stepV x left = v) (h2 : ¬ left ≤ v) : kdL (x :: r) left out = kdL r (left - cond (decide (v < 0)) 1 v) (out ++ [v]) := by
  conv => lhs; unfold kdL
  rw [decide_eq_true h, hv, decide_eq_false h2]; rfl
theorem take_drop_cons {l : List Int} {i : Nat} (h : i < l.length) (h2 : i < 30) : (l.take 30).drop i = l.getD i 0 :: (l.take 30).drop (i + 1) := by
  have h3 : i < (l.take 30).length := by simp; omega
  rw [List.drop_eq_getElem_cons h3]
  simp [List.getD_eq_getElem?_getD, List.getElem?_eq_getElem h]
theorem take_drop_nil {l : List Int} {i : Nat} (h : l.length ≤ i ∨ 30 ≤ i) : (l.take 30).drop i = [] := by
  apply List.drop_eq_nil_of_le
  simp
  omega
theorem inW_get {l : List Int} (h : l.all inW = true) (i : Nat) : inW (l.getD i 0) = true := by
  by_cases c : i < l.length
  · rw [List.getD_eq_getElem?_getD, List.getElem?_eq_getElem c]
    exact List.all_eq_true.1 h _ (List.getElem_mem c)
  · rw [List.getD_eq_getElem?_getD, List.getElem?_eq_none (by omega)]
    decide
theorem kd_v (l : List Int) (hl : l.all inW = true) : kd_t l := by
  unfold kd_t
  simp only [e00, n00, e23, n23, e31, n31, Bool.true_eq_false, Bool.false_eq_true, true_implies, false_implies, eq_self, true_and, and_true, and_self, gt_iff_lt, ge_iff_le, decide_eq_true_eq, decide_eq_false_iff_not, toNat_cast]
  have hg := kdG_in l
  have hw : IntKind.wrap IntKind.i64 (5 + modI (atI l 0) 4) = kdG l := wr (n := kdG l) (by omega) (by omega)
  have hu : IntKind.wrap IntKind.u64 (kdG l) = kdG l := wru (by omega) (by omega)
  simp only [hw, hu, shl1 (g := kdG l) (by omega) (by omega)]
  have hpw : (1 : Int) ≤ 2 ^ (kdG l).toNat ∧ (2 : Int) ^ (kdG l).toNat ≤ 256 := by
    have : (kdG l).toNat = 5 ∨ (kdG l).toNat = 6 ∨ (kdG l).toNat = 7 ∨ (kdG l).toNat = 8 := by omega
    rcases this with h | h | h | h <;> rw [h] <;> decide
  refine ⟨?_, by decide, by omega, ⟨(1, 2 ^ (kdG l).toNat, []), ⟨rfl, (by omega : 1 ≤ 1), (by omega : 1 ≤ 30), hpw.1, hpw.2, (by omega : 0 ≤ 1)⟩, rfl, rfl, trivial, rfl⟩, fun ⟨i, left, out⟩ ⟨hp, i1, i2, l1, l2, ol⟩ => ?_⟩
  · unfold atI
    cases decide ((0 : Int) < 0) || decide ((l.length : Int) ≤ 0)
    · exact inW_get hl _
    · show inW 0 = true; decide
  dsimp only at hp i1 i2 l1 l2 ol ⊢
  have fin : kdL ((l.take 30).drop i) left out = (out, left) → (out.length + 1) * 8 ≤ 140737488355328 ∧ out ++ [left] = kdP l := fun h => by
    rw [h] at hp
    exact ⟨by omega, by unfold kdP; rw [← hp]⟩
  refine ⟨fun hlen => ⟨fun h30 => ⟨fun hgt => ⟨by omega, by omega, inW_get hl _, by decide, by decide, ?_⟩, fun hle => fin (kd_one (by omega))⟩, fun h30 => fin (by rw [take_drop_nil (.inr (by omega))]; rfl)⟩, fun hlen => fin (by rw [take_drop_nil (.inl (by omega))]; rfl)⟩
  have hc := take_drop_cons (l := l) (i := i) (by omega) (by omega)
  rw [hc] at hp fin
  generalize hx : l.getD i 0 = x at hp fin ⊢
  have hV := mod20 x
  have e1 : (modI x 1048576).tmod 4 = modI x 1048576 % 4 := Int.tmod_eq_emod_of_nonneg hV.1
  have e2 : (modI x 1048576).tdiv 4 = modI x 1048576 / 4 := Int.tdiv_eq_ediv_of_nonneg hV.1
  have e3 : IntKind.wrap IntKind.i64 (modI x 1048576 / 4) = modI x 1048576 / 4 := wr (by omega) (by omega)
  have e4 : (modI x 1048576 / 4).tmod (min left 40) = modI x 1048576 / 4 % min left 40 := Int.tmod_eq_emod_of_nonneg (by omega)
  have m0 := Int.emod_nonneg (modI x 1048576 / 4) (show min left 40 ≠ 0 by omega)
  have m1 := Int.emod_lt_of_pos (modI x 1048576 / 4) (show 0 < min left 40 by omega)
  have e5 : IntKind.wrap IntKind.i64 (1 + modI x 1048576 / 4 % min left 40) = 1 + modI x 1048576 / 4 % min left 40 := wr (by omega) (by omega)
  have wi : IntKind.wrap IntKind.i64 ((i : Int) + 1) = ((i + 1 : Nat) : Int) := by rw [wr (by omega) (by omega)]; simp
  simp only [e1, e2, e3, e4, e5, wi]
  have nx : ∀ v : Int, stepV x left = v → ¬ left ≤ v → -1 ≤ v → ∀ u, u = cond (decide (v < 0)) 1 v → 0 ≤ u → u < left →
      ∃ y : Nat × Int × List Int, (kdL (List.drop y.1 (List.take 30 l)) y.2.1 y.2.2 = kdF l ∧ 1 ≤ y.1 ∧ y.1 ≤ 30 ∧ 1 ≤ y.2.1 ∧ y.2.1 ≤ 256 ∧ y.2.2.length ≤ y.1) ∧ Nat.sub 30 y.1 < Nat.sub 30 i ∧ IntKind.wrap IntKind.i64 (left - u) = y.2.1 ∧ ((i + 1 : Nat) : Int) = (y.1 : Int) ∧ out ++ [v] = y.2.2 := fun v hv h1 h2 u hu u0 u1 => by
    rw [kd_step hgt hv h1, ← hu] at hp
    refine ⟨(i + 1, left - u, out ++ [v]), ⟨hp, by dsimp only; omega, by dsimp only; omega, by dsimp only; omega, by dsimp only; omega, by simp; omega⟩, ?_, wr (by omega) (by omega), rfl, rfl⟩
    show 30 - (i + 1) < 30 - i
    omega
  refine ⟨fun h0 => ?_, fun h0 => ⟨fun h1 => ?_, fun h1 => ?_⟩⟩
  · have hv : stepV x left = -1 := by unfold stepV; rw [h0]; rfl
    exact ⟨fun h => by omega, fun h => ⟨by omega, fun _ => nx _ hv (by omega) (by omega) 1 rfl (by omega) (by omega), fun h => absurd h (by decide)⟩⟩
  · have hv : stepV x left = 0 := by unfold stepV; rw [h0, h1]; rfl
    exact ⟨fun h => by omega, fun h => ⟨by omega, fun h => absurd h (by decide), fun _ => nx _ hv (by omega) (by omega) 0 rfl (by omega) (by omega)⟩⟩
  · have hv : stepV x left = 1 + modI x 1048576 / 4 % min left 40 := by unfold stepV; rw [h0, h1]; rfl
    refine ⟨by decide, by omega, fun h => fin (kd_stop hgt hv h), fun h => ⟨by omega, fun h2 => by omega, fun h2 => nx _ hv (by omega) (by omega) _ (by rw [decide_eq_false h2]; rfl) (by omega) (by omega)⟩⟩
theorem stepV_low (x left : Int) (h : 1 < left) : -1 ≤ stepV x left := by
  have hV := mod20 x
  have m0 := Int.emod_nonneg (modI x 1048576 / 4) (show min left 40 ≠ 0 by omega)
  unfold stepV
  cases modI x 1048576 % 4 == 0
  · cases modI x 1048576 % 4 == 1
    · simp only [cond_false]; omega
    · simp only [cond_true, cond_false]; omega
  · simp only [cond_true]; omega
structure KdOk (n : Int) (m : Nat) (z : List Int × Int) : Prop where
  pos : 1 ≤ z.2
  low : ∀ x ∈ z.1, -1 ≤ x
  sum : pts z.1 + z.2 = n
  len : z.1.length ≤ m
theorem kdL_ok (r : List Int) : ∀ (left : Int) (out : List Int) (n : Int) (m : Nat), KdOk n m (out, left) → KdOk n (m + r.length) (kdL r left out) := by
  induction r with
  | nil => intro left out n m h; exact h
  | cons x r ih =>
    intro left out n m h
    have h1 := h.pos
    have h2 := h.low
    have h3 := h.sum
    have h4 := h.len
    dsimp only at h1 h2 h3 h4
    have up : KdOk n (m + (r.length + 1)) (out, left) := ⟨h1, h2, h3, by dsimp only; omega⟩
    by_cases c : 1 < left
    · by_cases c2 : left ≤ stepV x left
      · rw [kd_stop c rfl c2]; exact up
      · rw [kd_step c rfl c2]
        have lo := stepV_low x left c
        have e : m + (x :: r).length = (m + 1) + r.length := by simp only [List.length_cons]; omega
        rw [e]
        refine ih _ _ _ _ ⟨?_, ?_, ?_, by simp; omega⟩
        · dsimp only
          cases d : decide (stepV x left < 0)
          · simp only [cond_false]; omega
          · simp only [cond_true]; omega
        · intro z hz
          rcases List.mem_append.1 hz with hz | hz
          · exact h2 z hz
          · rw [List.mem_singleton.1 hz]; exact lo
        · dsimp only
          rw [pts_app, pts_cons]
          have e0 : pts ([] : List Int) = 0 := rfl
          rw [e0]
          unfold pt
          omega
    · rw [kd_one c]; exact up
theorem kd_ok (l : List Int) : dchk (kdG l) (kdP l) = 0 ∧ (kdP l).length ≤ 30 := by
  have hg := kdG_in l
  have p0 := pow_pos' (kdG l).toNat
  have K := kdL_ok ((l.take 30).drop 1) (2 ^ (kdG l).toNat) [] (2 ^ (kdG l).toNat) 0 ⟨by dsimp only; omega, fun x h => by simp at h, by show (0 : Int) + _ = _; omega, Nat.le_refl _⟩
  have k1 := K.pos
  have k2 := K.low
  have k3 := K.sum
  have k4 := K.len
  have e : kdL ((l.take 30).drop 1) (2 ^ (kdG l).toNat) [] = kdF l := rfl
  rw [e] at k1 k2 k3 k4
  have h29 : ((l.take 30).drop 1).length ≤ 29 := by simp; omega
  have hlen : (kdP l).length = (kdF l).1.length + 1 := by unfold kdP; simp
  have hlast : (kdP l).getD ((kdP l).length - 1) 0 = (kdF l).2 := by
    rw [hlen, Nat.add_sub_cancel]
    unfold kdP
    simp
  have hsum : pts (kdP l) = 2 ^ (kdG l).toNat := by
    unfold kdP
    rw [pts_app, pts_cons]
    have e0 : pts ([] : List Int) = 0 := rfl
    have e1 : pt (kdF l).2 = (kdF l).2 := by unfold pt; rw [decide_eq_false (by omega)]; rfl
    rw [e0, e1]
    omega
  refine ⟨?_, by omega⟩
  unfold dchk
  rw [decide_eq_false (by omega), decide_eq_false (by omega)]
  have hb : dbad (kdG l) (kdP l) = false := by
    unfold dbad
    rw [hlast, hsum]
    have a1 : decide ((kdP l).length < 1) = false := decide_eq_false (by omega)
    have a2 : decide (256 < (kdP l).length) = false := decide_eq_false (by omega)
    have a3 : ((kdF l).2 == 0) = false := by
      have : (kdF l).2 ≠ 0 := by omega
      simpa using this
    have a4 : (kdP l).any (fun x => decide (x < -1)) = false := by
      rw [List.any_eq_false]
      intro x hx
      simp only [decide_eq_true_eq]
      unfold kdP at hx
      rcases List.mem_append.1 hx with hx | hx
      · have := k2 x hx; omega
      · rw [List.mem_singleton.1 hx]; omega
    rw [a1, a2, a3, a4]
    simp
  rw [hb]; rfl
end Go.Proofs.Ytbdgknebimdjoaa
/-
  Chapter 12: what symbols cost. Conditions: each theorem's own.
-/
namespace Go.Proofs.Ytbdgknebimdjoaa
open Go Go.RowKit
set_option linter.unusedVariables false
set_option linter.unusedSimpArgs false
set_option maxRecDepth 100000
theorem atK_v (l : List Int) (i : Int) : atK_t l i := by
  unfold atK_t atI
  refine ⟨fun h => by rw [h]; rfl, fun h => ⟨fun h2 => by rw [h]; rw [show decide ((l.length : Int) ≤ i) = true from h2]; rfl, fun h2 => ⟨by simp only [decide_eq_false_iff_not] at h; omega, by simp only [ge_iff_le, decide_eq_false_iff_not] at h2; omega, by rw [h, show decide ((l.length : Int) ≤ i) = false from h2]; rfl⟩⟩⟩
/-! ### the symbols that are there -/
theorem thF_app : ∀ (s : Int) (l : List Int) (x : Int), thF s (l ++ [x]) = thF s l ++ cond (x == 0) [] [s + l.length]
  | s, [], x => by
    show cond (x == 0) [] [s] = cond (x == 0) [] [s + 0]
    rw [Int.add_zero]
  | s, y :: r, x => by
    have ih := thF_app (s + 1) r x
    show cond (y == 0) (thF (s + 1) (r ++ [x])) (s :: thF (s + 1) (r ++ [x])) = cond (y == 0) (thF (s + 1) r) (s :: thF (s + 1) r) ++ _
    rw [ih, List.length_cons]
    have e : s + 1 + (r.length : Int) = s + ((r.length + 1 : Nat) : Int) := by omega
    rw [e]
    cases y == 0 <;> rfl
theorem thP_succ {p : List Int} {i : Nat} (h : i < p.length) : thP p (i + 1) = thP p i ++ cond (p.getD i 0 == 0) [] [(i : Int)] := by
  unfold thP
  rw [take_succ p 0 h, thF_app, List.length_take, Nat.min_eq_left (by omega), Int.zero_add]
theorem thP_len (p : List Int) : ∀ i, i ≤ p.length → (thP p i).length ≤ i
  | 0, _ => by simp [thP, thF]
  | i + 1, h => by
    rw [thP_succ (by omega), List.length_append]
    have := thP_len p i (by omega)
    cases p.getD i 0 == 0
    · simp only [cond_false, List.length_singleton]; omega
    · simp only [cond_true, List.length_nil]; omega
theorem thP_all (p : List Int) : thP p p.length = thL p := by unfold thP thL; rw [List.take_length]
theorem thP_mem {p : List Int} : ∀ i, i ≤ p.length → ∀ x ∈ thP p i, noD p x = false
  | 0, _, x, hx => by simp [thP, thF] at hx
  | i + 1, h, x, hx => by
    rw [thP_succ (by omega), List.mem_append] at hx
    rcases hx with hx | hx
    · exact thP_mem i (by omega) x hx
    · cases hz : p.getD i 0 == 0
      · rw [hz] at hx
        simp only [cond_false, List.mem_singleton] at hx
        subst hx
        have := noD_in (p := p) (x := (i : Int)) (decide_eq_false (by omega)) (decide_eq_false (by omega))
        rw [toNat_cast] at this
        rw [← this]
        exact hz
      · rw [hz] at hx
        simp at hx
theorem modI_pos {x m : Int} (h : 1 ≤ m) : 0 ≤ modI x m ∧ modI x m < m := by
  unfold modI
  rw [decide_eq_false (by omega)]
  exact ⟨Int.emod_nonneg _ (by omega), Int.emod_lt_of_pos _ (by omega)⟩
theorem sym_no (p nums : List Int) : (symL p nums).any (noD p) = false ∧ (symL p nums).length ≤ 200 := by
  unfold symL
  cases h : Nat.beq (thL p).length 0
  · simp only [cond_false]
    refine ⟨?_, by rw [List.length_map, List.length_take]; omega⟩
    have h1 : 1 ≤ (thL p).length := by
      cases hl : (thL p).length with
      | zero => rw [hl] at h; cases h
      | succ n => omega
    rw [List.any_map, List.any_eq_false]
    intro x _
    have hm := modI_pos (x := x) (m := ((thL p).length : Int)) (by omega)
    have : (thL p).getD (modI x (thL p).length).toNat 0 ∈ thL p := getD_mem' (by omega)
    rw [← thP_all] at this
    simp only [Function.comp]
    rw [← thP_all, thP_mem p.length (Nat.le_refl _) _ this]
    simp
  · simp
theorem symP_succ {p nums : List Int} {i : Nat} (h : i < nums.length) (h2 : i < 200) : symP p nums (i + 1) = symP p nums i ++ [(thL p).getD (modI (nums.getD i 0) (thL p).length).toNat 0] := by
  unfold symP
  have h3 : i < (nums.take 200).length := by rw [List.length_take]; omega
  rw [take_succ (nums.take 200) 0 h3, List.map_append]
  have : (nums.take 200).getD i 0 = nums.getD i 0 := by
    rw [List.getD_eq_getElem?_getD, List.getElem?_take_of_lt h2, List.getD_eq_getElem?_getD]
  rw [this]
  rfl
theorem symP_end {p nums : List Int} {i : Nat} (h : i = nums.length ∨ i = 200) (h1 : i ≤ nums.length) (h2 : i ≤ 200) (h0 : thL p = [] → i = 0) : symP p nums i = symL p nums := by
  have e : (nums.take 200).take i = nums.take 200 := List.take_of_length_le (by rw [List.length_take]; omega)
  unfold symP symL
  cases hn : Nat.beq (thL p).length 0
  · rw [e]; rfl
  · have : thL p = [] := List.eq_nil_of_length_eq_zero (Nat.eq_of_beq_eq_true hn)
    have := h0 this
    subst this
    simp
theorem symK_v (g : Int) (p l : List Int) (h0 : l.all inW = true) (h1 : p.length ≤ 4294967296) : symK_t g p l := by
  unfold symK_t
  simp only [nle, toNat_cast]
  have hin : ∀ i, inW (l.getD i 0) = true := inW_get h0
  refine ⟨⟨0, Nat.zero_le _, (by first | rfl | trivial), (by first | rfl | trivial), (by first | rfl | trivial), (by first | rfl | trivial), by simp [thP, thF]⟩, fun i hi => ⟨fun hlt => ?_, fun hge => ?_⟩⟩
  · have hlt : i < p.length := by simpa using hlt
    have hl := thP_len p i hi
    have es := thP_succ hlt
    refine ⟨by omega, by omega, fun hz => ⟨by omega, i + 1, by omega, by rw [Nat.sub_eq, Nat.sub_eq]; omega, (by first | rfl | trivial), cnt_wrap64 (by omega), (by first | rfl | trivial), (by first | rfl | trivial), ?_⟩, fun hz => ⟨i + 1, by omega, by rw [Nat.sub_eq, Nat.sub_eq]; omega, (by first | rfl | trivial), cnt_wrap64 (by omega), (by first | rfl | trivial), (by first | rfl | trivial), ?_⟩⟩
    · rw [ne0 hz] at es; exact es.symm
    · rw [beq0 (eq0 hz)] at es
      rw [es]
      simp
  · have : i = p.length := by simp only [decide_eq_false_iff_not] at hge; omega
    subst this
    have hl := thP_len p p.length (Nat.le_refl _)
    rw [thP_all] at hl ⊢
    refine ⟨⟨0, ⟨Nat.zero_le _, by omega, fun _ => rfl⟩, (by first | rfl | trivial), (by first | rfl | trivial), (by first | rfl | trivial), (by first | rfl | trivial), (by first | rfl | trivial), by simp [symP]⟩, fun i ⟨i1, i2, i3⟩ => ⟨fun hlt => ⟨fun hlt2 => ⟨fun hpos => ?_, fun hneg => ?_⟩, fun hge2 => ?_⟩, fun hge2 => ?_⟩⟩
    · have hlt : i < l.length := by simpa using hlt
      have hlt2 : i < 200 := by simp only [decide_eq_true_eq] at hlt2; omega
      have hpos : 0 < (thL p).length := by simp only [gt_iff_lt, decide_eq_true_eq] at hpos; omega
      have hm := modI_pos (x := l.getD i 0) (m := ((thL p).length : Int)) (by omega)
      have hle : (symP p l i).length ≤ 200 := by unfold symP; rw [List.length_map, List.length_take, List.length_take]; omega
      refine ⟨by omega, by omega, hin i, ?_, hm.1, hm.2, by omega, by omega, i + 1, ⟨by omega, by omega, fun h => by rw [h] at hpos; simp at hpos⟩, by rw [Nat.sub_eq, Nat.sub_eq]; omega, (by first | rfl | trivial), cnt_wrap64 (by omega), (by first | rfl | trivial), (by first | rfl | trivial), (by first | rfl | trivial), (symP_succ hlt hlt2).symm⟩
      unfold inW
      rw [decide_eq_true (by omega), decide_eq_true (by omega)]
      rfl
    · have : thL p = [] := List.eq_nil_of_length_eq_zero (by simp only [gt_iff_lt, decide_eq_false_iff_not] at hneg; omega)
      have h0 := i3 this
      subst h0
      unfold symP symL
      rw [this]
      simp
    · exact symP_end (.inr (by simp only [decide_eq_false_iff_not] at hge2; omega)) i1 i2 i3
    · exact symP_end (.inl (by simp only [decide_eq_false_iff_not] at hge2; omega)) i1 i2 i3
/-! ### how many cells a symbol has -/
theorem lowF_cnt : ∀ (l : List Int) (s : Int) (k : Nat), k < l.length → (lowF s l).count (s + k) = cond (isR (l.getD k 0)) 1 0 ∧ ∀ z, z < s → (lowF s l).count z = 0
  | [], _, _, h => by simp at h
  | x :: r, s, k, h => by
    have low : ∀ (l : List Int) (s z : Int), z < s → (lowF s l).count z = 0 := by
      intro l
      induction l with
      | nil => intro s z _; rfl
      | cons y t ih =>
        intro s z hz
        show (cond (isR y) (s :: lowF (s + 1) t) (lowF (s + 1) t)).count z = 0
        cases isR y
        · exact ih _ _ (by omega)
        · simp only [cond_true]
          rw [List.count_cons_of_ne (by omega)]
          exact ih _ _ (by omega)
    refine ⟨?_, low _ _⟩
    show (cond (isR x) (s :: lowF (s + 1) r) (lowF (s + 1) r)).count (s + k) = _
    cases k with
    | zero =>
      have e : s + ((0 : Nat) : Int) = s := by omega
      rw [e]
      show _ = cond (isR x) 1 0
      cases isR x
      · exact low _ _ _ (by omega)
      · simp only [cond_true]
        rw [List.count_cons_self, low _ _ _ (by omega)]
    | succ k =>
      have e : s + ((k + 1 : Nat) : Int) = s + 1 + (k : Int) := by omega
      rw [e]
      have ih := (lowF_cnt r (s + 1) k (by simpa using h)).1
      show _ = cond (isR (r.getD k 0)) 1 0
      rw [← ih]
      cases isR x
      · rfl
      · simp only [cond_true]
        rw [List.count_cons_of_ne (by omega)]
theorem hiF_cnt : ∀ (l : List Int) (s : Int) (k : Nat), k < l.length → (hiF s l).count (s + k) = (l.getD k 0).toNat
  | [], _, _, h => by simp at h
  | x :: r, s, k, h => by
    have low : ∀ (l : List Int) (s z : Int), z < s → (hiF s l).count z = 0 := by
      intro l
      induction l with
      | nil => intro s z _; rfl
      | cons y t ih =>
        intro s z hz
        show (List.replicate y.toNat s ++ hiF (s + 1) t).count z = 0
        rw [List.count_append, ih _ _ (by omega), List.count_replicate]
        have : (s == z) = false := by simp; omega
        rw [this]
        rfl
    show (List.replicate x.toNat s ++ hiF (s + 1) r).count (s + k) = _
    rw [List.count_append]
    cases k with
    | zero =>
      have e : s + ((0 : Nat) : Int) = s := by omega
      rw [e, low _ _ _ (by omega), List.count_replicate_self]
      rfl
    | succ k =>
      have e : s + ((k + 1 : Nat) : Int) = s + 1 + (k : Int) := by omega
      rw [e, hiF_cnt r (s + 1) k (by simpa using h), List.count_replicate]
      have : (s == s + 1 + (k : Int)) = false := by simp; omega
      rw [this]
      simp
theorem spr_cnt {g : Int} {l : List Int} (h : DOk g l) {k : Nat} (hk : k < l.length) : ((spr g l).count (k : Int) : Int) = pt (l.getD k 0) := by
  rw [(spr_perm h).count_eq, List.count_append]
  have e1 := (lowF_cnt l 0 k hk).1
  have e2 := hiF_cnt l 0 k hk
  rw [Int.zero_add] at e1 e2
  rw [e1, e2]
  have lo := h.lo _ (getD_mem' hk)
  unfold pt isR
  by_cases hm : l.getD k 0 = -1
  · rw [hm]; decide
  · have : (l.getD k 0 == -1) = false := beq_eq_false_iff_ne.2 hm
    rw [this, decide_eq_false (by omega)]
    simp only [cond_false]
    omega
theorem cel_pt {g : Int} {p : List Int} (h : dchk g p = 0) {s : Int} (hn : noD p s = false) : ((celT (encL g p) s).length : Int) = pt (p.getD s.toNat 0) := by
  have hd := dchk0 h
  have h0 : 0 ≤ s := by
    rcases Int.lt_or_le s 0 with hs | hs
    · rw [noD_neg (decide_eq_true hs)] at hn; cases hn
    · exact hs
  have h1 : s < p.length := by
    rcases Int.lt_or_le s p.length with hs | hs
    · exact hs
    · rw [noD_big (decide_eq_true hs)] at hn; cases hn
  obtain ⟨k, rfl⟩ := Int.eq_ofNat_of_zero_le h0
  have hk : k < p.length := by omega
  have hlen : (statesL p.length (spr g p)).length = p.length := by rw [← states_all, states_len]
  rw [(enc_good h).2, celT_in (by omega) (by rw [hlen]; exact h1), toNat_cast, ← states_all, states_get hk, cellsP_all]
  rw [show (cellsL (spr g p) (k : Int)).length = (spr g p).count (k : Int) from cellsF_len _ _ _]
  exact spr_cnt hd hk
theorem hi_X {g x : Int} (h0 : 0 ≤ g) (hx0 : 0 ≤ x) (hx1 : x < (szN g : Int)) : hiI (putX g x) = g := by
  have hp := szN_pos g
  unfold putX
  rw [hiI_pos (by omega)]
  have e : (x + (szN g : Int)).toNat = x.toNat + szN g := by omega
  rw [e]
  have : Nat.log2 (x.toNat + szN g) = g.toNat := by
    unfold szN at *
    refine (Nat.log2_eq_iff (by omega)).2 ⟨by omega, ?_⟩
    rw [Nat.pow_succ]
    omega
  rw [this]
  omega
/-! ### costs -/
theorem ask_of {g : Int} {p l : List Int} {c : Nat} (h : AskOk g p l c) : askE g p l (c : Int) = 0 := by
  unfold askE
  rw [beq0 h.d, h.no, decide_eq_false (by have := h.hi; omega), decide_eq_false (by have := h.lo; omega)]
  rfl
theorem cos_run {g : Int} {p l : List Int} (h : AskOk g p l 1) : cosN g p l = (runL g (encL g p) l).2 + g := by
  obtain ⟨_, e2, e3⟩ := cos_eq (ask_of h)
  rw [e3, (ru_vals e2).2.1]
theorem ask_drop {g : Int} {p l : List Int} (h : AskOk g p l 1) (i : Nat) (hi : i < l.length) : AskOk g p (l.drop i) 1 :=
  ⟨h.d, by rw [List.length_drop]; have := h.hi; omega, by rw [List.length_drop]; omega, any_drop h.no i⟩
theorem okY_ask {y : YC} (h : okY y) (hl : 0 < (yL y).length) : AskOk (yG y) (yP y) (yL y) 1 := ⟨h.1, by have := h.2.2; unfold yL; omega, hl, h.2.1⟩
theorem cosY_0 {y : YC} (h : okY y) {i : Nat} (hi : i < (yL y).length) (h0 : i = 0) : cosY y i = yG y := by
  subst h0
  have hA := okY_ask h (by omega)
  have e1 : nthI (yL y) 0 = (yL y).length - 1 := rfl
  unfold cosY
  rw [cos_run (ask_drop hA _ (by unfold nthI; omega)), e1, run_last (by omega)]
  simp only
  omega
theorem lst_next {y : YC} {i : Nat} (hi : i < (yL y).length) : lstY y (i + 1) = cosY y i := by
  unfold lstY lastN cosY
  rw [show (yL y).length - (i + 1) = nthI (yL y) i by unfold nthI; omega]
  rfl
theorem cosY_step {y : YC} (h : okY y) {i : Nat} (hi : i < (yL y).length) (h0 : 0 < i) : 0 ≤ yG y ∧ yG y ≤ 12 ∧ 1 ≤ ptY y i ∧ ptY y i ≤ 65536 ∧ 0 ≤ hiI (ptY y i) ∧ 0 ≤ lstY y i ∧ lstY y i ≤ 10000 ∧
    yG y - hiI (ptY y i) - 1 ≤ cosY y i - lstY y i ∧ cosY y i - lstY y i ≤ yG y - hiI (ptY y i) := by
  have hA := okY_ask h (by omega)
  obtain ⟨j, rfl⟩ : ∃ j, i = j + 1 := ⟨i - 1, by omega⟩
  have hT := hA.T
  have hl200 : (yL y).length ≤ 200 := h.2.2
  have hs : noC (encL (yG y) (yP y)) (nthS (yL y) (j + 1)) = false := any_get hA.nc (by unfold nthI; omega)
  have hsD : noD (yP y) (nthS (yL y) (j + 1)) = false := any_get hA.no (by unfold nthI; omega)
  have hr := run_step (g := yG y) (t := encL (yG y) (yP y)) (l := yL y) (k := nthI (yL y) (j + 1)) (by unfold nthI; omega)
  have e1 : nthI (yL y) (j + 1) + 1 = nthI (yL y) j := by unfold nthI; omega
  rw [e1] at hr
  have hb := run_bd hT ((yL y).drop (nthI (yL y) j)) (any_drop hA.nc _)
  have hlen : ((yL y).drop (nthI (yL y) j)).length ≤ 200 := by rw [List.length_drop]; omega
  have hst := stpN hT.g0 hT.g12 hb.x0 hb.x1 hs (hT.cel_le _)
  have hpt : ((celT (encL (yG y) (yP y)) (nthS (yL y) (j + 1))).length : Int) = ptY y (j + 1) := cel_pt hA.d hsD
  have hX := hi_X hT.g0 hb.x0 hb.x1
  have n1 := hst.nb.nd
  have n2 := hst.nb.nu
  rw [hX, hpt] at n1 n2
  have n3 := hst.h0
  have n4 := hst.p1
  rw [hpt] at n3 n4
  have hle := hT.cel_le (nthS (yL y) (j + 1))
  have hsz := hst.sz
  rw [lst_next (by omega)]
  have c1 : cosY y j = (runL (yG y) (encL (yG y) (yP y)) ((yL y).drop (nthI (yL y) j))).2 + yG y := cos_run (ask_drop hA _ (by unfold nthI; omega))
  have c2 : cosY y (j + 1) = (runL (yG y) (encL (yG y) (yP y)) ((yL y).drop (nthI (yL y) (j + 1)))).2 + yG y := cos_run (ask_drop hA _ (by unfold nthI; omega))
  rw [hr] at c2
  simp only at c2
  have e3 : putN (yG y) (encL (yG y) (yP y)) (runL (yG y) (encL (yG y) (yP y)) ((yL y).drop (nthI (yL y) j))).1 ((yL y).getD (nthI (yL y) (j + 1)) 0) = nbI (putX (yG y) (runL (yG y) (encL (yG y) (yP y)) ((yL y).drop (nthI (yL y) j))).1) (ptY y (j + 1)) := by
    unfold putN
    rw [show (yL y).getD (nthI (yL y) (j + 1)) 0 = nthS (yL y) (j + 1) from rfl, hpt]
  rw [e3] at c2
  have b1 := hb.n0
  have b2 := hb.n1
  have g0 := hT.g0
  have g1 := hT.g12
  refine ⟨g0, g1, n4, by omega, n3, by omega, by omega, by omega, by omega⟩
theorem wrt_len {g : Int} {p l : List Int} (h : AskOk g p l 1) : ((wrtS g p l 1).size : Int) = cosN g p l / 8 + 1 := by
  have e := (cos_eq (ask_of h)).1
  have hf := ff_bd (c := 1) h.T h.nc 1
  have h0 := hf.n0
  have h7 := hf.n7
  rw [← wrt_good (c := 1) (ask_of h)]
  unfold fulS dS
  rw [app_size, strOfNums_size, List.length_singleton]
  push_cast
  omega
end Go.Proofs.Ytbdgknebimdjoaa
/-
  Chapter 12: the law FseCosts holds. Conditions: each theorem's own.
-/
namespace Go.Proofs.Ytbdgknebimdjoaa
open Go Go.RowKit
set_option linter.unusedVariables false
set_option linter.unusedSimpArgs false
set_option maxRecDepth 100000
theorem atK_sound : Sound Try.prog 74 sAt.ctr := sAt.sound (by kernel_rfl) sAt_enc fun ⟨l, i⟩ hc => by
  exact satG AllOk.nil mixed Try.func74 (atK_e l i) (atK_v l i)
theorem symK_sound : Sound Try.prog 36 sSymb.ctr := sSymb.sound (by kernel_rfl) sSymb_enc fun ⟨g, p, l⟩ hc => by
  have h0 := hc _ (.head _)
  have h1 := hc _ (.tail _ (.head _))
  exact satG GFk_ok mixed Try.func36 (symK_e g p l) (symK_v g p l h0 h1)
theorem GFl_ok : AllOk Try.prog GFl := .cons atK_sound <| .cons symK_sound GFk_ok
theorem kd_sound : Sound Try.prog 35 sKd.ctr := sKd.sound (by kernel_rfl) sKd_enc fun l hc => by
  have h0 := hc _ (.head _)
  exact satG GFl_ok mixed Try.func35 (kd_e l) (kd_v l h0)
theorem GFm_ok : AllOk Try.prog GFm := .cons kd_sound GFl_ok
theorem drop_get0 {l : List Int} {k : Nat} (h : k < l.length) : (l.drop k).getD 0 0 = l.getD k 0 := by
  rw [drop_at h]
  rfl
theorem lwCo_v (l s : List Int) (hl : l.all inW = true) (hs : s.all inW = true) : lwCo_t l s := by
  unfold lwCo_t
  have hk := kd_ok l
  have hy := sym_no (kdP l) s
  refine ⟨hl, ⟨hs, by omega, (kdG l, kdP l, symL (kdP l) s), ⟨hk.1, hy.1, hy.2⟩, rfl, rfl, rfl⟩, fun y hyk => ⟨y, ⟨0, ⟨hyk, Nat.zero_le _⟩, rfl, rfl, rfl, rfl, rfl⟩, fun i ⟨hok, hi⟩ => ⟨fun hlt => ?_, fun hge => ?_⟩⟩⟩
  · have hlt : i < (yL y).length := by simpa using hlt
    have hl200 : (yL y).length ≤ 200 := hok.2.2
    have hA := okY_ask hok (by omega)
    have hD := dchk0 hok.1
    have hpl : (yP y).length ≤ 256 := hD.n2
    have en : IntKind.wrap IntKind.i64 (IntKind.wrap IntKind.i64 (((yL y).length : Int) - 1) - (i : Int)) = ((nthI (yL y) i : Nat) : Int) := by
      rw [wr (show -9223372036854775808 ≤ ((yL y).length : Int) - 1 by omega) (by omega), wr (by omega) (by omega)]
      unfold nthI
      omega
    have hnl : nthI (yL y) i < (yL y).length := by unfold nthI; omega
    rw [en, toNat_cast, toNat_cast]
    refine ⟨(y, i), ⟨by omega, by omega, by omega, (), ⟨hok, hlt⟩, List.take_of_length_le (by rw [List.length_drop]; omega), rfl, rfl, rfl, rfl, rfl⟩, fun _ ⟨_, _⟩ => ?_⟩
    have hAd := ask_drop hA (nthI (yL y) i) hnl
    have hask := ask_of hAd
    have hdl : ((yL y).drop (nthI (yL y) i)).length ≤ 200 := by rw [List.length_drop]; omega
    have hd1 : 1 ≤ ((yL y).drop (nthI (yL y) i)).length := by rw [List.length_drop]; omega
    have nx : (∃ (z : Nat), (okY y ∧ z ≤ (yL y).length) ∧ Nat.sub (yL y).length z < Nat.sub (yL y).length i ∧ yL y = yL y ∧ cosY y i = lstY y z ∧ IntKind.wrap IntKind.i64 ((i : Int) + (1 : Int)) = (z : Int) ∧ yG y = yG y ∧ yP y = yP y) :=
      ⟨i + 1, ⟨hok, by omega⟩, by rw [Nat.sub_eq, Nat.sub_eq]; omega, rfl, (lst_next hlt).symm, cnt_wrap (by omega), rfl, rfl⟩
    have h00 : Int.toNat 0 = 0 := rfl
    rw [h00]
    dsimp only
    rw [drop_get0 hnl]
    have hsD : noD (yP y) ((yL y).getD (nthI (yL y) i) 0) = false := any_get hA.no hnl
    have s0 : 0 ≤ (yL y).getD (nthI (yL y) i) 0 := by
      rcases Int.lt_or_le ((yL y).getD (nthI (yL y) i) 0) 0 with h | h
      · rw [noD_neg (decide_eq_true h)] at hsD; cases hsD
      · exact h
    have s1 : (yL y).getD (nthI (yL y) i) 0 < (yP y).length := by
      rcases Int.lt_or_le ((yL y).getD (nthI (yL y) i) 0) (yP y).length with h | h
      · exact h
      · rw [noD_big (decide_eq_true h)] at hsD; cases hsD
    refine ⟨by omega, by omega, fun h => absurd hask (by simpa using h), fun _ => ⟨fun hp => ⟨by omega, by omega, s0, s1, (y, i), ?_, fun _ ⟨_, _, hpos⟩ => ?_⟩, fun hz => ⟨fun h => ?_, fun _ => nx⟩⟩⟩
    · have hpos : 0 < i := by simp only [gt_iff_lt, decide_eq_true_eq] at hp; omega
      refine ⟨fun h => ⟨(), ⟨hok, hlt, hpos⟩, rfl, ?_, rfl, rfl, rfl, rfl, rfl⟩, fun h => ⟨(), ⟨hok, hlt, hpos⟩, rfl, ?_, rfl, rfl, rfl, rfl, rfl⟩⟩
      · exact (pt_neg h).symm
      · exact (pt_pos h).symm
    · dsimp only at hpos ⊢
      obtain ⟨g0, g1, p1, p2, h0, l0, l1, c1, c2⟩ := cosY_step hok hlt hpos
      have hhi : hiI (ptY y i) ≤ 1000 := by
        rw [hiI_pos (by omega)]
        have := log2_le (n := (ptY y i).toNat) (k := 17) (by omega) (by omega)
        omega
      rw [show IntKind.wrap IntKind.i64 (cosY y i - lstY y i) = cosY y i - lstY y i from wr (by omega) (by omega), show IntKind.wrap IntKind.i64 (yG y - hiI (ptY y i)) = yG y - hiI (ptY y i) from wr (by omega) (by omega), show IntKind.wrap IntKind.i64 (yG y - hiI (ptY y i) - 1) = yG y - hiI (ptY y i) - 1 from wr (by omega) (by omega)]
      refine ⟨by omega, fun h1 => ⟨fun h2 => ?_, fun _ => nx⟩, fun _ => nx⟩
      simp only [bne_iff_ne, ne_eq] at h1 h2
      omega
    · have hz : i = 0 := by simp only [gt_iff_lt, decide_eq_false_iff_not] at hz; omega
      have := cosY_0 hok hlt hz
      unfold cosY at this
      rw [this] at h
      simp at h
  · have hge : ¬ i < (yL y).length := by simpa using hge
    have : i = (yL y).length := by omega
    subst this
    have hl200 : (yL y).length ≤ 200 := hok.2.2
    have hD := dchk0 hok.1
    have hpl : (yP y).length ≤ 256 := hD.n2
    refine ⟨fun _ => rfl, fun hne => ?_⟩
    have hne : 0 < (yL y).length := by
      simp only [beq_eq_false_iff_ne, ne_eq] at hne
      omega
    have hA := okY_ask hok hne
    have hask := ask_of hA
    have hw := wrt_len hA
    have hlst : lstY y (yL y).length = cosN (yG y) (yP y) (yL y) := by
      obtain ⟨n, hn⟩ : ∃ n, (yL y).length = n + 1 := ⟨(yL y).length - 1, by omega⟩
      rw [hn, lst_next (by omega)]
      unfold cosY
      rw [show nthI (yL y) n = 0 by unfold nthI; omega, List.drop_zero]
    have hr := run_bd hA.T (yL y) hA.nc
    have hc := cos_run hA
    have b1 := hr.n0
    have b2 := hr.n1
    have g0 := hA.T.g0
    have g1 := hA.T.g12
    refine ⟨by omega, by omega, fun _ => ⟨by decide, fun _ => rfl, fun h => ?_⟩, fun h => ?_⟩
    · rw [hlst, hw, Int.tdiv_eq_ediv_of_nonneg (by omega), show IntKind.wrap IntKind.i64 (cosN (yG y) (yP y) (yL y) / 8) = cosN (yG y) (yP y) (yL y) / 8 from wr (by omega) (by omega), wr (by omega) (by omega)] at h
      simp at h
    · rw [show askE (yG y) (yP y) (yL y) 1 = 0 from hask] at h
      cases h
theorem ints_inW {w : World} {A : Option Addr} {n cap : Nat} {zs : List Int} (h : IntsIn w A n cap zs) : (zs.take n).all inW = true := by
  rw [List.all_eq_true]
  intro x hx
  have := h.rng x (List.mem_of_mem_take hx)
  simp [inW]
  omega
theorem fcosts_any (A : Option Addr) (n cap : Nat) (zs : List Int) (A2 : Option Addr) (n2 cap2 : Nat) (ys : List Int) (W : World) (hI : IntsIn W A n cap zs) (hI2 : IntsIn W A2 n2 cap2 ys) :
    Calls Try.prog 6 #[.slice A n cap, .slice A2 n2 cap2] W fun e w' => e = .returned (.bool true) ∧ Below W.heap.size W w' := by
  refine law_true (us := [.slice A n cap, .slice A2 n2 cap2]) (satG GFm_ok mixed Try.func6 (lwCo_e (zs.take n) (ys.take n2)) (lwCo_v _ _ (ints_inW hI) (ints_inW hI2))) (.inr rfl) ?_
  simp only [Reps]
  exact ⟨_, _, rfl, dat_ints hI, _, _, rfl, dat_ints hI2, rfl⟩
end Go.Proofs.Ytbdgknebimdjoaa
