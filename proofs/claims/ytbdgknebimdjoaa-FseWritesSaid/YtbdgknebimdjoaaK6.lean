/-
  Texts joined: FH, FI, FJ, FK, FL, FM, FN, FO, FP, FPt, EO, FQ. Conditions: each theorem's own.
-/
import Derived.Test.YtbdgknebimdjoaaK5
import Derived.Test.YtbdgknebimdjoaaK3
/-
  Chapter 11: the table made of a right distribution is right. Conditions: each theorem's own.
-/
namespace Go.Proofs.Ytbdgknebimdjoaa
open Go Go.RowKit
set_option linter.unusedVariables false
set_option linter.unusedSimpArgs false
set_option maxRecDepth 100000
theorem cellsF_asc (s : Int) : ∀ (a : List Int) (c : Int), (cellsF s c a).Pairwise (fun x y : Int => x < y)
  | [], _ => List.Pairwise.nil
  | x :: r, c => by
    show (cond (x == s) (c :: cellsF s (c + 1) r) (cellsF s (c + 1) r)).Pairwise _
    cases x == s
    · exact cellsF_asc s r (c + 1)
    · refine List.Pairwise.cons (fun y hy => ?_) (cellsF_asc s r (c + 1))
      obtain ⟨i, _, _, rfl⟩ := (cellsF_mem s r (c + 1) y).1 hy
      omega
theorem asc_sorted {l : List Int} (h : l.Pairwise (fun x y : Int => x < y)) : sorted l = true := by
  rw [sorted_iff]
  intro i hi
  have := List.pairwise_iff_getElem.1 h i (i + 1) (by omega) hi (by omega)
  rw [List.getD_eq_getElem?_getD, List.getElem?_eq_getElem (by omega), List.getD_eq_getElem?_getD, List.getElem?_eq_getElem hi]
  simp only [Option.getD_some]
  omega
theorem filt_succ (n : Nat) : ∀ sp : List Int, (sp.filter fun x => decide (0 ≤ x) && decide (x < ((n + 1 : Nat) : Int))).length = (sp.filter fun x => decide (0 ≤ x) && decide (x < (n : Int))).length + sp.count (n : Int)
  | [] => rfl
  | x :: r => by
    have ih := filt_succ n r
    by_cases hx : x = (n : Int)
    · subst hx
      rw [List.filter_cons_of_pos (by simp; omega), List.filter_cons_of_neg (by simp), List.count_cons_self, List.length_cons, ih]
      omega
    · have hc : (x :: r).count (n : Int) = r.count (n : Int) := List.count_cons_of_ne hx
      rw [hc]
      by_cases hy : 0 ≤ x ∧ x < (n : Int)
      · rw [List.filter_cons_of_pos (by simp; omega), List.filter_cons_of_pos (by simp; omega), List.length_cons, List.length_cons, ih]
        omega
      · rw [List.filter_cons_of_neg (by simp; omega), List.filter_cons_of_neg (by simp; omega), ih]
theorem states_flat (sp : List Int) : ∀ n : Nat, (statesL n sp).flatten.length = (sp.filter fun x => decide (0 ≤ x) && decide (x < (n : Int))).length
  | 0 => by
    have : sp.filter (fun x => decide (0 ≤ x) && decide (x < ((0 : Nat) : Int))) = [] := List.filter_eq_nil_iff.2 fun x _ => by simp
    rw [this]
    rfl
  | n + 1 => by
    have e : statesL (n + 1) sp = statesL n sp ++ [cellsL sp (n : Int)] := by unfold statesL; rw [List.range_succ, List.map_append]; rfl
    rw [e, List.flatten_append, List.length_append, states_flat sp n, filt_succ]
    have : [cellsL sp (n : Int)].flatten.length = sp.count (n : Int) := by simp [cellsL, cellsF_len]
    rw [this]
theorem enc_tok {g : Int} {l : List Int} (h : dchk g l = 0) : TOk g (encL g l) := by
  have hd := dchk0 h
  have hsz := szN_bd hd.g5 hd.g12
  rw [(enc_good h).2]
  refine ⟨by have := hd.g5; omega, hd.g12, by rw [← states_all, states_len]; exact hd.n2, List.all_eq_true.2 fun r hr => ?_, ?_, ?_, ?_⟩
  · unfold statesL at hr
    obtain ⟨k, _, rfl⟩ := List.mem_map.1 hr
    exact asc_sorted (cellsF_asc _ _ _)
  · show List.Pairwise _ _
    rw [List.pairwise_flatten]
    refine ⟨fun r hr => ?_, ?_⟩
    · unfold statesL at hr
      obtain ⟨k, _, rfl⟩ := List.mem_map.1 hr
      exact (cellsF_asc _ _ _).imp fun h => by omega
    · unfold statesL
      rw [List.pairwise_map]
      refine List.pairwise_lt_range.imp fun {a b} hab x hx y hy e => ?_
      subst e
      obtain ⟨i, _, h1, h2⟩ := cellsL_mem.1 hx
      obtain ⟨j, _, h3, h4⟩ := cellsL_mem.1 hy
      have : i = j := by omega
      subst this
      omega
  · intro c hc
    obtain ⟨r, hr, hc⟩ := List.mem_flatten.1 hc
    unfold statesL at hr
    obtain ⟨k, _, rfl⟩ := List.mem_map.1 hr
    obtain ⟨i, hi, _, rfl⟩ := cellsL_mem.1 hc
    rw [spr_len] at hi
    omega
  · rw [states_flat]
    have : (spr g l).filter (fun x => decide (0 ≤ x) && decide (x < (l.length : Int))) = spr g l := List.filter_eq_self.2 fun x hx => by
      obtain ⟨i, hi, rfl⟩ := List.getElem_of_mem hx
      rw [spr_len] at hi
      obtain ⟨s, h1, _, h2⟩ := spr_sym hd hi
      rw [List.getD_eq_getElem?_getD, List.getElem?_eq_getElem (by rw [spr_len]; exact hi)] at h2
      simp only [Option.getD_some] at h2
      rw [h2]
      simp
      omega
    rw [this, spr_len]
end Go.Proofs.Ytbdgknebimdjoaa
/-
  Chapter 12: what is asked ahead of a stream: conditions that hold. Conditions: each theorem's own.
-/
namespace Go.Proofs.Ytbdgknebimdjoaa
open Go Go.RowKit
set_option linter.unusedVariables false
set_option linter.unusedSimpArgs false
set_option maxRecDepth 100000
theorem noD_neg {p : List Int} {x : Int} (h : decide (x < 0) = true) : noD p x = true := by unfold noD; rw [h]; rfl
theorem noD_big {p : List Int} {x : Int} (h : decide (x ≥ (p.length : Int)) = true) : noD p x = true := by
  unfold noD
  have : decide ((p.length : Int) ≤ x) = true := h
  rw [this, Bool.or_true]
  rfl
theorem noD_in {p : List Int} {x : Int} (h : decide (x < 0) = false) (h2 : decide (x ≥ (p.length : Int)) = false) : (p.getD x.toNat 0 == 0) = noD p x := by
  unfold noD
  have : decide ((p.length : Int) ≤ x) = false := h2
  rw [h, this]
  rfl
theorem noDF_v (x g : Int) (p : List Int) (h0 : p.length ≤ 4294967296) : noDF_t x g p := by
  unfold noDF_t
  refine ⟨fun h => ⟨(noD_neg h).symm, (by first | rfl | trivial), (by first | rfl | trivial)⟩, fun h => ⟨fun h2 => ⟨(noD_big h2).symm, (by first | rfl | trivial), (by first | rfl | trivial)⟩, fun h2 => ⟨?_, ?_, noD_in h h2, (by first | rfl | trivial), (by first | rfl | trivial)⟩⟩⟩
  · simp only [decide_eq_false_iff_not] at h; omega
  · simp only [ge_iff_le, decide_eq_false_iff_not] at h2; omega
theorem any_at {q : Int → Bool} {l : List Int} {i : Nat} (h : i < l.length) (hq : q (l.getD i 0) = true) : false = !l.any q := by
  rw [List.any_eq_true.2 ⟨_, getD_mem' h, hq⟩]; rfl
theorem rcovF_v (g : Int) (p l : List Int) (h0 : p.length ≤ 4294967296) (h1 : l.length ≤ 4294967296) : rcovF_t g p l := by
  unfold rcovF_t
  refine ⟨⟨0, ⟨by omega, rfl⟩, (by first | rfl | trivial), (by first | rfl | trivial), (by first | rfl | trivial), (by first | rfl | trivial)⟩, fun i ⟨hi, ha⟩ => ⟨fun hlt => ?_, fun hge => ?_⟩⟩
  · have hlt : i < l.length := by simpa using hlt
    simp only [toNat_cast]
    refine ⟨by omega, by omega, fun h => any_at hlt (noD_neg h), fun h => ⟨by omega, by omega, fun h2 => any_at hlt (noD_big h2), fun h2 => ⟨by omega, by omega, ?_, ?_, fun h3 => ?_, fun h3 => ?_⟩⟩⟩
    · simp only [decide_eq_false_iff_not] at h; omega
    · simp only [ge_iff_le, decide_eq_false_iff_not] at h2; omega
    · rw [noD_in h h2] at h3
      exact any_at hlt h3
    · rw [noD_in h h2] at h3
      refine ⟨i + 1, ⟨by omega, ?_⟩, by rw [Nat.sub_eq, Nat.sub_eq]; omega, (by first | rfl | trivial), by rw [wr (by omega) (by omega)]; rfl, (by first | rfl | trivial), (by first | rfl | trivial)⟩
      rw [take_succ l 0 hlt, List.any_append, ha]
      simp only [List.any_cons, List.any_nil, h3]
      rfl
  · have : i = l.length := by simp only [decide_eq_false_iff_not] at hge; omega
    subst this
    rw [List.take_length] at ha
    rw [ha]
    rfl
theorem idxD_v (l : List Int) (g : Int) (p : List Int) (h0 : l.length ≤ 4294967296) (h1 : p.length ≤ 4294967296) : idxD_t l g p := by
  unfold idxD_t
  refine ⟨⟨0, ⟨by omega, rfl⟩, (by first | rfl | trivial), (by first | rfl | trivial), (by first | rfl | trivial), (by first | rfl | trivial), (by first | rfl | trivial)⟩, fun i ⟨hi, ha⟩ => ⟨fun hlt => ?_, fun hge => ?_⟩⟩
  · have hlt : i < l.length := by simpa using hlt
    simp only [toNat_cast]
    refine ⟨by omega, by omega, h1, fun hn => ?_, fun hn => ?_⟩
    · obtain ⟨k1, k2⟩ := findIdx_at (noD p) l i hlt ha hn
      rw [k1, k2]
      exact ⟨rfl, (by first | rfl | trivial), (by first | rfl | trivial)⟩
    · refine ⟨i + 1, ⟨by omega, ?_⟩, by rw [Nat.sub_eq, Nat.sub_eq]; omega, (by first | rfl | trivial), (by first | rfl | trivial), by rw [wr (by omega) (by omega)]; rfl, (by first | rfl | trivial), (by first | rfl | trivial)⟩
      rw [take_succ l 0 hlt, List.any_append, ha]
      simp only [List.any_cons, List.any_nil, hn]
      rfl
  · have : i = l.length := by simp only [decide_eq_false_iff_not] at hge; omega
    subst this
    rw [List.take_length] at ha
    rw [ha]
    exact ⟨rfl, (by first | rfl | trivial), (by first | rfl | trivial)⟩
theorem hasD_v (l : List Int) (g : Int) (p : List Int) (h0 : l.length ≤ 4294967296) (h1 : p.length ≤ 4294967296) : hasD_t l g p := by
  unfold hasD_t
  refine ⟨h0, h1, ?_, (by first | rfl | trivial), (by first | rfl | trivial)⟩
  cases l.any (noD p)
  · rfl
  · rw [cond_true]; exact decide_eq_true (by omega)
theorem ask_v {g : Int} {p l : List Int} {c : Int} (h0 : p.length ≤ 4294967296) (h1 : l.length ≤ 4294967296) : raskF_t g p l c := by
  unfold raskF_t askE
  refine ⟨h0, fun h => by rw [ne0 h]; rfl, fun h => ?_⟩
  rw [beq0 (eq0 h)]
  refine ⟨fun hl => ?_, fun hl => ⟨fun hc => ?_, fun hc => ⟨h0, h1, fun ha => ?_, fun ha => ?_⟩⟩⟩
  · rw [decide_eq_true (show 100000 < l.length by simp only [gt_iff_lt, decide_eq_true_eq] at hl; omega)]; rfl
  all_goals rw [decide_eq_false (show ¬ 100000 < l.length by simp only [gt_iff_lt, decide_eq_false_iff_not] at hl; omega)]
  · rw [hc]; rfl
  · rw [hc]
    rw [Bool.not_not] at ha
    rw [ha]; rfl
  · rw [hc]
    rw [Bool.not_not] at ha
    rw [ha]; rfl
theorem cov_v {g : Int} {p l : List Int} (h0 : p.length ≤ 4294967296) (h1 : l.length ≤ 4294967296) : rcovE_t g p l := by
  unfold rcovE_t covB
  refine ⟨h0, fun h => ⟨by rw [ne0 h]; rfl, (by first | rfl | trivial)⟩, fun h => ⟨h0, h1, by rw [beq0 (eq0 h)]; rfl, (eq0 h).symm⟩⟩
theorem noDF_sound : Sound Try.prog 111 sNoDc.ctr := sNoDc.sound (by kernel_rfl) sNoDc_enc fun ⟨x, g, p⟩ hc => by
  have h0 := hc _ (.head _)
  exact satG AllOk.nil mixed Try.func111 (noDF_e x g p) (noDF_v x g p h0)
theorem rcovF_sound : Sound Try.prog 82 sCovD.ctr := sCovD.sound (by kernel_rfl) sCovD_enc fun ⟨g, p, l⟩ hc => by
  have h0 := hc _ (.head _)
  have h1 := hc _ (.tail _ (.head _))
  exact satG AllOk.nil mixed Try.func82 (rcovF_e g p l) (rcovF_v g p l h0 h1)
theorem look_app {c : Ctr} : ∀ (A B : List (Nat × Ctr)) (f : Nat), lookupL (A ++ B) f = some c → lookupL A f = some c ∨ lookupL B f = some c
  | [], _, _, h => .inr h
  | (i, y) :: r, B, f, h => by
    simp only [List.cons_append, lookupL] at h ⊢
    cases hb : Nat.beq f i
    · rw [hb] at h; exact look_app r B f h
    · rw [hb] at h; exact .inl h
theorem all_app {P : Program} {A B : List (Nat × Ctr)} (hA : AllOk P A) (hB : AllOk P B) : AllOk P (A ++ B) := fun f c h => (look_app A B f h).elim (hA f c) (hB f c)
theorem GFd_ok : AllOk Try.prog GFd := .cons noDF_sound <| .cons rcovF_sound <| all_app GFc_ok GEk_ok
theorem idxD_sound : Sound Try.prog 98 sIdxD.ctr := sIdxD.sound (by kernel_rfl) sIdxD_enc fun ⟨l, g, p⟩ hc => by
  have h0 := hc _ (.head _)
  have h1 := hc _ (.tail _ (.head _))
  exact satG GFd_ok mixed Try.func98 (idxD_e l g p) (idxD_v l g p h0 h1)
theorem raskF_sound : Sound Try.prog 78 sAsk.ctr := sAsk.sound (by kernel_rfl) sAsk_enc fun ⟨g, p, l, c⟩ hc => by
  have h0 := hc _ (.head _)
  have h1 := hc _ (.tail _ (.head _))
  exact satG GFd_ok mixed Try.func78 (raskF_e g p l c) (ask_v h0 h1)
theorem rcovE_sound : Sound Try.prog 48 sCovE.ctr := sCovE.sound (by kernel_rfl) sCovE_enc fun ⟨g, p, l⟩ hc => by
  have h0 := hc _ (.head _)
  have h1 := hc _ (.tail _ (.head _))
  exact satG GFd_ok mixed Try.func48 (rcovE_e g p l) (cov_v h0 h1)
theorem GFe_ok : AllOk Try.prog GFe := .cons idxD_sound <| .cons raskF_sound <| .cons rcovE_sound GFd_ok
theorem hasD_sound : Sound Try.prog 63 sHasD.ctr := sHasD.sound (by kernel_rfl) sHasD_enc fun ⟨l, g, p⟩ hc => by
  have h0 := hc _ (.head _)
  have h1 := hc _ (.tail _ (.head _))
  exact satG GFe_ok mixed Try.func63 (hasD_e l g p) (hasD_v l g p h0 h1)
theorem GFf_ok : AllOk Try.prog GFf := .cons hasD_sound GFe_ok
theorem covF_sound : Sound Try.prog 81 sCovD.ctr := sCovD.sound (by kernel_rfl) sCovD_enc fun ⟨g, p, l⟩ hc => by
  have h0 := hc _ (.head _)
  have h1 := hc _ (.tail _ (.head _))
  exact satG GFf_ok mixed Try.func81 (covF_e g p l) (⟨h1, h0, rfl⟩)
end Go.Proofs.Ytbdgknebimdjoaa
/-
  Chapter 11: the symbols of a distribution's table are the distribution's. Conditions: each theorem's own.
-/
namespace Go.Proofs.Ytbdgknebimdjoaa
open Go Go.RowKit
set_option linter.unusedVariables false
set_option linter.unusedSimpArgs false
set_option maxRecDepth 100000
theorem spr_has {g : Int} {l : List Int} (h : DOk g l) {s : Nat} (hs : s < l.length) (hne : l.getD s 0 ≠ 0) : (s : Int) ∈ spr g l := by
  rw [(spr_perm h).mem_iff, List.mem_append]
  by_cases hr : isR (l.getD s 0) = true
  · left
    have := lowF_at l 0 s hs hr
    rw [Int.zero_add] at this
    exact List.mem_of_getElem? this
  · right
    have hp : 0 < (l.getD s 0).toNat := by
      have := h.lo _ (getD_mem' hs)
      unfold isR at hr
      simp only [beq_iff_eq, decide_eq_true_eq, Bool.not_eq_true] at hr
      first | omega | (simp at hr; omega)
    have := hiF_at hs hp
    exact List.mem_of_getElem? this
theorem noC_enc {g : Int} {l : List Int} (h : dchk g l = 0) (s : Int) : noC (encL g l) s = noD l s := by
  have hd := dchk0 h
  have hlen : (statesL l.length (spr g l)).length = l.length := by rw [← states_all, states_len]
  rw [(enc_good h).2]
  by_cases hs : s < 0 ∨ (l.length : Int) ≤ s
  · have e : noD l s = true := by
      rcases hs with hs | hs
      · exact noD_neg (decide_eq_true hs)
      · exact noD_big (decide_eq_true hs)
    rw [e]
    exact noC_iff.2 (by rw [celT_out (by rw [hlen]; exact hs)]; rfl)
  · have h0 : 0 ≤ s := by omega
    have h1 : s < l.length := by omega
    obtain ⟨k, rfl⟩ := Int.eq_ofNat_of_zero_le h0
    have hk : k < l.length := by omega
    have ec : celT (statesL l.length (spr g l)) (k : Int) = cellsL (spr g l) (k : Int) := by
      rw [celT_in (by omega) (by rw [hlen]; exact h1), toNat_cast, ← states_all, states_get hk, cellsP_all]
    have en := noD_in (p := l) (x := (k : Int)) (decide_eq_false (by omega)) (decide_eq_false (by omega))
    rw [toNat_cast] at en
    rw [← en]
    by_cases hz : l.getD k 0 = 0
    · rw [hz]
      exact noC_iff.2 (by rw [ec, cells_zero hd hk hz]; rfl)
    · have e2 : (l.getD k 0 == 0) = false := beq_eq_false_iff_ne.2 hz
      rw [e2]
      cases hb : noC (statesL l.length (spr g l)) (k : Int)
      · rfl
      · have hl := noC_iff.1 hb
        rw [ec] at hl
        have hc : (cellsL (spr g l) (k : Int)).length = (spr g l).count (k : Int) := cellsF_len _ _ _
        have := List.count_pos_iff.2 (spr_has hd hk hz)
        omega
theorem enc_echk {g : Int} {l : List Int} (h : dchk g l = 0) : echk g (encL g l) = 0 := echk0' (enc_tok h)
theorem enc_lit {g : Int} {l : List Int} (h : dchk g l = 0) : litT g (encL g l) = true := by
  have ht := enc_tok h
  have hs := sz0 ht.g0 ht.g12
  unfold litT
  rw [decide_eq_true (show (encL g l).flatten.length ≤ 65536 by rw [ht.w.len]; omega), Bool.or_true]
end Go.Proofs.Ytbdgknebimdjoaa
/-
  Chapter 12: bounds of the states and of the writer. Conditions: each theorem's own.
-/
namespace Go.Proofs.Ytbdgknebimdjoaa
open Go Go.RowKit
set_option linter.unusedVariables false
set_option linter.unusedSimpArgs false
set_option maxRecDepth 100000
structure FwB (g : Int) (t : List (List Int)) (l : List Int) (c k : Nat) : Prop where
  len : (fwX g t l c k).length = 2
  x0 : ∀ j, 0 ≤ (fwX g t l c k).getD j 0
  x1 : ∀ j, (fwX g t l c k).getD j 0 < (szN g : Int)
  n0 : 0 ≤ fwN g t l c k
  n7 : fwN g t l c k ≤ 7
  p0 : 0 ≤ fwP g t l c k
  p1 : fwP g t l c k < 2 ^ (fwN g t l c k).toNat
  size : (fwS g t l c k).size ≤ 2 * k
theorem getD_set' {l : List Int} {i j : Nat} {x : Int} (P : Int → Prop) (h0 : P 0) (hx : P x) (hl : ∀ j, P (l.getD j 0)) : P ((l.set i x).getD j 0) := by
  rw [List.getD_eq_getElem?_getD, List.getElem?_set]
  split
  · split
    · exact hx
    · exact h0
  · have := hl j
    rw [List.getD_eq_getElem?_getD] at this
    exact this
theorem blt_t {a b : Nat} (h : a < b) : Nat.blt a b = true := by unfold Nat.blt; exact Nat.ble_eq_true_of_le h
theorem blt_f {a b : Nat} (h : ¬ a < b) : Nat.blt a b = false := by
  cases hb : Nat.blt a b
  · rfl
  · exact absurd (Nat.le_of_ble_eq_true hb) h
theorem fw_first {g : Int} {t : List (List Int)} {l : List Int} {c k : Nat} (h : k < c) : fwR g t l c (k + 1) = ((fwX g t l c k).set (nthI l k % c) ((celT t (nthS l k)).getD 0 0), (fwR g t l c k).2) := by
  show cond (Nat.blt k c) _ _ = _
  rw [blt_t h]
  rfl
theorem fw_put {g : Int} {t : List (List Int)} {l : List Int} {c k : Nat} (h : ¬ k < c) : fwR g t l c (k + 1) = ((fwX g t l c k).set (nthI l k % c) (putS g t ((fwX g t l c k).getD (nthI l k % c) 0) (nthS l k)),
    putWr (fwR g t l c k).2 (putN g t ((fwX g t l c k).getD (nthI l k % c) 0) (nthS l k)) (putV g t ((fwX g t l c k).getD (nthI l k % c) 0) (nthS l k))) := by
  show cond (Nat.blt k c) _ _ = _
  rw [blt_f h]
  rfl
theorem put_nums {g : Int} {t : List (List Int)} {x s p n : Int} (hT : TOk g t) (hx0 : 0 ≤ x) (hx1 : x < (szN g : Int)) (hn : noC t s = false) (n0 : 0 ≤ n) (n7 : n ≤ 7) (p0 : 0 ≤ p) (p1 : p < 2 ^ n.toNat) : PutN p n (putN g t x s) (putV g t x s) := by
  have hb := put_bd hT hx0 hx1 hn
  exact ⟨n0, n7, p0, p1, hb.1, by omega, Int.emod_nonneg _ (by have := pow_pos' (putN g t x s).toNat; omega), Int.emod_lt_of_pos _ (pow_pos' _)⟩
theorem fw_bd {g : Int} {t : List (List Int)} {l : List Int} {c : Nat} (hT : TOk g t) (hn : l.any (noC t) = false) : ∀ k, k ≤ l.length → FwB g t l c k
  | 0, _ => by
    have hz := szN_pos g
    have h2 : ∀ j, ([0, 0] : List Int).getD j 0 = 0 := fun j => by
      match j with
      | 0 => rfl
      | 1 => rfl
      | j + 2 => rfl
    exact ⟨rfl, fun j => by show 0 ≤ ([0, 0] : List Int).getD j 0; rw [h2]; exact Int.le_refl _, fun j => by show ([0, 0] : List Int).getD j 0 < _; rw [h2]; omega, Int.le_refl _, by show (0 : Int) ≤ 7; decide, Int.le_refl _, by show (0 : Int) < 2 ^ (0 : Int).toNat; decide, by show ByteArray.empty.size ≤ _; exact Nat.zero_le _⟩
  | k + 1, hk => by
    have ih := fw_bd (c := c) hT hn k (by omega)
    have hs : noC t (nthS l k) = false := any_get hn (by unfold nthI; omega)
    have hz := szN_pos g
    have hx0 := ih.x0 (nthI l k % c)
    have hx1 := ih.x1 (nthI l k % c)
    by_cases hc : k < c
    · have e := fw_first (g := g) (t := t) (l := l) hc
      have hb := cel_any hT (nthS l k) 0
      have eX : fwX g t l c (k + 1) = (fwX g t l c k).set (nthI l k % c) ((celT t (nthS l k)).getD 0 0) := congrArg Prod.fst e
      have eS : fwS g t l c (k + 1) = fwS g t l c k := congrArg (fun r => r.2.1) e
      have eP : fwP g t l c (k + 1) = fwP g t l c k := congrArg (fun r => r.2.2.1) e
      have eN : fwN g t l c (k + 1) = fwN g t l c k := congrArg (fun r => r.2.2.2) e
      exact ⟨by rw [eX, List.length_set]; exact ih.len, fun j => by rw [eX]; exact getD_set' (fun z => 0 ≤ z) (Int.le_refl _) hb.1 ih.x0, fun j => by rw [eX]; exact getD_set' (fun z => z < (szN g : Int)) (by omega) hb.2 ih.x1,
        by rw [eN]; exact ih.n0, by rw [eN]; exact ih.n7, by rw [eP]; exact ih.p0, by rw [eP, eN]; exact ih.p1, by rw [eS]; have := ih.size; omega⟩
    · have e := fw_put (g := g) (t := t) (l := l) hc
      have hp := put_nums (s := nthS l k) hT hx0 hx1 hs ih.n0 ih.n7 ih.p0 ih.p1
      have hb := put_bd hT hx0 hx1 hs
      obtain ⟨q0, q1⟩ := hp.P
      obtain ⟨r0, r1, r2⟩ := wM_eq ih.n0 hb.1
      have hc2 := cel_any hT (nthS l k) (putX g ((fwX g t l c k).getD (nthI l k % c) 0) / 2 ^ (putN g t ((fwX g t l c k).getD (nthI l k % c) 0) (nthS l k)).toNat - (celT t (nthS l k)).length).toNat
      have eX : fwX g t l c (k + 1) = (fwX g t l c k).set (nthI l k % c) (putS g t ((fwX g t l c k).getD (nthI l k % c) 0) (nthS l k)) := congrArg Prod.fst e
      have eS : fwS g t l c (k + 1) = wS (fwS g t l c k) (fwP g t l c k) (fwN g t l c k) (putN g t ((fwX g t l c k).getD (nthI l k % c) 0) (nthS l k)) (putV g t ((fwX g t l c k).getD (nthI l k % c) 0) (nthS l k)) := congrArg (fun r => r.2.1) e
      have eP : fwP g t l c (k + 1) = wP (fwP g t l c k) (fwN g t l c k) (putN g t ((fwX g t l c k).getD (nthI l k % c) 0) (nthS l k)) (putV g t ((fwX g t l c k).getD (nthI l k % c) 0) (nthS l k)) := congrArg (fun r => r.2.2.1) e
      have eN : fwN g t l c (k + 1) = wN (fwN g t l c k) (putN g t ((fwX g t l c k).getD (nthI l k % c) 0) (nthS l k)) := congrArg (fun r => r.2.2.2) e
      exact ⟨by rw [eX, List.length_set]; exact ih.len, fun j => by rw [eX]; exact getD_set' (fun z => 0 ≤ z) (Int.le_refl _) hc2.1 ih.x0, fun j => by rw [eX]; exact getD_set' (fun z => z < (szN g : Int)) (by omega) hc2.2 ih.x1,
        by rw [eN]; exact r1, by rw [eN]; exact r2, by rw [eP]; exact q0, by rw [eP, eN]; exact q1, by rw [eS, wS_size]; have := ih.size; have := ih.n7; omega⟩
end Go.Proofs.Ytbdgknebimdjoaa
/-
  Chapter 12: who has a state. Conditions: each theorem's own.
-/
namespace Go.Proofs.Ytbdgknebimdjoaa
open Go Go.RowKit
set_option linter.unusedVariables false
set_option linter.unusedSimpArgs false
set_option maxRecDepth 100000
theorem fwG_len (l : List Int) (c : Nat) : ∀ k, (fwG l c k).length = 2
  | 0 => rfl
  | k + 1 => by
    show ((fwG l c k).set (nthI l k % c) true).length = 2
    rw [List.length_set, fwG_len l c k]
theorem fwG_keep (l : List Int) (c : Nat) (k : Nat) {j : Nat} (h : (fwG l c k).getD j false = true) : (fwG l c (k + 1)).getD j false = true := by
  show ((fwG l c k).set (nthI l k % c) true).getD j false = true
  rw [List.getD_eq_getElem?_getD] at h ⊢
  rw [List.getElem?_set]
  split
  · split
    · rfl
    · rename_i h1 h2
      subst h1
      rw [List.getElem?_eq_none (by omega)] at h
      cases h
  · exact h
theorem fwG_new (l : List Int) (c : Nat) (k : Nat) {j : Nat} (hj : j < 2) (h : nthI l k % c = j) : (fwG l c (k + 1)).getD j false = true := by
  show ((fwG l c k).set (nthI l k % c) true).getD j false = true
  rw [List.getD_eq_getElem?_getD, List.getElem?_set, if_pos h, if_pos (by rw [h, fwG_len]; exact hj)]
  rfl
end Go.Proofs.Ytbdgknebimdjoaa
/-
  Chapter 12: a list's stream is written. Conditions: each theorem's own.
-/
namespace Go.Proofs.Ytbdgknebimdjoaa
open Go Go.RowKit
set_option linter.unusedVariables false
set_option linter.unusedSimpArgs false
set_option maxRecDepth 100000
theorem fwG_keeps {l : List Int} {c k j : Nat} (h : (fwG l c k).getD j false = true) : ∀ m, (fwG l c (k + m)).getD j false = true
  | 0 => h
  | m + 1 => fwG_keep l c (k + m) (fwG_keeps h m)
theorem fwG_has {l : List Int} {c k : Nat} (hc : c = 1 ∨ c = 2) (hn : c ≤ l.length) (hk : k < l.length) : (fwG l c k).getD (nthI l k % c) false = Nat.ble c k := by
  by_cases h : c ≤ k
  · have e : nthI l (k - c) % c = nthI l k % c := by
      unfold nthI
      rw [show l.length - 1 - (k - c) = l.length - 1 - k + c by omega, Nat.add_mod_right]
    have hl : nthI l k % c < 2 := by
      have := Nat.mod_lt (nthI l k) (show c > 0 by omega)
      omega
    have := fwG_keeps (fwG_new l c (k - c) hl e) (c - 1)
    rw [show k - c + 1 + (c - 1) = k by omega] at this
    rw [this, Nat.ble_eq_true_of_le h]
  · have hb : Nat.ble c k = false := by
      cases hb : Nat.ble c k
      · rfl
      · exact absurd (Nat.le_of_ble_eq_true hb) h
    rw [hb]
    have h0 : ∀ j, ([false, false] : List Bool).getD j false = false := fun j => by
      match j with
      | 0 => rfl
      | 1 => rfl
      | j + 2 => rfl
    cases k with
    | zero => exact h0 _
    | succ k =>
      have : k = 0 ∧ c = 2 := by omega
      obtain ⟨rfl, rfl⟩ := this
      show ([false, false].set (nthI l 0 % 2) true).getD (nthI l (0 + 1) % 2) false = false
      have e1 : nthI l 0 = nthI l (0 + 1) + 1 := by unfold nthI; omega
      rw [e1]
      rcases Nat.mod_two_eq_zero_or_one (nthI l (0 + 1)) with h | h
      · rw [h, show (nthI l (0 + 1) + 1) % 2 = 1 by omega]; rfl
      · rw [h, show (nthI l (0 + 1) + 1) % 2 = 0 by omega]; rfl
structure AskOk (g : Int) (p l : List Int) (c : Nat) : Prop where
  d : dchk g p = 0
  hi : l.length ≤ 100000
  lo : c ≤ l.length
  no : l.any (noD p) = false
theorem ask0 {g : Int} {p l : List Int} {c : Nat} (h : askE g p l (c : Int) = 0) : AskOk g p l c := by
  unfold askE at h
  cases hd : dchk g p == 0
  · rw [hd] at h
    exact absurd h (by simpa using hd)
  rw [hd, cond_true] at h
  cases h1 : decide (100000 < l.length)
  · rw [h1, cond_false] at h
    cases h2 : decide ((l.length : Int) < (c : Int))
    · rw [h2, cond_false] at h
      cases h3 : l.any (noD p)
      · simp only [decide_eq_false_iff_not] at h1 h2
        exact ⟨by simpa using hd, by omega, by omega, h3⟩
      · rw [h3, cond_true] at h; exact absurd h (by decide)
    · rw [h2, cond_true] at h; exact absurd h (by decide)
  · rw [h1, cond_true] at h; exact absurd h (by decide)
theorem AskOk.T {g : Int} {p l : List Int} {c : Nat} (h : AskOk g p l c) : TOk g (encL g p) := enc_tok h.d
theorem AskOk.nc {g : Int} {p l : List Int} {c : Nat} (h : AskOk g p l c) : l.any (noC (encL g p)) = false := by
  have := h.no
  rw [← this]
  exact congrArg (List.any l) (funext fun s => noC_enc h.d s)
theorem AskOk.len {g : Int} {p l : List Int} {c : Nat} (h : AskOk g p l c) : (encL g p).length ≤ 4294967296 := by
  have := h.T.n
  omega
theorem pu_ok {g : Int} {t : List (List Int)} {x s : Int} (hc : echk g t = 0) (h0 : 0 ≤ x) (h1 : x < (szN g : Int)) (hn : noC t s = false) : puS g t x s = putS g t x s ∧ puB g t x s = putN g t x s ∧ puV g t x s = putV g t x s := by
  refine pu_good ?_
  rw [puE_st hc, stE_in h0 h1]
  unfold celM
  rw [hn]
  rfl
theorem noC_ne {t : List (List Int)} {s : Int} (hn : noC t s = false) : (celT t s).length ≠ 0 := by
  intro h
  unfold noC at hn
  rw [h] at hn
  cases hn
theorem fr_ok {g : Int} {t : List (List Int)} {s : Int} (hc : echk g t = 0) (hn : noC t s = false) : frI g t s = (celT t s).getD 0 0 := (fr_good hc (noC_ne hn)).2
/-! ### the states behind the rest -/
structure FfB (g : Int) (t : List (List Int)) (l : List Int) (c m : Nat) : Prop where
  n0 : 0 ≤ ffN g t l c m
  n7 : ffN g t l c m ≤ 7
  p0 : 0 ≤ ffP g t l c m
  p1 : ffP g t l c m < 2 ^ (ffN g t l c m).toNat
  size : (ffS g t l c m).size ≤ 2 * l.length + 3 * m
def lstX (g : Int) (t : List (List Int)) (l : List Int) (c m : Nat) : Int := (fwX g t l c l.length).getD (c - 1 - m) 0
theorem ff_S (g : Int) (t : List (List Int)) (l : List Int) (c m : Nat) : ffS g t l c (m + 1) = wS (ffS g t l c m) (ffP g t l c m) (ffN g t l c m) g (lstX g t l c m) := rfl
theorem ff_P (g : Int) (t : List (List Int)) (l : List Int) (c m : Nat) : ffP g t l c (m + 1) = wP (ffP g t l c m) (ffN g t l c m) g (lstX g t l c m) := rfl
theorem ff_N (g : Int) (t : List (List Int)) (l : List Int) (c m : Nat) : ffN g t l c (m + 1) = wN (ffN g t l c m) g := rfl
theorem ff_num {g : Int} {t : List (List Int)} {l : List Int} {c m : Nat} (hT : TOk g t) (hn : l.any (noC t) = false) (n0 : 0 ≤ ffN g t l c m) (n7 : ffN g t l c m ≤ 7) (p0 : 0 ≤ ffP g t l c m) (p1 : ffP g t l c m < 2 ^ (ffN g t l c m).toNat) (j : Nat) :
    PutN (ffP g t l c m) (ffN g t l c m) g ((fwX g t l c l.length).getD j 0) := by
  have hb := fw_bd (c := c) hT hn l.length (Nat.le_refl _)
  have := hb.x1 j
  rw [szI] at this
  exact ⟨n0, n7, p0, p1, hT.g0, by have := hT.g12; omega, hb.x0 j, this⟩
theorem ff_bd {g : Int} {t : List (List Int)} {l : List Int} {c : Nat} (hT : TOk g t) (hn : l.any (noC t) = false) : ∀ m, FfB g t l c m
  | 0 => by
    have hb := fw_bd (c := c) hT hn l.length (Nat.le_refl _)
    exact ⟨hb.n0, hb.n7, hb.p0, hb.p1, by have := hb.size; show (fwS g t l c l.length).size ≤ _; omega⟩
  | m + 1 => by
    have ih := ff_bd (c := c) hT hn m
    have hp := ff_num hT hn ih.n0 ih.n7 ih.p0 ih.p1 (c - 1 - m)
    obtain ⟨q0, q1⟩ := hp.P
    obtain ⟨r0, r1, r2⟩ := wM_eq ih.n0 hT.g0
    have := hT.g12
    have := ih.n7
    have := ih.size
    exact ⟨by rw [ff_N]; exact r1, by rw [ff_N]; exact r2, by rw [ff_P]; exact q0, by rw [ff_P, ff_N]; exact q1, by rw [ff_S, wS_size]; omega⟩
theorem bkw_isat (k : Nat) (l : List Int) (h0 : l.length ≤ 4294967296) : ISat Try.prog 139 [.p k 0 0] [(k, .cells 22 [.dat (.ints .i64 l)])] (itBk l) := by
  have h0 : ISat Try.prog 139 [.p 0 0 0] [(0, .cells 22 [.dat (.ints .i64 l)])] (itBk l) :=
    isat_of_vcI (Ωi := fun l0 => oBkwF l0 l) AllOk.nil mixed Try.func139 (by kernel_rfl) fun l0 => by
      have := bkwI_v l h0 l0
      rw [bkwI_e] at this
      exact this
  exact h0.ren (fun i => k + i) (by intro a b _ _ e; omega) rfl rfl
theorem tmod_nat (a b : Nat) : Int.tmod (a : Int) (b : Int) = ((a % b : Nat) : Int) := (Int.ofNat_tmod a b).symm
theorem itBk_len (l : List Int) : (itBk l).length = l.length := by unfold itBk; rw [List.length_map, List.length_range]
theorem itBk_at {l : List Int} {k : Nat} (h : k < l.length) : (itBk l)[k]? = some [.int .i64 (nthI l k : Nat), .int .i64 (nthS l k)] := by
  unfold itBk
  rw [List.getElem?_map, List.getElem?_range h]
  rfl
theorem x_u64 {g x : Int} (h0 : 0 ≤ x) (h1 : x < (szN g : Int)) (hg : szN g ≤ 4096) : IntKind.wrap IntKind.u64 x = x := wru h0 (by omega)
theorem v_u64 {x : Int} {n : Nat} (h0 : 0 ≤ x) (h1 : x < 2 ^ n) (hn : n ≤ 32) : IntKind.wrap IntKind.u64 x = x := wru h0 (by have := pow_mono hn; simp at this; omega)
end Go.Proofs.Ytbdgknebimdjoaa
/-
  Chapter 12: fse.write has its contract. Conditions: each theorem's own.
-/
namespace Go.Proofs.Ytbdgknebimdjoaa
open Go Go.RowKit
set_option linter.unusedVariables false
set_option linter.unusedSimpArgs false
set_option maxRecDepth 100000
theorem fwrF_v (g : Int) (p l : List Int) (c : Nat) (ha : askE g p l (c : Int) = 0) (hc : c = 1 ∨ c = 2) : fwrF_t g p l c := by
  have hA := ask0 ha
  have hT := hA.T
  have hn := hA.nc
  have hd := dchk0 hA.d
  have hel := hA.len
  have hlit := enc_lit hA.d
  have heG := (enc_good hA.d).1
  have hck := enc_echk hA.d
  have hsz := sz0 hT.g0 hT.g12
  have hlo := hA.lo
  have hhi := hA.hi
  have hpl := hd.n2
  unfold fwrF_t
  simp only [tmod_nat, toNat_cast]
  refine ⟨by omega, (), bkw_isat 600008 l (by omega), (by first | rfl | trivial), trivial, ⟨(by first | rfl | trivial), (by first | rfl | trivial), (by first | rfl | trivial), (by first | rfl | trivial), (by first | rfl | trivial), (by first | rfl | trivial), heG, (by first | rfl | trivial), (by first | rfl | trivial), (by first | rfl | trivial), (by first | rfl | trivial), (by first | rfl | trivial), (by first | rfl | trivial)⟩, fun i hi _ => ?_, fun _ => ⟨⟨0, Nat.zero_le _, ?_⟩, fun m hm => ⟨fun h => ?_, fun h => ?_⟩⟩⟩
  · have hi : i < l.length := by
      have := itBk_len l
      unfold itBk at this
      omega
    have hb := fw_bd (c := c) hT hn i (by omega)
    have hG := fwG_has hc hlo hi
    have hgl := fwG_len l c i
    have hxl := hb.len
    have hm : nthI l i % c < 2 := by
      have := Nat.mod_lt (nthI l i) (show c > 0 by omega)
      omega
    have hs : noC (encL g p) (nthS l i) = false := any_get hn (by unfold nthI; omega)
    refine ⟨itBk_at hi, rfl, by omega, by omega, by omega, by omega, fun h => ?_, fun h => ?_⟩
    · rw [hG] at h
      have hic : i < c := by
        cases hb : Nat.ble c i
        · have : ¬ c ≤ i := fun h2 => by rw [Nat.ble_eq_true_of_le h2] at hb; cases hb
          omega
        · rw [hb] at h; cases h
      have e := fw_first (g := g) (t := encL g p) (l := l) hic
      have eX : (fwX g (encL g p) l c i).set (nthI l i % c) (frI g (encL g p) (nthS l i)) = fwX g (encL g p) l c (i + 1) := by
        rw [fr_ok hck hs]; exact (congrArg Prod.fst e).symm
      have eS : fwS g (encL g p) l c i = fwS g (encL g p) l c (i + 1) := (congrArg (fun r => r.2.1) e).symm
      have eP : fwP g (encL g p) l c i = fwP g (encL g p) l c (i + 1) := (congrArg (fun r => r.2.2.1) e).symm
      have eN : fwN g (encL g p) l c i = fwN g (encL g p) l c (i + 1) := (congrArg (fun r => r.2.2.2) e).symm
      (repeat' (refine And.intro ?_ ?_)) <;> first | assumption | omega | exact True.intro | rfl
    · rw [hG] at h
      have hic : ¬ i < c := by
        cases hb : Nat.ble c i
        · rw [hb] at h; cases h
        · have := Nat.le_of_ble_eq_true hb; omega
      have e := fw_put (g := g) (t := encL g p) (l := l) hic
      have hx0 := hb.x0 (nthI l i % c)
      have hx1 := hb.x1 (nthI l i % c)
      obtain ⟨pS, pB, pV⟩ := pu_ok (s := nthS l i) hck hx0 hx1 hs
      have hp := put_nums (s := nthS l i) hT hx0 hx1 hs hb.n0 hb.n7 hb.p0 hb.p1
      rw [pS, pB, pV, v_u64 hp.v0 hp.v1 (by have := hp.k1; omega)]
      have eX : (fwX g (encL g p) l c i).set (nthI l i % c) (putS g (encL g p) ((fwX g (encL g p) l c i).getD (nthI l i % c) 0) (nthS l i)) = fwX g (encL g p) l c (i + 1) := (congrArg Prod.fst e).symm
      have eS : wS (fwS g (encL g p) l c i) (fwP g (encL g p) l c i) (fwN g (encL g p) l c i) (putN g (encL g p) ((fwX g (encL g p) l c i).getD (nthI l i % c) 0) (nthS l i)) (putV g (encL g p) ((fwX g (encL g p) l c i).getD (nthI l i % c) 0) (nthS l i)) = fwS g (encL g p) l c (i + 1) := (congrArg (fun r => r.2.1) e).symm
      have eP : wP (fwP g (encL g p) l c i) (fwN g (encL g p) l c i) (putN g (encL g p) ((fwX g (encL g p) l c i).getD (nthI l i % c) 0) (nthS l i)) (putV g (encL g p) ((fwX g (encL g p) l c i).getD (nthI l i % c) 0) (nthS l i)) = fwP g (encL g p) l c (i + 1) := (congrArg (fun r => r.2.2.1) e).symm
      have eN : wN (fwN g (encL g p) l c i) (putN g (encL g p) ((fwX g (encL g p) l c i).getD (nthI l i % c) 0) (nthS l i)) = fwN g (encL g p) l c (i + 1) := (congrArg (fun r => r.2.2.2) e).symm
      have eG : fwG l c i = fwG l c (i + 1) := by
        show fwG l c i = (fwG l c i).set (nthI l i % c) true
        have h1 : (fwG l c i)[nthI l i % c]? = some true := by
          rw [Nat.ble_eq_true_of_le (by omega)] at hG
          rw [List.getD_eq_getElem?_getD] at hG
          cases hx : (fwG l c i)[nthI l i % c]? with
          | none => rw [hx] at hG; cases hG
          | some b => rw [hx] at hG; simp only [Option.getD_some] at hG; rw [hG]
        refine List.ext_getElem? fun j => ?_
        rw [List.getElem?_set]
        split
        · rename_i hj
          subst hj
          rw [h1, if_pos (by omega)]
        · rfl
      have hsz2 := hb.size
      obtain ⟨q1, q2, q3, q4, q5, q6, q7, q8⟩ := hp
      (repeat' (refine And.intro ?_ ?_)) <;> first | assumption | omega | exact True.intro | rfl
  · have e := itBk_len l
    unfold itBk at e
    rw [e]
    rw [wr (by omega) (by omega)]
    (repeat' (refine And.intro ?_ ?_)) <;> first | omega | rfl
  · have hb := fw_bd (c := c) hT hn l.length (Nat.le_refl _)
    have hf := ff_bd (c := c) hT hn m
    have hp := ff_num hT hn hf.n0 hf.n7 hf.p0 hf.p1 (c - 1 - m)
    have hxl := hb.len
    simp only [nle] at hm ⊢
    simp only [ge_iff_le, decide_eq_true_eq] at h
    have ej : ((c : Int) - 1 - (m : Int)).toNat = c - 1 - m := by omega
    rw [ej]
    have hp2 := hp
    obtain ⟨q1, q2, q3, q4, q5, q6, q7, q8⟩ := hp2
    rw [v_u64 q7 q8 (by omega)]
    have hsz2 := hf.size
    refine ⟨by omega, by omega, by omega, q1, q2, q3, q4, q5, q6, q7, q8, by omega, m + 1, by omega, by rw [Nat.sub_eq, Nat.sub_eq]; omega, by rw [wr (by omega) (by omega)]; omega, (by first | rfl | trivial), (by first | rfl | trivial), (by first | rfl | trivial), (by first | rfl | trivial), (by first | rfl | trivial), (ff_S _ _ _ _ _).symm, (ff_P _ _ _ _ _).symm, (ff_N _ _ _ _ _).symm, (by first | rfl | trivial)⟩
  · simp only [nle] at hm
    simp only [ge_iff_le, decide_eq_false_iff_not] at h
    have : m = c := by omega
    subst this
    exact ⟨rfl, rfl, rfl⟩
theorem fwrF_sound : Sound Try.prog 76 sFwr.ctr := sFwr.sound (by kernel_rfl) sFwr_enc fun ⟨g, p, l, c⟩ hc => by
  have h0 := hc _ (.head _)
  have h1 := hc _ (.tail _ (.head _))
  rcases h1 with rfl | rfl
  · exact satG GFf_ok mixed Try.func76 (fwrF_e g p l 1) (fwrF_v g p l 1 h0 (.inl rfl))
  · exact satG GFf_ok mixed Try.func76 (fwrF_e g p l 2) (fwrF_v g p l 2 h0 (.inr rfl))
theorem GFg_ok : AllOk Try.prog GFg := .cons covF_sound <| .cons fwrF_sound GFf_ok
theorem askF_v {g : Int} {p l : List Int} {c : Int} (h0 : p.length ≤ 4294967296) (h1 : l.length ≤ 4294967296) : askF_t g p l c := ask_v h0 h1
theorem covE_v {g : Int} {p l : List Int} (h0 : p.length ≤ 4294967296) (h1 : l.length ≤ 4294967296) : covE_t g p l := cov_v h0 h1
theorem askF_sound : Sound Try.prog 75 sAsk.ctr := sAsk.sound (by kernel_rfl) sAsk_enc fun ⟨g, p, l, c⟩ hc => by
  have h0 := hc _ (.head _)
  have h1 := hc _ (.tail _ (.head _))
  exact satG GFg_ok mixed Try.func75 (askF_e g p l c) (askF_v h0 h1)
theorem covE_sound : Sound Try.prog 47 sCovE.ctr := sCovE.sound (by kernel_rfl) sCovE_enc fun ⟨g, p, l⟩ hc => by
  have h0 := hc _ (.head _)
  have h1 := hc _ (.tail _ (.head _))
  exact satG GFg_ok mixed Try.func47 (covE_e g p l) (covE_v h0 h1)
theorem GFh_ok : AllOk Try.prog GFh := .cons askF_sound <| .cons covE_sound GFg_ok
end Go.Proofs.Ytbdgknebimdjoaa
/-
  Chapter 12: the streams and costs of lists. Conditions: each theorem's own.
-/
namespace Go.Proofs.Ytbdgknebimdjoaa
open Go Go.RowKit
set_option linter.unusedVariables false
set_option linter.unusedSimpArgs false
set_option maxRecDepth 100000
theorem wrt_bad {g : Int} {p l : List Int} {c : Nat} (h : (askE g p l (c : Int) != (0 : Int)) = true) : ByteArray.empty = wrtS g p l c := by
  unfold wrtS
  rw [ne0 h]
  rfl
theorem wrt_good {g : Int} {p l : List Int} {c : Nat} (h : askE g p l (c : Int) = 0) : fulS g p l c = wrtS g p l c := by
  unfold wrtS
  rw [beq0 h]
  rfl
theorem wrt1F_v (g : Int) (p l : List Int) (h0 : p.length ≤ 4294967296) (h1 : l.length ≤ 4294967296) : wrt1F_t g p l := by
  unfold wrt1F_t
  refine ⟨h0, h1, fun h => ⟨wrt_bad (c := 1) h, rfl⟩, fun h => ?_⟩
  have ha := eq0 h
  have hA := ask0 (c := 1) ha
  have hf := ff_bd (c := 1) hA.T hA.nc 1
  have hs := hf.size
  have hi := hA.hi
  exact ⟨ha, .inl rfl, hf.n0, hf.n7, hf.p0, hf.p1, by show (ffS g (encL g p) l 1 1).size ≤ 1000000; omega, wrt_good (c := 1) ha, ha.symm⟩
theorem wrt2F_v (g : Int) (p l : List Int) (h0 : p.length ≤ 4294967296) (h1 : l.length ≤ 4294967296) : wrt2F_t g p l := by
  unfold wrt2F_t
  refine ⟨h0, h1, fun h => ⟨wrt_bad (c := 2) h, rfl⟩, fun h => ?_⟩
  have ha := eq0 h
  have hA := ask0 (c := 2) ha
  have hf := ff_bd (c := 2) hA.T hA.nc 2
  have hs := hf.size
  have hi := hA.hi
  exact ⟨ha, .inr rfl, hf.n0, hf.n7, hf.p0, hf.p1, by show (ffS g (encL g p) l 2 2).size ≤ 1000000; omega, wrt_good (c := 2) ha, ha.symm⟩
theorem getD_set0 {l : List Int} (h : 0 < l.length) (x : Int) : (l.set 0 x).getD 0 0 = x := by
  rw [List.getD_eq_getElem?_getD, List.getElem?_set_self h]
  rfl
theorem wS_bits (s : ByteArray) (p n k v : Int) (h0 : 0 ≤ n) (h1 : 0 ≤ k) : 8 * ((wS s p n k v).size : Int) + wN n k = 8 * (s.size : Int) + n + k := by
  obtain ⟨e, _, _⟩ := wM_eq h0 h1
  rw [wS_size]
  push_cast
  omega
/-- one state: a run -/
theorem fw_run {g : Int} {t : List (List Int)} {l : List Int} (hT : TOk g t) (hn : l.any (noC t) = false) : ∀ k, k < l.length → (fwX g t l 1 (k + 1)).getD 0 0 = (runL g t (l.drop (nthI l k))).1 ∧
    8 * ((fwS g t l 1 (k + 1)).size : Int) + fwN g t l 1 (k + 1) = (runL g t (l.drop (nthI l k))).2
  | 0, hk => by
    have e := fw_first (g := g) (t := t) (l := l) (c := 1) (k := 0) (by omega)
    have e1 : nthI l 0 = l.length - 1 := rfl
    have hx := (fw_bd (c := 1) hT hn 0 (by omega)).len
    have eX : fwX g t l 1 (0 + 1) = (fwX g t l 1 0).set (nthI l 0 % 1) ((celT t (nthS l 0)).getD 0 0) := congrArg Prod.fst e
    rw [Nat.mod_one] at eX
    rw [eX, getD_set0 (by omega), e1, run_last (by omega)]
    exact ⟨rfl, rfl⟩
  | k + 1, hk => by
    obtain ⟨i1, i2⟩ := fw_run hT hn k (by omega)
    have e := fw_put (g := g) (t := t) (l := l) (c := 1) (k := k + 1) (by omega)
    have hb := fw_bd (c := 1) hT hn (k + 1) (by omega)
    have hs : noC t (nthS l (k + 1)) = false := any_get hn (by unfold nthI; omega)
    rw [Nat.mod_one] at e
    have hpb := put_bd hT (hb.x0 0) (hb.x1 0) hs
    have eI : nthI l (k + 1) + 1 = nthI l k := by unfold nthI; omega
    have hr := run_step (g := g) (t := t) (l := l) (k := nthI l (k + 1)) (by unfold nthI; omega)
    rw [eI, ← i1] at hr
    have eX : fwX g t l 1 (k + 1 + 1) = (fwX g t l 1 (k + 1)).set 0 (putS g t ((fwX g t l 1 (k + 1)).getD 0 0) (nthS l (k + 1))) := congrArg Prod.fst e
    have eS : fwS g t l 1 (k + 1 + 1) = wS (fwS g t l 1 (k + 1)) (fwP g t l 1 (k + 1)) (fwN g t l 1 (k + 1)) (putN g t ((fwX g t l 1 (k + 1)).getD 0 0) (nthS l (k + 1))) (putV g t ((fwX g t l 1 (k + 1)).getD 0 0) (nthS l (k + 1))) := congrArg (fun r => r.2.1) e
    have eN : fwN g t l 1 (k + 1 + 1) = wN (fwN g t l 1 (k + 1)) (putN g t ((fwX g t l 1 (k + 1)).getD 0 0) (nthS l (k + 1))) := congrArg (fun r => r.2.2.2) e
    rw [eX, getD_set0 (by have := hb.len; omega), hr, eS, eN, wS_bits _ _ _ _ _ hb.n0 hpb.1, i2]
    exact ⟨rfl, rfl⟩
theorem cos_eq {g : Int} {p l : List Int} (ha : askE g p l 1 = 0) : 8 * ((ffS g (encL g p) l 1 1).size : Int) + ffN g (encL g p) l 1 1 = cosN g p l ∧ ruE g (encL g p) l = 0 ∧ cosN g p l = ruN g (encL g p) l + g := by
  have hA := ask0 (c := 1) ha
  have hT := hA.T
  have hlo := hA.lo
  have hck := enc_echk hA.d
  have hr := ru_good hck (by have := hA.hi; omega) (by omega) hA.nc
  have hv := (ru_vals hr).2.1
  obtain ⟨r1, r2⟩ := fw_run hT hA.nc (l.length - 1) (by omega)
  have eI : nthI l (l.length - 1) = 0 := by unfold nthI; omega
  rw [eI, List.drop_zero, show l.length - 1 + 1 = l.length by omega] at r2
  have e3 : cosN g p l = ruN g (encL g p) l + g := by
    unfold cosN
    rw [beq0 ha]
    rfl
  have hb := fw_bd (c := 1) hT hA.nc l.length (Nat.le_refl _)
  refine ⟨?_, hr, e3⟩
  rw [e3, ← hv, ← r2, ff_S, ff_N, wS_bits _ _ _ _ _ (ff_bd hT hA.nc 0).n0 hT.g0]
  rfl
theorem cos_bad {g : Int} {p l : List Int} (h : (askE g p l 1 != (0 : Int)) = true) : 0 = cosN g p l := by
  unfold cosN
  rw [ne0 h]
  rfl
theorem cosF_v (g : Int) (p l : List Int) (h0 : p.length ≤ 4294967296) (h1 : l.length ≤ 4294967296) : cosF_t g p l := by
  unfold cosF_t
  refine ⟨h0, h1, fun h => ⟨cos_bad h, rfl⟩, fun h => ?_⟩
  have ha := eq0 h
  have hA := ask0 (c := 1) ha
  have hf := ff_bd (c := 1) hA.T hA.nc 1
  have hs := hf.size
  have hi := hA.hi
  have hn7 := hf.n7
  have hn0 := hf.n0
  have e := (cos_eq ha).1
  refine ⟨ha, .inl rfl, ?_, ha.symm⟩
  show IntKind.wrap IntKind.i64 (IntKind.wrap IntKind.i64 (8 * ((ffS g (encL g p) l 1 1).size : Int)) + ffN g (encL g p) l 1 1) = _
  rw [show IntKind.wrap IntKind.i64 (8 * ((ffS g (encL g p) l 1 1).size : Int)) = 8 * ((ffS g (encL g p) l 1 1).size : Int) from wr (by omega) (by omega), wr (by omega) (by omega), e]
theorem rcosF_v (g : Int) (p l : List Int) (h0 : p.length ≤ 4294967296) (h1 : l.length ≤ 4294967296) : rcosF_t g p l := by
  unfold rcosF_t
  refine ⟨h0, h1, fun h => ⟨cos_bad h, rfl⟩, fun h => ?_⟩
  have ha := eq0 h
  have hA := ask0 (c := 1) ha
  have hf := ff_bd (c := 1) hA.T hA.nc 1
  have hs := hf.size
  have hi := hA.hi
  have hn7 := hf.n7
  have hn0 := hf.n0
  obtain ⟨e, er, e3⟩ := cos_eq ha
  rw [(enc_good hA.d).1]
  refine ⟨h0, hA.len, enc_lit hA.d, h1, ?_, by rw [er, ha]⟩
  rw [← e3, wr (by omega) (by omega)]
theorem rwrt1F_v (g : Int) (p l : List Int) (h0 : p.length ≤ 4294967296) (h1 : l.length ≤ 4294967296) : rwrt1F_t g p l := by
  unfold rwrt1F_t
  refine ⟨h0, h1, fun h => ⟨wrt_bad (c := 1) h, rfl⟩, fun h => ?_⟩
  have ha := eq0 h
  have hA := ask0 (c := 1) ha
  have hT := hA.T
  have hn := hA.nc
  have hlo := hA.lo
  have hhi := hA.hi
  have hlit := enc_lit hA.d
  have hck := enc_echk hA.d
  have hel := hA.len
  rw [(enc_good hA.d).1]
  rw [show IntKind.wrap IntKind.i64 ((l.length : Int) - 1) = ((nthI l 0 : Nat) : Int) by rw [wr (by omega) (by omega)]; unfold nthI; omega]
  have hI0 : nthI l 0 = l.length - 1 := rfl
  refine ⟨h0, by omega, by omega, hel, hlit, ⟨1, ⟨by omega, by omega, ha⟩, rfl, ?_, by rw [wr (by omega) (by omega)]; omega, rfl, rfl, rfl, rfl, ?_⟩, fun k ⟨hk1, hk2, _⟩ => ⟨fun h => ?_, fun h => ?_⟩⟩
  · have e := fw_first (g := g) (t := encL g p) (l := l) (c := 1) (k := 0) (by omega)
    have hx := (fw_bd (c := 1) hT hn 0 (by omega)).len
    have eX : fwX g (encL g p) l 1 1 = (fwX g (encL g p) l 1 0).set (nthI l 0 % 1) ((celT (encL g p) (nthS l 0)).getD 0 0) := congrArg Prod.fst e
    rw [Nat.mod_one] at eX
    rw [toNat_cast, eX, getD_set0 (by omega)]
    exact fr_ok hck (any_get hn (by unfold nthI; omega))
  · exact ⟨rfl, rfl, rfl⟩
  · have hk : k < l.length := by simp only [ge_iff_le, decide_eq_true_eq] at h; omega
    rw [show (l.length : Int) - 1 - (k : Int) = ((nthI l k : Nat) : Int) by unfold nthI; omega, toNat_cast]
    have hb := fw_bd (c := 1) hT hn k (by omega)
    have hs : noC (encL g p) (l.getD (nthI l k) 0) = false := any_get hn (by unfold nthI; omega)
    obtain ⟨pS, pB, pV⟩ := pu_ok hck (hb.x0 0) (hb.x1 0) hs
    have hp := put_nums hT (hb.x0 0) (hb.x1 0) hs hb.n0 hb.n7 hb.p0 hb.p1
    rw [pS, pB, pV, v_u64 hp.v0 hp.v1 (by have := hp.k1; omega)]
    have e := fw_put (g := g) (t := encL g p) (l := l) (c := 1) (k := k) (by omega)
    rw [Nat.mod_one] at e
    have eX : fwX g (encL g p) l 1 (k + 1) = (fwX g (encL g p) l 1 k).set 0 (putS g (encL g p) ((fwX g (encL g p) l 1 k).getD 0 0) (nthS l k)) := congrArg Prod.fst e
    have hsz := hb.size
    obtain ⟨q1, q2, q3, q4, q5, q6, q7, q8⟩ := hp
    have hI : nthI l k = l.length - 1 - k := rfl
    refine ⟨by omega, by omega, hel, hlit, q1, q2, q3, q4, q5, q6, q7, q8, by omega, k + 1, ⟨by omega, by omega, ha⟩, by rw [Nat.sub_eq, Nat.sub_eq]; omega, rfl, ?_, by rw [wr (by omega) (by omega)]; omega, rfl, rfl, rfl, rfl, (congrArg (fun r => r.2.1) e).symm, (congrArg (fun r => r.2.2.1) e).symm, (congrArg (fun r => r.2.2.2) e).symm⟩
    rw [eX, getD_set0 (by have := hb.len; omega)]
    rfl
  · have hk : k = l.length := by simp only [ge_iff_le, decide_eq_false_iff_not] at h; omega
    subst hk
    have hf := ff_bd (c := 1) hT hn 0
    have hf1 := ff_bd (c := 1) hT hn 1
    have hp := ff_num hT hn hf.n0 hf.n7 hf.p0 hf.p1 0
    have hs0 := hf.size
    have hs1 := hf1.size
    obtain ⟨q1, q2, q3, q4, q5, q6, q7, q8⟩ := hp
    rw [v_u64 q7 q8 (by omega)]
    exact ⟨q1, q2, q3, q4, q5, q6, q7, q8, by show (ffS g (encL g p) l 1 0).size ≤ 1000000; omega, hf1.n0, hf1.n7, hf1.p0, hf1.p1, by show (ffS g (encL g p) l 1 1).size ≤ 1000000; omega, wrt_good (c := 1) ha, ha.symm⟩
theorem tmod2 (a : Nat) : Int.tmod (a : Int) 2 = ((a % 2 : Nat) : Int) := tmod_nat a 2
theorem rwrt2F_v (g : Int) (p l : List Int) (h0 : p.length ≤ 4294967296) (h1 : l.length ≤ 4294967296) : rwrt2F_t g p l := by
  unfold rwrt2F_t
  refine ⟨h0, h1, fun h => ⟨wrt_bad (c := 2) h, rfl⟩, fun h => ?_⟩
  have ha := eq0 h
  have hA := ask0 (c := 2) ha
  have hT := hA.T
  have hn := hA.nc
  have hlo := hA.lo
  have hhi := hA.hi
  have hlit := enc_lit hA.d
  have hck := enc_echk hA.d
  have hel := hA.len
  rw [(enc_good hA.d).1]
  rw [show IntKind.wrap IntKind.i64 ((l.length : Int) - 1) = ((nthI l 0 : Nat) : Int) by rw [wr (by omega) (by omega)]; unfold nthI; omega]
  rw [show IntKind.wrap IntKind.i64 ((l.length : Int) - 2) = ((nthI l 1 : Nat) : Int) by rw [wr (by omega) (by omega)]; unfold nthI; omega]
  simp only [tmod2, toNat_cast]
  have hI0 : nthI l 0 = l.length - 1 := rfl
  have hI1 : nthI l 1 = l.length - 1 - 1 := rfl
  have hs0 : noC (encL g p) (l.getD (nthI l 0) 0) = false := any_get hn (by omega)
  have hs1 : noC (encL g p) (l.getD (nthI l 1) 0) = false := any_get hn (by omega)
  rw [fr_ok hck hs0, fr_ok hck hs1]
  have m0 := Nat.mod_lt (nthI l 0) (show 2 > 0 by omega)
  have m1 := Nat.mod_lt (nthI l 1) (show 2 > 0 by omega)
  refine ⟨h0, by omega, by omega, by omega, hel, hlit, by omega, by omega, m0, by omega, by omega, by omega, hel, hlit, by omega, by omega, by rw [List.length_set, List.length_replicate]; exact m1, ⟨2, ⟨by omega, by omega, ha⟩, (by first | rfl | trivial), by rw [wr (by omega) (by omega)]; omega, (by first | rfl | trivial), (by first | rfl | trivial), (by first | rfl | trivial), (by first | rfl | trivial), (by first | rfl | trivial), (by first | rfl | trivial), (by first | rfl | trivial), (by first | rfl | trivial)⟩, fun k ⟨hk1, hk2, _⟩ => ⟨fun h => ?_, fun h => ?_⟩⟩
  · have hk : k < l.length := by simp only [ge_iff_le, decide_eq_true_eq] at h; omega
    rw [show (l.length : Int) - 1 - (k : Int) = ((nthI l k : Nat) : Int) by unfold nthI; omega]
    simp only [tmod2, toNat_cast]
    have hb := fw_bd (c := 2) hT hn k (by omega)
    have hs : noC (encL g p) (l.getD (nthI l k) 0) = false := any_get hn (by unfold nthI; omega)
    have hx0 := hb.x0 (nthI l k % 2)
    have hx1 := hb.x1 (nthI l k % 2)
    obtain ⟨pS, pB, pV⟩ := pu_ok hck hx0 hx1 hs
    have hp := put_nums hT hx0 hx1 hs hb.n0 hb.n7 hb.p0 hb.p1
    rw [pS, pB, pV, v_u64 hp.v0 hp.v1 (by have := hp.k1; omega)]
    have e := fw_put (g := g) (t := encL g p) (l := l) (c := 2) (k := k) (by omega)
    have hsz := hb.size
    have hxl := hb.len
    have mk := Nat.mod_lt (nthI l k) (show 2 > 0 by omega)
    obtain ⟨q1, q2, q3, q4, q5, q6, q7, q8⟩ := hp
    have hI : nthI l k = l.length - 1 - k := rfl
    refine ⟨by omega, by omega, by omega, by omega, by omega, by omega, hel, hlit, q1, q2, q3, q4, q5, q6, q7, q8, by omega, by omega, by omega, by omega, by omega, k + 1, ⟨by omega, by omega, ha⟩, by rw [Nat.sub_eq, Nat.sub_eq]; omega, (by first | rfl | trivial), by rw [wr (by omega) (by omega)]; omega, (by first | rfl | trivial), (by first | rfl | trivial), (by first | rfl | trivial), (by first | rfl | trivial), (congrArg Prod.fst e).symm, (congrArg (fun r => r.2.1) e).symm, (congrArg (fun r => r.2.2.1) e).symm, (congrArg (fun r => r.2.2.2) e).symm⟩
  · have hk : k = l.length := by simp only [ge_iff_le, decide_eq_false_iff_not] at h; omega
    subst hk
    rw [show Int.toNat (1 : Int) = 1 from rfl, show Int.toNat (0 : Int) = 0 from rfl]
    have hb := fw_bd (c := 2) hT hn l.length (Nat.le_refl _)
    have hf := ff_bd (c := 2) hT hn 0
    have hf1 := ff_bd (c := 2) hT hn 1
    have hf2 := ff_bd (c := 2) hT hn 2
    have hp := ff_num hT hn hf.n0 hf.n7 hf.p0 hf.p1 1
    have hq := ff_num hT hn hf1.n0 hf1.n7 hf1.p0 hf1.p1 0
    have hs0 := hf.size
    have hs1 := hf1.size
    have hxl := hb.len
    obtain ⟨q1, q2, q3, q4, q5, q6, q7, q8⟩ := hp
    obtain ⟨u1, u2, u3, u4, u5, u6, u7, u8⟩ := hq
    rw [v_u64 q7 q8 (by omega), v_u64 u7 u8 (by omega)]
    have hs2 := hf2.size
    exact ⟨by omega, by omega, by omega, q1, q2, q3, q4, q5, q6, q7, q8, by show (ffS g (encL g p) l 2 0).size ≤ 1000000; omega, by omega, by omega, by omega, u1, u2, u3, u4, u5, u6, u7, u8, by show (ffS g (encL g p) l 2 1).size ≤ 1000000; omega, hf2.n0, hf2.n7, hf2.p0, hf2.p1, by show (ffS g (encL g p) l 2 2).size ≤ 1000000; omega, wrt_good (c := 2) ha, ha.symm⟩
theorem wrt1F_sound : Sound Try.prog 40 sWrt1.ctr := sWrt1.sound (by kernel_rfl) sWrt1_enc fun ⟨g, p, l⟩ hc => by
  have h0 := hc _ (.head _)
  have h1 := hc _ (.tail _ (.head _))
  exact satG GFh_ok mixed Try.func40 (wrt1F_e g p l) (wrt1F_v g p l h0 h1)
theorem wrt2F_sound : Sound Try.prog 44 sWrt2.ctr := sWrt2.sound (by kernel_rfl) sWrt2_enc fun ⟨g, p, l⟩ hc => by
  have h0 := hc _ (.head _)
  have h1 := hc _ (.tail _ (.head _))
  exact satG GFh_ok mixed Try.func44 (wrt2F_e g p l) (wrt2F_v g p l h0 h1)
theorem cosF_sound : Sound Try.prog 37 sCos.ctr := sCos.sound (by kernel_rfl) sCos_enc fun ⟨g, p, l⟩ hc => by
  have h0 := hc _ (.head _)
  have h1 := hc _ (.tail _ (.head _))
  exact satG GFh_ok mixed Try.func37 (cosF_e g p l) (cosF_v g p l h0 h1)
theorem rwrt1F_sound : Sound Try.prog 43 sWrt1.ctr := sWrt1.sound (by kernel_rfl) sWrt1_enc fun ⟨g, p, l⟩ hc => by
  have h0 := hc _ (.head _)
  have h1 := hc _ (.tail _ (.head _))
  exact satG GFe_ok mixed Try.func43 (rwrt1F_e g p l) (rwrt1F_v g p l h0 h1)
theorem rwrt2F_sound : Sound Try.prog 45 sWrt2.ctr := sWrt2.sound (by kernel_rfl) sWrt2_enc fun ⟨g, p, l⟩ hc => by
  have h0 := hc _ (.head _)
  have h1 := hc _ (.tail _ (.head _))
  exact satG GFe_ok mixed Try.func45 (rwrt2F_e g p l) (rwrt2F_v g p l h0 h1)
theorem rcosF_sound : Sound Try.prog 46 sCos.ctr := sCos.sound (by kernel_rfl) sCos_enc fun ⟨g, p, l⟩ hc => by
  have h0 := hc _ (.head _)
  have h1 := hc _ (.tail _ (.head _))
  exact satG GFe_ok mixed Try.func46 (rcosF_e g p l) (rcosF_v g p l h0 h1)
def GFi : List (Nat × Ctr) := (40, sWrt1.ctr) :: (44, sWrt2.ctr) :: (37, sCos.ctr) :: (43, sWrt1.ctr) :: (45, sWrt2.ctr) :: (46, sCos.ctr) :: GFh
theorem GFi_ok : AllOk Try.prog GFi := .cons wrt1F_sound <| .cons wrt2F_sound <| .cons cosF_sound <| .cons rwrt1F_sound <| .cons rwrt2F_sound <| .cons rcosF_sound GFh_ok
end Go.Proofs.Ytbdgknebimdjoaa
/-
  Chapter 12: the law of streams that are written: contracts. Conditions: none (definitions).
-/
namespace Go.Proofs.Ytbdgknebimdjoaa
open Go Go.RowKit
set_option linter.unusedVariables false
set_option linter.unusedSimpArgs false
set_option maxRecDepth 100000
def sEven : Spec where
  ι := Unit
  dec l H := match l with
    | [] => some ((), [])
    | _ => none
  args := fun _ => []
  out := fun _ => .leaf (.ag [.v (.int .i64 5), .dat (.ints .i64 [16, 16])]) []
theorem sEven_enc : ∀ l H n i ls, sEven.dec l H = some (i, ls) → l = renL (rho ls n) (sEven.args i) ∧ givenHp H ls = renH (rho ls n) (sEven.hp i) := by
  intro l H n i ls h
  simp only [sEven] at h
  repeat' split at h
  all_goals first
    | (cases h; done)
    | (cases h; exact ⟨rfl, rfl⟩)
def sFour : Spec where
  ι := Unit
  dec l H := match l with
    | [] => some ((), [])
    | _ => none
  args := fun _ => []
  out := fun _ => .leaf (.dat (.ints .i64 [0, 1, 1, 0])) []
theorem sFour_enc : ∀ l H n i ls, sFour.dec l H = some (i, ls) → l = renL (rho ls n) (sFour.args i) ∧ givenHp H ls = renH (rho ls n) (sFour.hp i) := by
  intro l H n i ls h
  simp only [sFour] at h
  repeat' split at h
  all_goals first
    | (cases h; done)
    | (cases h; exact ⟨rfl, rfl⟩)
def sLiD : Spec where
  ι := Int × List Int
  dec l H := match l with
    | [.ag [.v (.int .i64 g), .dat (.ints .i64 p)]] => some ((g, p), [])
    | _ => none
  args := fun (g, p) => [.ag [.v (.int .i64 g), .dat (.ints .i64 p)]]
  out := fun (g, p) => .leaf (.v (.bool (liD g p))) []
theorem sLiD_enc : ∀ l H n i ls, sLiD.dec l H = some (i, ls) → l = renL (rho ls n) (sLiD.args i) ∧ givenHp H ls = renH (rho ls n) (sLiD.hp i) := by
  intro l H n i ls h
  simp only [sLiD] at h
  repeat' split at h
  all_goals first
    | (cases h; done)
    | (cases h; exact ⟨rfl, rfl⟩)
def GFj : List (Nat × Ctr) := (57, sEven.ctr) :: (58, sFour.ctr) :: (41, sLiD.ctr) :: GFi
def GFk : List (Nat × Ctr) := (39, sAwake.ctr) :: GFj
/-! ### conditions
--%VC evenF ;;  ;; [] ;; fun _ => none ;; law12.even ;; [] ;; [] ;; (.ag [.v (.int .i64 5), .dat (.ints .i64 [16, 16])]) ;; []
--%VC fourF ;;  ;; [] ;; fun _ => none ;; law12.four ;; [] ;; [] ;; (.dat (.ints .i64 [0, 1, 1, 0])) ;; []
--%VC liDF ;; (g : Int) (p : List Int) ;; [] ;; fun _ => none ;; law12.light ;; [.ag [.v (.int .i64 g), .dat (.ints .i64 p)]] ;; [] ;; (.v (.bool (liD g p))) ;; []
--%VC awkF ;;  ;; GFj ;; fun _ => none ;; law12.awake ;; [] ;; [] ;; (.v (.bool true)) ;; []
--%VC lwWr ;; (g : Int) (p l : List Int) ;; GFk ;; fun _ => none ;; law12.FseWrites ;; [.ag [.v (.int .i64 g), .dat (.ints .i64 p)], .dat (.ints .i64 l)] ;; [] ;; (.v (.bool true)) ;; []
-/
end Go.Proofs.Ytbdgknebimdjoaa
/-
  The conditions of the functions told in the text before, and that they are the executor's. Conditions: none.
-/
namespace Go.Proofs.Ytbdgknebimdjoaa
open Go Go.RowKit
set_option linter.unusedVariables false
set_option maxRecDepth 100000
def evenF_t  : Prop :=
 (5 : Int) = (5 : Int) ∧ [(16 : Int), (16 : Int)] = [(16 : Int), (16 : Int)]
--end
theorem evenF_e  : evenF_t  = vcG Try.prog (Gof []) (fun _ => none) Try.f57 [] [] (.leaf ((.ag [.v (.int .i64 5), .dat (.ints .i64 [16, 16])])) ([])) := by kernel_rfl
def fourF_t  : Prop :=
 [(0 : Int), (1 : Int), (1 : Int), (0 : Int)] = [(0 : Int), (1 : Int), (1 : Int), (0 : Int)]
--end
theorem fourF_e  : fourF_t  = vcG Try.prog (Gof []) (fun _ => none) Try.f58 [] [] (.leaf ((.dat (.ints .i64 [0, 1, 1, 0]))) ([])) := by kernel_rfl
def liDF_t (g : Int) (p : List Int) : Prop :=
 (decide ((↑(List.length p) : Int) ≤ (60 : Int)) = true → (decide (g ≤ (9 : Int)) = true → true = liD g p) ∧ (decide (g ≤ (9 : Int)) = false → decide (g > (12 : Int)) = liD g p)) ∧
 (decide ((↑(List.length p) : Int) ≤ (60 : Int)) = false → false = liD g p)
--end
theorem liDF_e (g : Int) (p : List Int) : liDF_t g p = vcG Try.prog (Gof []) (fun _ => none) Try.f41 [.ag [.v (.int .i64 g), .dat (.ints .i64 p)]] [] (.leaf ((.v (.bool (liD g p)))) ([])) := by kernel_rfl
def awkF_t  : Prop :=
 List.length [(16 : Int), (16 : Int)] ≤ (4294967296 : Nat) ∧
 List.length [(0 : Int), (1 : Int), (1 : Int), (0 : Int)] ≤ (4294967296 : Nat) ∧
 ((cosN (5 : Int) [(16 : Int), (16 : Int)] [(0 : Int), (1 : Int), (1 : Int), (0 : Int)] == (8 : Int)) = true →
 (askE (5 : Int) [(16 : Int), (16 : Int)] [(0 : Int), (1 : Int), (1 : Int), (0 : Int)] (1 : Int) == (0 : Int)) = true) ∧
 ((cosN (5 : Int) [(16 : Int), (16 : Int)] [(0 : Int), (1 : Int), (1 : Int), (0 : Int)] == (8 : Int)) = false → false = true)
--end
theorem awkF_e  : awkF_t  = vcG Try.prog (Gof GFj) (fun _ => none) Try.f39 [] [] (.leaf ((.v (.bool true))) ([])) := by kernel_rfl
def lwWr_t (g : Int) (p l : List Int) : Prop :=
 ((!liD g p) = true → true = true) ∧
 ((!liD g p) = false →
 (decide ((↑(List.length l) : Int) > (200 : Int)) = true → true = true) ∧
 (decide ((↑(List.length l) : Int) > (200 : Int)) = false →
 List.length l ≤ (4294967296 : Nat) ∧
 List.length p ≤ (4294967296 : Nat) ∧
 List.length l ≤ (4294967296 : Nat) ∧
 List.length p ≤ (4294967296 : Nat) ∧
 List.length l ≤ (4294967296 : Nat) ∧
 ((!ByteArray.toList (wrtS g p l (1 : Nat)) == ByteArray.toList (wrtS g p l (1 : Nat))) = true → false = true) ∧
 ((!ByteArray.toList (wrtS g p l (1 : Nat)) == ByteArray.toList (wrtS g p l (1 : Nat))) = false →
 ((askE g p l (1 : Int) != askE g p l (1 : Int)) = true → false = true) ∧
 ((askE g p l (1 : Int) != askE g p l (1 : Int)) = false →
 List.length p ≤ (4294967296 : Nat) ∧
 List.length l ≤ (4294967296 : Nat) ∧
 List.length p ≤ (4294967296 : Nat) ∧
 List.length l ≤ (4294967296 : Nat) ∧
 ((!ByteArray.toList (wrtS g p l (2 : Nat)) == ByteArray.toList (wrtS g p l (2 : Nat))) = true → false = true) ∧
 ((!ByteArray.toList (wrtS g p l (2 : Nat)) == ByteArray.toList (wrtS g p l (2 : Nat))) = false →
 ((askE g p l (2 : Int) != askE g p l (2 : Int)) = true → false = true) ∧
 ((askE g p l (2 : Int) != askE g p l (2 : Int)) = false →
 List.length p ≤ (4294967296 : Nat) ∧
 List.length l ≤ (4294967296 : Nat) ∧
 List.length p ≤ (4294967296 : Nat) ∧
 List.length l ≤ (4294967296 : Nat) ∧
 List.length p ≤ (4294967296 : Nat) ∧
 List.length l ≤ (4294967296 : Nat) ∧
 List.length p ≤ (4294967296 : Nat) ∧
 List.length l ≤ (4294967296 : Nat) ∧
 ((cosN g p l == cosN g p l) = true →
 ((askE g p l (1 : Int) == askE g p l (1 : Int)) = true →
 ((covB g p l == covB g p l) = true →
 ((dchk g p == dchk g p) = true →
 List.length l ≤ (4294967296 : Nat) ∧ (eqI l l = true → true = true) ∧ (eqI l l = false → false = true)) ∧
 ((dchk g p == dchk g p) = false → false = true)) ∧
 ((covB g p l == covB g p l) = false → false = true)) ∧
 ((askE g p l (1 : Int) == askE g p l (1 : Int)) = false → false = true)) ∧
 ((cosN g p l == cosN g p l) = false → false = true)))))))
--end
theorem lwWr_e (g : Int) (p l : List Int) : lwWr_t g p l = vcG Try.prog (Gof GFk) (fun _ => none) Try.f7 [.ag [.v (.int .i64 g), .dat (.ints .i64 p)], .dat (.ints .i64 l)] [] (.leaf ((.v (.bool true))) ([])) := by kernel_rfl
end Go.Proofs.Ytbdgknebimdjoaa
/-
  Chapter 11: the laws that need no reader hold. Conditions: each theorem's own.
-/
namespace Go.Proofs.Ytbdgknebimdjoaa
open Go Go.RowKit
set_option linter.unusedVariables false
set_option linter.unusedSimpArgs false
set_option maxRecDepth 100000
theorem sameL_refl (a : List (List Int)) : sameL a a = true := by unfold sameL; simp
theorem eqI_refl (l : List Int) : eqI l l = true := by unfold eqI; simp
theorem flat_le {t : List (List Int)} {B : Nat} : (∀ r ∈ t, r.length ≤ B) → t.flatten.length ≤ t.length * B := by
  induction t with
  | nil => intro _; simp
  | cons r t ih =>
    intro h
    have h1 := h r (by simp)
    have h2 := ih fun r hr => h r (by simp [hr])
    simp only [List.flatten_cons, List.length_append, List.length_cons]
    rw [Nat.add_mul]
    omega
theorem one_bdd (s : Int) : (oneL s).length ≤ 256 ∧ (oneL s).flatten.length ≤ 256 := by
  by_cases h : s < 0 ∨ 255 < s
  · rw [(one_bad h).1]; simp
  · have e := (one_good (s := s) (by omega) (by omega)).1
    have hl : (oneL s).length ≤ 256 := by rw [e]; simp; omega
    refine ⟨hl, ?_⟩
    have := flat_le (t := oneL s) (B := 1) fun r hr => by
      rw [e] at hr
      rcases List.mem_or_eq_of_mem_set hr with h | h
      · rw [List.mem_replicate] at h; rw [h.2]; simp
      · rw [h]; simp
    omega
theorem enc_bdd (g : Int) (l : List Int) (h : l.length ≤ 300) : (encL g l).length ≤ 4294967296 ∧ (encL g l).flatten.length ≤ 4294967296 := by
  by_cases hd : dchk g l = 0
  · have hD := dchk0 hd
    have hs := szN_bd hD.g5 hD.g12
    have hl : (encL g l).length = l.length := by rw [(enc_good hd).2, ← states_all, states_len]
    refine ⟨by omega, ?_⟩
    have := flat_le (t := encL g l) (B := 4096) fun r hr => by
      rw [(enc_good hd).2] at hr
      unfold statesL at hr
      obtain ⟨k, _, rfl⟩ := List.mem_map.1 hr
      have := cellsP_le (spr g l) (k : Int) (spr g l).length
      rw [cellsP_all, spr_len] at this
      omega
    omega
  · have := (enc_bad (g := g) (l := l) (by simpa using hd)).2
    rw [this]
    simp
theorem lwMk_v (g : Int) (l : List Int) (s : Int) : lwMk_t g l s := by
  unfold lwMk_t
  refine ⟨fun _ => rfl, fun h => ?_⟩
  have h : l.length ≤ 300 := by simp only [gt_iff_lt, decide_eq_false_iff_not] at h; omega
  have hb := enc_bdd g l h
  have ho := one_bdd s
  have o1 : (oneL s).length ≤ 4294967296 := by omega
  have o2 : (oneL s).flatten.length ≤ 4294967296 := by omega
  have hl : l.length ≤ 4294967296 := by omega
  simp only [hb.1, hb.2, o1, o2, hl, sameL_refl, bne_self_eq_false, beq_self_eq_true, Bool.and_self, Bool.not_true, true_and, and_true, implies_true, Bool.false_eq_true, Bool.true_eq_false, false_implies, true_implies]
set_option synthInstance.maxSize 10000 in
set_option synthInstance.maxHeartbeats 400000 in
theorem lwKn_v : lwKn_t := by
  unfold lwKn_t
  decide +kernel
theorem litT_L {g : Int} {t : List (List Int)} (h : litL g t = true) : litT g t = true := by
  unfold litL at h
  simp only [Bool.and_eq_true, decide_eq_true_eq] at h
  have : (flatP t 301).length = t.flatten.length := by
    unfold flatP
    rw [List.take_of_length_le (by omega)]
  unfold litT
  rw [decide_eq_true (by omega), Bool.or_true]
theorem ce_len (g : Int) (t : List (List Int)) : (ceO g t).length ≤ 4294967296 := by
  by_cases h : echk g t = 0
  · have hT := echk0 h
    rw [ce_good h, markP_len]
    have := sz0 hT.g0 hT.g12
    omega
  · rw [ce_bad (by simpa using h)]
    simp
theorem lwSt_v (g : Int) (t : List (List Int)) (x s : Int) (l : List Int) (h0' : t.length ≤ 17592186044416) (h1 : rowsOk t = true) : lwSt_t g t x s l := by
  unfold lwSt_t
  refine ⟨h0', h1, fun _ => rfl, fun h => ?_⟩
  have hL : litL g t = true := by simpa using h
  have h2 : litT g t = true := litT_L hL
  have h0 : t.length ≤ 4294967296 := by
    unfold litL at hL
    simp only [Bool.and_eq_true, decide_eq_true_eq] at hL
    omega
  have hc := ce_len g t
  refine ⟨fun _ => ⟨fun _ => rfl, fun _ => ⟨fun _ => rfl, fun hl => ?_⟩⟩, fun _ => ⟨fun _ => rfl, fun hl => ?_⟩⟩
  all_goals
    have hl : l.length ≤ 4294967296 := by simp only [gt_iff_lt, decide_eq_false_iff_not] at hl; omega
    simp only [h0, h2, hc, hl, eqI_refl, bne_self_eq_false, beq_self_eq_true, Bool.and_self, Bool.not_true, true_and, and_true, implies_true, Bool.false_eq_true, Bool.true_eq_false, false_implies, true_implies]
theorem eknown_any (W : World) : Calls Try.prog 4 #[] W fun e w' => e = .returned (.bool true) ∧ Below W.heap.size W w' :=
  law_true (us := []) (satG GEk_ok mixed Try.func4 lwKn_e lwKn_v) (.inr rfl) (by simp only [Reps])
theorem emakes_any (g : Int) (A : Option Addr) (n cap : Nat) (zs : List Int) (s : Int) (W : World) (hg : InR g) (hI : IntsIn W A n cap zs) (hs : InR s) :
    Calls Try.prog 3 #[.agg #[.int .i64 g, .slice A n cap], .int .i64 s] W fun e w' => e = .returned (.bool true) ∧ Below W.heap.size W w' := by
  refine law_true (us := [.agg #[.int .i64 g, .slice A n cap], .int .i64 s]) (satG GEk_ok mixed Try.func3 (lwMk_e g (zs.take n) s) (lwMk_v g _ s)) (.inr rfl) ?_
  simp only [Reps]
  exact ⟨_, _, rfl, ⟨[_, _], rfl, _, _, rfl, rfl, _, _, rfl, dat_ints hI, rfl⟩, _, _, rfl, rfl, rfl⟩
theorem esteps_any (g : Int) (A : Option Addr) (n cap : Nat) (xss : List (List Int)) (x s : Int) (A2 : Option Addr) (n2 cap2 : Nat) (zs : List Int) (W : World) (hg : InR g) (hL : ListsIn W A n cap xss) (hx : InR x) (hs : InR s) (hI : IntsIn W A2 n2 cap2 zs) :
    Calls Try.prog 5 #[.agg #[.int .i64 g, .slice A n cap], .int .i64 x, .int .i64 s, .slice A2 n2 cap2] W fun e w' => e = .returned (.bool true) ∧ Below W.heap.size W w' := by
  have hr : rowsOk xss = true := List.all_eq_true.2 fun r hr => decide_eq_true (hL.rows r hr)
  have hn : xss.length ≤ 17592186044416 := by rw [hL.len]; exact hL.big
  refine law_true (us := [.agg #[.int .i64 g, .slice A n cap], .int .i64 x, .int .i64 s, .slice A2 n2 cap2]) (satG GEk_ok mixed Try.func5 (lwSt_e g xss x s (zs.take n2)) (lwSt_v g _ x s _ hn hr)) (.inr rfl) ?_
  simp only [Reps]
  exact ⟨_, _, rfl, ⟨[_, _], rfl, _, _, rfl, rfl, _, _, rfl, dat_lists hL, rfl⟩, _, _, rfl, rfl, _, _, rfl, rfl, _, _, rfl, dat_ints hI, rfl⟩
end Go.Proofs.Ytbdgknebimdjoaa
/-
  Chapter 12: the law of streams that are written holds. Conditions: each theorem's own.
-/
namespace Go.Proofs.Ytbdgknebimdjoaa
open Go Go.RowKit
set_option linter.unusedVariables false
set_option linter.unusedSimpArgs false
set_option maxRecDepth 100000
theorem evenF_v : evenF_t := ⟨rfl, rfl⟩
theorem fourF_v : fourF_t := rfl
theorem liDF_v (g : Int) (p : List Int) : liDF_t g p := by
  unfold liDF_t liD
  have e1 : decide ((p.length : Int) ≤ (60 : Int)) = decide (p.length ≤ 60) := decide_eq_decide.2 (by omega)
  have e3 : decide (g > (12 : Int)) = decide (12 < g) := rfl
  rw [e1, e3]
  cases decide (p.length ≤ 60) <;> cases decide (g ≤ 9) <;> cases decide (12 < g) <;> simp
set_option synthInstance.maxSize 10000 in
set_option synthInstance.maxHeartbeats 400000 in
theorem awkF_v : awkF_t := by
  unfold awkF_t
  decide +kernel
theorem evenF_sound : Sound Try.prog 57 sEven.ctr := sEven.sound (by kernel_rfl) sEven_enc fun _ hc => by
  exact satG AllOk.nil mixed Try.func57 (evenF_e ) (evenF_v)
theorem fourF_sound : Sound Try.prog 58 sFour.ctr := sFour.sound (by kernel_rfl) sFour_enc fun _ hc => by
  exact satG AllOk.nil mixed Try.func58 (fourF_e ) (fourF_v)
theorem liDF_sound : Sound Try.prog 41 sLiD.ctr := sLiD.sound (by kernel_rfl) sLiD_enc fun ⟨g, p⟩ hc => by
  exact satG AllOk.nil mixed Try.func41 (liDF_e g p) (liDF_v g p)
theorem GFj_ok : AllOk Try.prog GFj := .cons evenF_sound <| .cons fourF_sound <| .cons liDF_sound GFi_ok
theorem awkF_sound : Sound Try.prog 39 sAwake.ctr := sAwake.sound (by kernel_rfl) sAwake_enc fun _ hc => by
  exact satG GFj_ok mixed Try.func39 (awkF_e ) (awkF_v)
theorem GFk_ok : AllOk Try.prog GFk := .cons awkF_sound GFj_ok
theorem lwWr_v (g : Int) (p l : List Int) : lwWr_t g p l := by
  unfold lwWr_t
  refine ⟨fun _ => rfl, fun h => ⟨fun _ => rfl, fun hl => ?_⟩⟩
  have hp : p.length ≤ 4294967296 := by
    simp only [liD, Bool.not_eq_false', Bool.and_eq_true, decide_eq_true_eq] at h
    omega
  have hl : l.length ≤ 4294967296 := by simp only [gt_iff_lt, decide_eq_false_iff_not] at hl; omega
  simp only [hp, hl, eqI_refl, bne_self_eq_false, beq_self_eq_true, Bool.and_self, Bool.not_true, true_and, and_true, implies_true, Bool.false_eq_true, Bool.true_eq_false, false_implies, true_implies]
theorem fwrites_any (g : Int) (A : Option Addr) (n cap : Nat) (zs : List Int) (A2 : Option Addr) (n2 cap2 : Nat) (ys : List Int) (W : World) (hg : InR g) (hI : IntsIn W A n cap zs) (hI2 : IntsIn W A2 n2 cap2 ys) :
    Calls Try.prog 7 #[.agg #[.int .i64 g, .slice A n cap], .slice A2 n2 cap2] W fun e w' => e = .returned (.bool true) ∧ Below W.heap.size W w' := by
  refine law_true (us := [.agg #[.int .i64 g, .slice A n cap], .slice A2 n2 cap2]) (satG GFk_ok mixed Try.func7 (lwWr_e g (zs.take n) (ys.take n2)) (lwWr_v g _ _)) (.inr rfl) ?_
  simp only [Reps]
  exact ⟨_, _, rfl, ⟨[_, _], rfl, _, _, rfl, rfl, _, _, rfl, dat_ints hI, rfl⟩, _, _, rfl, dat_ints hI2, rfl⟩
end Go.Proofs.Ytbdgknebimdjoaa
