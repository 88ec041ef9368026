/-
  Texts joined: UO, UP, UQ, US, UR, URt, UT. Conditions: each theorem's own.
-/
import Derived.Test.YtmdbliacaeokaaaK5
import Derived.Test.YtmdbliacaeokaaaK3
namespace Go.Proofs.Ytmdbliacaeokaaa
open Go Go.RowKit
set_option linter.unusedVariables false
set_option linter.unusedSimpArgs false
set_option maxRecDepth 100000
theorem fldJ_sound : Sound Try.prog 60 sFld2.ctr := sFld2.sound (by kernel_rfl) sFld2_enc fun n hc => by
  have h0 := hc _ (.head _)
  have h1 := hc _ (.tail _ (.head _))
  exact satG AllOk.nil mixed Try.func60 (fldJ_e n) (fldJ_v n h0 h1)
theorem rd16J_sound : Sound Try.prog 33 sRd16.ctr := sRd16.sound (by kernel_rfl) sRd16_enc fun ⟨b, i⟩ hc => by
  have h0 := hc _ (.head _)
  have h1 := hc _ (.tail _ (.head _))
  have h2 := hc _ (.tail _ (.tail _ (.head _)))
  exact satG AllOk.nil mixed Try.func33 (rd16J_e b i) (rd16J_v b i h0 h1 h2)
theorem ptlJ_sound : Sound Try.prog 34 sPtL.ctr := sPtL.sound (by kernel_rfl) sPtL_enc fun n hc => by
  have h0 := hc _ (.head _)
  have h1 := hc _ (.tail _ (.head _))
  exact satG AllOk.nil mixed Try.func34 (ptlJ_e n) (ptlJ_v n h0 h1)
theorem divJ_sound : Sound Try.prog 35 sDivd.ctr := sDivd.sound (by kernel_rfl) sDivd_enc fun ⟨s, p⟩ hc => by
  have h0 := hc _ (.head _)
  exact satG AllOk.nil mixed Try.func35 (divJ_e s p) (divJ_v s p h0)
theorem joinJ_sound : Sound Try.prog 42 sJoin.ctr := sJoin.sound (by kernel_rfl) sJoin_enc fun xs hc => by
  have h0 := hc _ (.head _)
  have h1 := hc _ (.tail _ (.head _))
  exact satG AllOk.nil mixed Try.func42 (joinJ_e xs) (joinJ_v xs h0 h1)
theorem wroJ_sound : Sound Try.prog 16 sWrO.ctr := sWrO.sound (by kernel_rfl) sWrO_enc fun ⟨l, s⟩ hc => by
  have h0 := hc _ (.head _)
  have h1 := hc _ (.tail _ (.head _))
  exact satG GUc_ok mixed Try.func16 (wroJ_e l s) (wroJ_v l s h0 h1)
theorem szoJ_sound : Sound Try.prog 20 sSzO.ctr := sSzO.sound (by kernel_rfl) sSzO_enc fun ⟨l, s⟩ hc => by
  have h0 := hc _ (.head _)
  have h1 := hc _ (.tail _ (.head _))
  exact satG GUc_ok mixed Try.func20 (szoJ_e l s) (szoJ_v l s h0 h1)
theorem rdoJ_sound : Sound Try.prog 11 sRdO.ctr := sRdO.sound (by kernel_rfl) sRdO_enc fun ⟨l, b, n⟩ hc => by
  have h0 := hc _ (.head _)
  have h1 := hc _ (.tail _ (.head _))
  exact satG GUc_ok mixed Try.func11 (rdoJ_e l b n) (rdoJ_v l b n h0 h1)
theorem GUd_ok : AllOk Try.prog GUd := .cons fldJ_sound <| .cons rd16J_sound <| .cons ptlJ_sound <| .cons divJ_sound <| .cons joinJ_sound <| .cons wroJ_sound <| .cons szoJ_sound <| .cons rdoJ_sound <| GUc_ok
theorem litJ_sound : Sound Try.prog 41 sLit2.ctr := sLit2.sound (by kernel_rfl) sLit2_enc fun n hc => by
  have h0 := hc _ (.head _)
  have h1 := hc _ (.tail _ (.head _))
  exact satG GUd_ok mixed Try.func41 (litJ_e n) (litJ_v n h0 h1)
theorem ptvJ_sound : Sound Try.prog 22 sPtV.ctr := sPtV.sound (by kernel_rfl) sPtV_enc fun n hc => by
  exact satG GUd_ok mixed Try.func22 (ptvJ_e n) (ptvJ_v n)
theorem r4J_sound : Sound Try.prog 13 sR4.ctr := sR4.sound (by kernel_rfl) sR4_enc fun ⟨l, b, n⟩ hc => by
  have h0 := hc _ (.head _)
  have h1 := hc _ (.tail _ (.head _))
  exact satG GUd_ok mixed Try.func13 (r4J_e l b n) (r4J_v l b n h0 h1)
theorem GUe_ok : AllOk Try.prog GUe := .cons litJ_sound <| .cons ptvJ_sound <| .cons r4J_sound <| GUd_ok
theorem w4J_sound : Sound Try.prog 18 sW4.ctr := sW4.sound (by kernel_rfl) sW4_enc fun ⟨l, s⟩ hc => by
  have h0 := hc _ (.head _)
  have h1 := hc _ (.tail _ (.head _))
  exact satG GUe_ok mixed Try.func18 (w4J_e l s) (w4J_v l s h0 h1)
theorem GUf_ok : AllOk Try.prog GUf := .cons w4J_sound <| GUe_ok
theorem shownN_v : shownN_t := by
  unfold shownN_t
  decide +kernel
theorem shownN_sound : Sound Try.prog 24 sShown.ctr := sShown.sound (by kernel_rfl) sShown_enc fun _ hc => by
  exact satG AllOk.nil mixed Try.func24 (shownN_e ) (shownN_v)
theorem GUg_ok : AllOk Try.prog GUg := .cons shownN_sound <| .cons of7_sound <| .cons md7_sound <| .cons at7_sound <| GUf_ok
theorem wrsN_v (s w : ByteArray) (h0 : s.size ≤ 40000) : wrsN_t s w := by
  unfold wrsN_t wrsB
  refine ⟨by decide, h0, fun h => ?_, fun h => ?_⟩
  · rw [h, Bool.true_and]
  · rw [h, Bool.false_and]
theorem rdsN_v (b : ByteArray) (n : Int) (w : ByteArray) (e : Int) (h0 : b.size ≤ 4294967296) : rdsN_t b n w e := by
  unfold rdsN_t rdsB
  refine ⟨by decide, h0, fun h => ?_, fun h => ?_⟩
  · rw [h, Bool.true_and]
  · rw [h, Bool.false_and]
theorem cmX_bd (nums : List Int) (i : Nat) : 1 ≤ cmX nums i ∧ cmX nums i ≤ 100 := by
  have := md_bd (x := atL nums i) (show (1 : Int) ≤ 100 by omega)
  unfold cmX
  omega
theorem cmN_bd (nums : List Int) : 2 ≤ cmN nums ∧ cmN nums ≤ 12 := by unfold cmN; omega
theorem cmP_len (nums : List Int) {i : Nat} (h : i ≤ 13) : (cmP nums i).length = 110 := by
  unfold cmP
  simp only [List.length_append, List.length_replicate, List.length_map, List.length_range]
  omega
theorem cmP_succ (nums : List Int) {i : Nat} (h : i < 13) : (cmP nums i).set (97 + i) (cmX nums i) = cmP nums (i + 1) := by
  unfold cmP
  rw [List.set_append_right _ _ (by rw [List.length_replicate]; omega), List.length_replicate, show 97 + i - 97 = i by omega, List.set_append_right _ _ (by simp), List.length_map, List.length_range, Nat.sub_self]
  obtain ⟨c, hc⟩ : ∃ c, 13 - i = c + 1 := ⟨12 - i, by omega⟩
  rw [hc, show List.replicate (c + 1) (0 : Int) = 0 :: List.replicate c 0 from rfl, List.set_cons_zero, show 13 - (i + 1) = c by omega, List.range_succ, List.map_append, List.append_assoc]
  rfl
theorem mem_cmP {nums : List Int} {i : Nat} {x : Int} (h : x ∈ cmP nums i) : 0 ≤ x ∧ x ≤ 100 := by
  unfold cmP at h
  rw [List.mem_append, List.mem_append] at h
  rcases h with h | h | h
  · have := List.eq_of_mem_replicate h; omega
  · obtain ⟨j, _, rfl⟩ := List.mem_map.1 h
    have := cmX_bd nums j
    omega
  · have := List.eq_of_mem_replicate h; omega
theorem cntP_app (a b : List Int) : cntP (a ++ b) = cntP a + cntP b := by
  induction b using snoc_ind' with
  | h0 =>
    rw [List.append_nil]
    show cntP a = cntP a + 0
    omega
  | h1 l z ih =>
    rw [← List.append_assoc, cntP_snoc, cntP_snoc, ih]
    cases decide (0 < z)
    · rw [cond_false, cond_false]
    · rw [cond_true, cond_true]; omega
theorem cntP_zero (n : Nat) : cntP (List.replicate n 0) = 0 := by
  induction n with
  | zero => rfl
  | succ n ih => rw [List.replicate_succ', cntP_app, ih]; rfl
theorem cntP_all : ∀ l : List Int, (∀ x ∈ l, 0 < x) → cntP l = l.length := by
  intro l
  induction l using snoc_ind' with
  | h0 => intro _; rfl
  | h1 l z ih =>
    intro h
    rw [cntP_snoc, decide_eq_true (h z (by simp)), cond_true, ih fun x hx => h x (by simp [hx]), List.length_append]
    rfl
theorem cmP_cnt (nums : List Int) (i : Nat) : cntP (cmP nums i) = i := by
  unfold cmP
  rw [cntP_app, cntP_app, cntP_zero, cntP_zero, cntP_all _ (fun x hx => by obtain ⟨j, _, rfl⟩ := List.mem_map.1 hx; have := cmX_bd nums j; omega), List.length_map, List.length_range]
  omega
theorem cm_leaves (nums : List Int) (i : Nat) : (leaves (cmP nums i)).length = i := by
  have := cntP_syms (cmP nums i)
  rw [leaves_len]
  rw [cmP_cnt] at this
  omega
theorem cm_cn (nums : List Int) {i : Nat} (h : i ≤ 13) : Cn (cmP nums i) where
  nn := fun x hx => (mem_cmP hx).1
  tot := by
    have hl := cmP_len nums h
    have : ∀ l : List Int, (∀ x ∈ l, x ≤ 100) → l.sum ≤ 100 * l.length := by
      intro l
      induction l with
      | nil => intro _; simp
      | cons x r ih =>
        intro h
        have := h x (by simp)
        have := ih (fun y hy => h y (by simp [hy]))
        simp only [List.sum_cons, List.length_cons]
        push_cast
        omega
    have := this _ (fun x hx => (mem_cmP (nums := nums) (i := i) hx).2)
    unfold sumL
    omega
structure MdOk (nums : List Int) : Prop where
  chk : chk (mdL nums) = 0
  len : (mdL nums).length = 110
  pos : posL (mdL nums) = posL (cmL nums)
theorem md_ok (nums : List Int) : MdOk nums := by
  have hb := cmN_bd nums
  have hl := cmP_len nums (show cmN nums ≤ 13 by omega)
  have hv := cm_leaves nums (cmN nums)
  obtain ⟨a, b, c⟩ := ofL_ok (l := cmL nums) (cm_cn nums (by omega)) (by show (cmP nums (cmN nums)).length ≤ 256; omega) (by show (leaves (cmP nums (cmN nums))).length ≤ 40; omega) (by show 2 ≤ (leaves (cmP nums (cmN nums))).length; omega)
  exact ⟨a, by show (ofL (cmL nums)).length = 110; rw [b]; exact hl, c⟩
theorem mdC_len (nums text : List Int) {i : Nat} (h : i ≤ text.length) : (mdC nums text i).length = i := by
  unfold mdC
  rw [List.length_map, List.length_take]
  omega
theorem mdC_succ (nums text : List Int) {i : Nat} (h : i < text.length) : mdC nums text (i + 1) = mdC nums text i ++ [97 + md (text.getD i 0) (cmN nums)] := by
  unfold mdC
  rw [take_succ text 0 h, List.map_append]
  rfl
theorem madeN_v (nums text : List Int) : madeN_t nums text := by
  unfold madeN_t
  have hb := cmN_bd nums
  have hstep : ∀ i : Nat, i < cmN nums → IntKind.wrap IntKind.i64 (97 + (i : Int)) = 97 + (i : Int) ∧ IntKind.wrap IntKind.i64 (1 + md (atL nums (i : Int)) 100) = cmX nums i ∧ (cmP nums i).set (Int.toNat (97 + (i : Int))) (cmX nums i) = cmP nums (i + 1) := fun i hi => by
    have hm := md_bd (x := atL nums i) (show (1 : Int) ≤ 100 by omega)
    refine ⟨wr (by omega) (by omega), wr (by omega) (by omega), ?_⟩
    rw [show Int.toNat (97 + (i : Int)) = 97 + i by omega]
    exact cmP_succ nums (by omega)
  have hlen : ∀ i : Nat, i ≤ 12 → Nat.succ (Nat.add (List.length (List.append (List.replicate 96 (0 : Int)) (List.map (cmX nums) (List.range i) ++ List.replicate (13 - i) (0 : Int)))) 0) = 110 := fun i hi => by
    show (List.length (List.append (List.replicate 96 (0 : Int)) (List.map (cmX nums) (List.range i) ++ List.replicate (13 - i) (0 : Int)))) + 1 = 110
    rw [List.append_eq, List.length_append, List.length_append, List.length_replicate, List.length_map, List.length_range, List.length_replicate]
    omega
  refine ⟨by omega, by omega, by decide, by omega, ⟨⟨0, Nat.zero_le _, (by first | rfl | trivial), (by first | rfl | trivial), (by first | rfl | trivial), rfl⟩, fun i hi => ⟨fun hlt => ?_, fun hge => ⟨fun h2 => ⟨fun h3 => ?_, fun h3 => ⟨(), trivial, (by first | rfl | trivial), (by first | rfl | trivial), ?_⟩⟩, fun h2 => ⟨(), trivial, (by first | rfl | trivial), (by first | rfl | trivial), ?_⟩⟩⟩⟩, fun _ _ => ?_⟩
  · rw [nle] at hi
    have hlt : (i : Int) < 2 := by simpa using hlt
    obtain ⟨e1, e2, e3⟩ := hstep i (by omega)
    rw [e1, e2, hlen i (by omega)]
    exact ⟨by omega, by omega, by omega, by omega, i + 1, by rw [nle]; omega, by show cmN nums - (i + 1) < cmN nums - i; omega, (by first | rfl | trivial), (by first | rfl | trivial), by rw [wr (by omega) (by omega)]; push_cast; rfl, e3⟩
  · rw [nle] at hi
    have h2 : (i : Int) < nums.length := by simpa using h2
    have h3 : (i : Int) < 12 := by simpa using h3
    have hi' : i < cmN nums := by unfold cmN; omega
    obtain ⟨e1, e2, e3⟩ := hstep i hi'
    rw [e1, e2, hlen i (by omega)]
    exact ⟨by omega, by omega, by omega, by omega, i + 1, by rw [nle]; omega, by show cmN nums - (i + 1) < cmN nums - i; omega, (by first | rfl | trivial), (by first | rfl | trivial), by rw [wr (by omega) (by omega)]; push_cast; rfl, e3⟩
  · rw [nle] at hi
    have h2 : (i : Int) < nums.length := by simpa using h2
    have h3 : ¬ (i : Int) < 12 := by simpa using h3
    have : i = cmN nums := by unfold cmN at *; omega
    rw [this]; rfl
  · rw [nle] at hi
    have hge : ¬ (i : Int) < 2 := by simpa using hge
    have h2 : ¬ (i : Int) < nums.length := by simpa using h2
    have : i = cmN nums := by unfold cmN at *; omega
    rw [this]; rfl
  · have hl := cmP_len nums (show cmN nums ≤ 13 by omega)
    have hv := cm_leaves nums (cmN nums)
    refine ⟨by show (cmP nums (cmN nums)).length ≤ 256; omega, by show (leaves (cmP nums (cmN nums))).length ≤ 40; omega, cn_iff.2 (cm_cn nums (by omega)), by show 2 ≤ (leaves (cmP nums (cmN nums))).length; omega, ⟨⟨0, Nat.zero_le _, (by first | rfl | trivial), (by first | rfl | trivial), by unfold cmN; omega, rfl, (by first | rfl | trivial), rfl⟩, fun i hi => ⟨fun hlt => ⟨fun hlt2 => ?_, fun hge => ⟨(), trivial, (by first | rfl | trivial), ?_, (by first | rfl | trivial)⟩⟩, fun hge => ⟨(), trivial, (by first | rfl | trivial), ?_, (by first | rfl | trivial)⟩⟩⟩, fun _ _ => ⟨(by first | rfl | trivial), (by first | rfl | trivial), (by first | rfl | trivial)⟩⟩
    · rw [nle] at hi
      have hlt : (i : Int) < text.length := by simpa using hlt
      have hlt2 : (i : Int) < 100 := by simpa using hlt2
      have hi' : i < text.length := by omega
      have hm := md_bd (x := text.getD i 0) (show (1 : Int) ≤ (cmN nums : Nat) by omega)
      have hcl := mdC_len nums text (show i ≤ text.length by omega)
      simp only [toNat_cast]
      rw [wr (n := 97 + md (text.getD i 0) (cmN nums)) (by omega) (by omega), wrap8, Int.emod_eq_of_lt (by omega) (by omega)]
      refine ⟨by omega, by omega, by omega, by rw [strOfNums_size, strOfNums_size, hcl]; show i + 1 ≤ _; omega, i + 1, by rw [nle]; omega, by show 100 - (i + 1) < 100 - i; omega, (by first | rfl | trivial), (by first | rfl | trivial), (by first | rfl | trivial), ?_, by rw [wr (by omega) (by omega)]; push_cast; rfl, (by first | rfl | trivial)⟩
      rw [mdC_succ nums text hi', str_app]
    · rw [nle] at hi
      have hge : ¬ (i : Int) < 100 := by simpa using hge
      unfold mdS
      rw [show i = min text.length 100 by omega]
    · rw [nle] at hi
      have hge : ¬ (i : Int) < text.length := by simpa using hge
      unfold mdS
      rw [show i = min text.length 100 by omega]
theorem wrsN_sound : Sound Try.prog 25 sWrs.ctr := sWrs.sound (by kernel_rfl) sWrs_enc fun ⟨s, w⟩ hc => by
  have h0 := hc _ (.head _)
  exact satG GUg_ok mixed Try.func25 (wrsN_e s w) (wrsN_v s w h0)
theorem rdsN_sound : Sound Try.prog 26 sRds.ctr := sRds.sound (by kernel_rfl) sRds_enc fun ⟨b, n, w, e⟩ hc => by
  have h0 := hc _ (.head _)
  exact satG GUg_ok mixed Try.func26 (rdsN_e b n w e) (rdsN_v b n w e h0)
theorem madeN_sound : Sound Try.prog 27 sMade.ctr := sMade.sound (by kernel_rfl) sMade_enc fun ⟨nums, text⟩ hc => by
  exact satG GUg_ok mixed Try.func27 (madeN_e nums text) (madeN_v nums text)
theorem GUh_ok : AllOk Try.prog GUh := .cons wrsN_sound <| .cons rdsN_sound <| .cons madeN_sound <| GUg_ok
end Go.Proofs.Ytmdbliacaeokaaa
namespace Go.Proofs.Ytmdbliacaeokaaa
open Go Go.RowKit
set_option linter.unusedVariables false
set_option linter.unusedSimpArgs false
set_option maxRecDepth 100000
theorem awakeN_v : awakeN_t := by
  unfold awakeN_t
  decide +kernel
theorem awakeN_sound : Sound Try.prog 9 sTrue.ctr := sTrue.sound (by kernel_rfl) sTrue_enc fun _ hc => by
  exact satG GUh_ok mixed Try.func9 (awakeN_e ) (awakeN_v)
theorem GUi_ok : AllOk Try.prog GUi := .cons awakeN_sound <| GUh_ok
end Go.Proofs.Ytmdbliacaeokaaa
namespace Go.Proofs.Ytmdbliacaeokaaa
open Go Go.RowKit
set_option linter.unusedVariables false
set_option linter.unusedSimpArgs false
set_option maxRecDepth 100000
set_option synthInstance.maxSize 100000 in
set_option synthInstance.maxHeartbeats 0 in
theorem lawKnN_v : lawKnN_t := by
  unfold lawKnN_t
  decide +kernel
theorem lawKnN_sound : Sound Try.prog 5 sTrue.ctr := sTrue.sound (by kernel_rfl) sTrue_enc fun _ hc => by
  exact satG GUi_ok mixed Try.func5 (lawKnN_e ) (lawKnN_v)
theorem GUj_ok : AllOk Try.prog GUj := .cons lawKnN_sound <| GUi_ok
end Go.Proofs.Ytmdbliacaeokaaa
namespace Go.Proofs.Ytmdbliacaeokaaa
open Go Go.RowKit
set_option linter.unusedVariables false
set_option linter.unusedSimpArgs false
set_option maxRecDepth 100000
theorem chk_lchk {l : List Int} (h : chk l = 0) : lchk l = 0 := by
  obtain ⟨h1, h2, h3, h4⟩ := chk_zero h
  rw [lchk_sum (room_ok h1 h2).1 (by omega), h4]
  rfl
theorem nu_ok {l : List Int} (h : chk l = 0) {n : Int} (h0 : 0 ≤ n) (h1 : n ≤ 131072) : nuE l n = 0 := by
  unfold nuE
  rw [chk_lchk h, decide_eq_false (by omega), decide_eq_false (by omega)]
  rfl
theorem lit2_bytes {n : Int} (h0 : 0 ≤ n) (h1 : n < 65536) : bytesN (lit2 n) = [n % 256, n / 256 % 256] := by
  unfold lit2
  refine bytesN_str fun x hx => ?_
  simp only [List.mem_cons, List.not_mem_nil, or_false] at hx
  rcases hx with rfl | rfl <;> omega
theorem jn3 (a b c : ByteArray) : jn [a, b, c] = a ++ b ++ c := by
  show ByteArray.empty ++ a ++ b ++ c = _
  rw [ByteArray.empty_append]
theorem jn4 (a b c d : ByteArray) : jn [a, b, c, d] = a ++ b ++ c ++ d := by
  show ByteArray.empty ++ a ++ b ++ c ++ d = _
  rw [ByteArray.empty_append]
theorem w4_bytes {l : List Int} {s : ByteArray} (hz : ∀ i, (stH l s i).size < 65536) : bytesN (w4H l s) =
    [((stH l s 0).size : Int) % 256, ((stH l s 0).size : Int) / 256 % 256, ((stH l s 1).size : Int) % 256, ((stH l s 1).size : Int) / 256 % 256, ((stH l s 2).size : Int) % 256, ((stH l s 2).size : Int) / 256 % 256] ++
    (bytesN (stH l s 0) ++ (bytesN (stH l s 1) ++ (bytesN (stH l s 2) ++ bytesN (stH l s 3)))) := by
  have h0 := hz 0
  have h1 := hz 1
  have h2 := hz 2
  have e1 : heads4 l s 4 = [lit2 (stH l s 0).size, lit2 (stH l s 1).size, lit2 (stH l s 2).size] := rfl
  have e2 : strs4 l s 4 = [stH l s 0, stH l s 1, stH l s 2, stH l s 3] := rfl
  unfold w4H
  rw [e1, e2, jn3, jn4]
  simp only [bytesN_app]
  rw [lit2_bytes (by omega) (by omega), lit2_bytes (by omega) (by omega), lit2_bytes (by omega) (by omega)]
  simp only [List.append_assoc, List.cons_append, List.nil_append]
structure W4 (l : List Int) (s : ByteArray) : Prop where
  q : Q4 (w4H l s)
  p : ∀ i, i < 4 → p4 (w4H l s) i = stH l s i
  z : ∀ i, i < 3 → z4 (w4H l s) i = (stH l s i).size
  sz : (w4H l s).size = 6 + ((stH l s 0).size + ((stH l s 1).size + ((stH l s 2).size + (stH l s 3).size)))
structure In4 (l : List Int) (b : ByteArray) (n : Int) : Prop where
  sz : ((r4O l b n).size : Int) = n
  tx : txE l (r4O l b n) = 0
  ok : w4E l (r4O l b n) = 0
  w : w4O l (r4O l b n) = b
theorem in4_parts {l : List Int} {b : ByteArray} {n : Int} (hg : Good l) (hn : 6 ≤ n) (hn2 : n ≤ 131072) (ho : ok4 l b n 4 = true) : ∀ i, i ≤ 4 → ((out4 l b n i).size = offP (ptL n) i ∧ (∀ x ∈ bytesN (out4 l b n i), codd l x) ∧
      ∀ j, j < i → ((bytesN (out4 l b n i)).drop (offP (ptL n) j)).take ((ptL n).getD j 0).toNat = bytesN (oS (x4 l b n j)))
  | 0, _ => ⟨rfl, (fun x hx => by cases hx), fun j hj => by omega⟩
  | i + 1, hi => by
    obtain ⟨i1, i2, i3⟩ := in4_parts hg hn hn2 ho i (by omega)
    have hp := ptL_bd hn (i := i) (by omega)
    have h1 := ok4_mono (show i + 1 ≤ 4 by omega) ho
    rw [ok4_succ, Bool.and_eq_true] at h1
    obtain ⟨o, hx⟩ := Option.isSome_iff_exists.1 h1.2
    obtain ⟨c1, c2, c3, c4, c5⟩ := rd_inj hg hp.1 hx
    have hoS : oS (x4 l b n i) = strOfNums o := by rw [hx]; rfl
    have e : out4 l b n (i + 1) = out4 l b n i ++ oS (x4 l b n i) := rfl
    have hl := bytes_len (out4 l b n i)
    rw [e, hoS]
    refine ⟨?_, ?_, fun j hj => ?_⟩
    · rw [app_size, strOfNums_size, i1]
      simp only [offP]
      omega
    · intro x hx'
      rw [bytesN_app, List.mem_append] at hx'
      rcases hx' with h | h
      · exact i2 x h
      · rw [c4] at h; exact c1 x h
    · rw [bytesN_app]
      by_cases hji : j = i
      · subst hji
        rw [hoS, List.drop_left' (by omega), c4, List.take_of_length_le (by omega)]
      · have hlt := offP_le (p := ptL n) (show j + 1 ≤ i by omega)
        simp only [offP] at hlt
        rw [List.drop_append_of_le_length (by omega), List.take_append_of_le_length (by rw [List.length_drop]; omega)]
        exact i3 j (by omega)
theorem in4_ok {l : List Int} {b : ByteArray} {n : Int} (hc : chk l = 0) (hn2 : n ≤ 40000) (h : r4E l b n = 0) : In4 l b n := by
  have hg := good hc
  have he : e4 l b n = 0 := by
    unfold r4E at h
    by_cases h0 : e4 l b n = 0
    · exact h0
    · rw [beq_eq_false_iff_ne.2 h0] at h
      exact absurd h h0
  have ho : ok4 l b n 4 = true := by
    unfold r4E at h
    rw [he] at h
    cases ho : ok4 l b n 4
    · rw [ho] at h; cases h
    · rfl
  obtain ⟨hnu, hn6, hQ⟩ := e4_0 he
  obtain ⟨s1, s2, s3⟩ := in4_parts hg hn6 (by omega) ho 4 (Nat.le_refl _)
  have hO : r4O l b n = out4 l b n 4 := (r4_all he ho).1.symm
  rw [pt_off hn6] at s1
  have hsz : ((r4O l b n).size : Int) = n := by rw [hO]; omega
  have ht : txOk l (r4O l b n) := by rw [hO]; exact s2
  have hx : txE l (r4O l b n) = 0 := ok_tx (chk_lchk hc) (by omega) ht
  obtain ⟨w1, w2⟩ := w4E_ok hx (show ¬ (r4O l b n).size < 6 by omega)
  refine ⟨hsz, hx, w1, ?_⟩
  rw [w2]
  have hst : ∀ i, i < 4 → stH l (r4O l b n) i = p4 b i := fun i hi => by
    have hp := ptL_bd hn6 hi
    have h1 := ok4_mono (show i + 1 ≤ 4 by omega) ho
    rw [ok4_succ, Bool.and_eq_true] at h1
    obtain ⟨o, hxo⟩ := Option.isSome_iff_exists.1 h1.2
    obtain ⟨c1, c2, c3, c4, c5⟩ := rd_inj hg hp.1 hxo
    have hpc : pcS (r4O l b n) (ptL (r4O l b n).size) i = strOfNums o := by
      apply bytes_inj
      rw [pc_bytes, hsz, hO, s3 i hi, hxo]
      rfl
    unfold stH
    rw [hpc]
    exact c3
  have hz : ∀ j, (stH l (r4O l b n) j).size < 65536 := fun j => by have := st_size hg ht (by omega) j; omega
  apply bytes_inj
  rw [w4_bytes hz, hst 0 (by omega), hst 1 (by omega), hst 2 (by omega), hst 3 (by omega)]
  have hb := bytes_len b
  have h6 := hQ.s6
  have hf := hQ.fit
  have z0 := z4_rng b 0
  have z1 := z4_rng b 1
  have z2 := z4_rng b 2
  have a1 := at4_1 b
  have a2 := at4_2 b
  have a3 := at4_3 b
  have a4 := at4_4 b
  have pz : ∀ i, i < 3 → ((p4 b i).size : Int) = z4 b i := fun i hi => by
    rw [p4_size hQ (by omega)]
    rcases three_cases hi with rfl | rfl | rfl <;> rfl
  rw [pz 0 (by omega), pz 1 (by omega), pz 2 (by omega)]
  have hp : ∀ i, i < 4 → bytesN (p4 b i) = ((bytesN b).drop (at4 b i).toNat).take ((at4 b (i + 1)).toNat - (at4 b i).toNat) := fun i hi => by rw [← p4_ext hQ hi, ext_bytes]
  rw [hp 0 (by omega), hp 1 (by omega), hp 2 (by omega), hp 3 (by omega)]
  have hd : (bytesN b).drop 6 = List.take ((at4 b (0 + 1)).toNat - (at4 b 0).toNat) (List.drop (at4 b 0).toNat (bytesN b)) ++ (List.take ((at4 b (1 + 1)).toNat - (at4 b 1).toNat) (List.drop (at4 b 1).toNat (bytesN b)) ++ (List.take ((at4 b (2 + 1)).toNat - (at4 b 2).toNat) (List.drop (at4 b 2).toNat (bytesN b)) ++ List.take ((at4 b (3 + 1)).toNat - (at4 b 3).toNat) (List.drop (at4 b 3).toNat (bytesN b)))) := by
    have step : ∀ (x y : Nat), x ≤ y → List.drop x (bytesN b) = List.take (y - x) (List.drop x (bytesN b)) ++ List.drop y (bytesN b) := fun x y hxy => by
      conv => lhs; rw [← List.take_append_drop (y - x) (List.drop x (bytesN b)), List.drop_drop]
      rw [show x + (y - x) = y by omega]
    have e0 : (at4 b 0).toNat = 6 := by rw [at4_0]; rfl
    simp only [Nat.zero_add, show 1 + 1 = 2 from rfl, show 2 + 1 = 3 from rfl, show 3 + 1 = 4 from rfl]
    rw [e0]
    have last : List.drop (at4 b 3).toNat (bytesN b) = List.take ((at4 b 4).toNat - (at4 b 3).toNat) (List.drop (at4 b 3).toNat (bytesN b)) := (List.take_of_length_le (by rw [List.length_drop, hb]; omega)).symm
    exact (step 6 (at4 b 1).toNat (by omega)).trans (congrArg (fun z => _ ++ z) ((step (at4 b 1).toNat (at4 b 2).toNat (by omega)).trans (congrArg (fun z => _ ++ z) ((step (at4 b 2).toNat (at4 b 3).toNat (by omega)).trans (congrArg (fun z => _ ++ z) last)))))
  rw [← hd]
  have hby : ∀ i, i < 6 → (bytesN b)[i]? = some (byI b i) := fun i hi => by
    have := byte_at (s := b) (i := i) (by omega)
    rw [← this.1, List.getD_eq_getElem?_getD, List.getElem?_eq_getElem (by omega)]
    rfl
  have hr : ∀ i, 0 ≤ byI b i ∧ byI b i < 256 := byI_rng b
  have r0 := hr 0
  have r1 := hr 1
  have r2 := hr 2
  have r3 := hr 3
  have r4 := hr 4
  have r5 := hr 5
  have y0 : z4 b 0 = byI b 0 + 256 * byI b 1 := rfl
  have y1 : z4 b 1 = byI b 2 + 256 * byI b 3 := rfl
  have y2 : z4 b 2 = byI b 4 + 256 * byI b 5 := rfl
  rw [show z4 b 0 % 256 = byI b 0 by omega, show z4 b 0 / 256 % 256 = byI b 1 by omega, show z4 b 1 % 256 = byI b 2 by omega, show z4 b 1 / 256 % 256 = byI b 3 by omega, show z4 b 2 % 256 = byI b 4 by omega, show z4 b 2 / 256 % 256 = byI b 5 by omega]
  conv => rhs; rw [← List.take_append_drop 6 (bytesN b)]
  rw [List.append_cancel_right_eq]
  refine (List.ext_getElem? fun i => ?_).symm
  rw [List.getElem?_take]
  by_cases hi : i < 6
  · rw [if_pos hi, hby i hi]
    have : i = 0 ∨ i = 1 ∨ i = 2 ∨ i = 3 ∨ i = 4 ∨ i = 5 := by omega
    rcases this with rfl | rfl | rfl | rfl | rfl | rfl <;> rfl
  · rw [if_neg hi, List.getElem?_eq_none (by simp only [List.length_cons, List.length_nil]; omega)]
end Go.Proofs.Ytmdbliacaeokaaa
namespace Go.Proofs.Ytmdbliacaeokaaa
open Go Go.RowKit
set_option linter.unusedVariables false
set_option linter.unusedSimpArgs false
set_option maxRecDepth 100000
def tmO (l : List Int) (s t : ByteArray) (n m : Int) : List (Nat × SV) := [(2, .v (.string t)), (3, .v (.int .i64 n)), (4, .v (.int .u8 m)), (11, .v (.bool true)), (12, .o 5000), (13, .v (.string s))]
def oOnA (l : List Int) (s t : ByteArray) (n m : Int) : LoopInv := { ι := Unit, p := fun _ => t.size ≤ 40, tm := fun _ => tmO l s t n m, hp := fun _ => [(5000, .row 3 (.ints .i64 l))], μ := fun _ => 0 }
def oOn (l : List Int) (s t : ByteArray) (n m : Int) : Nat → Option LoopFam := fun k => cond (Nat.beq k 1005) (some (.one (oOnA l s t n m))) (cond (Nat.beq k 1011) (some (.one (oOnA l s t (md n 60) m))) (cond (Nat.beq k 1016) (some (.one (oOnA l s t (md n 60) m))) none))
end Go.Proofs.Ytmdbliacaeokaaa
namespace Go.Proofs.Ytmdbliacaeokaaa
open Go Go.RowKit
set_option linter.unusedVariables false
set_option maxRecDepth 100000
def lawOnR_t (nums text : List Int) (t : ByteArray) (n m : Int) : Prop :=
 (((!true) = true → (true = true → true = true) ∧ (true = false → false = true)) ∧
 ((!true) = false →
 (decide ((↑(ByteArray.size t) : Int) > (40 : Int)) = true → (true = true → true = true) ∧ (true = false → false = true)) ∧
 (decide ((↑(ByteArray.size t) : Int) > (40 : Int)) = false →
 ∃ (x0 : Unit), Nat.le (ByteArray.size t) (40 : Nat) ∧ t = t ∧ n = n ∧ m = m ∧ true = true ∧ mdS nums text = mdS nums text ∧ mdL nums = mdL nums))) ∧
 ∀ (x1 : Unit),
 Nat.le (ByteArray.size t) (40 : Nat) →
 (60 : Int) ≤ (4611686018427387904 : Int) ∧
 List.length (mdL nums) ≤ (4294967296 : Nat) ∧
 ByteArray.size t ≤ (4294967296 : Nat) ∧
 (((rE (mdL nums) t (md n (60 : Int)) == (0 : Int)) = true →
 List.length (mdL nums) ≤ (4294967296 : Nat) ∧
 ByteArray.size (rO (mdL nums) t (md n (60 : Int))) ≤ (40000 : Nat) ∧
 ((txE (mdL nums) (rO (mdL nums) t (md n (60 : Int))) != (0 : Int)) = true → false = true) ∧
 ((txE (mdL nums) (rO (mdL nums) t (md n (60 : Int))) != (0 : Int)) = false →
 ((!ByteArray.toList (wrO (mdL nums) (rO (mdL nums) t (md n (60 : Int)))) == ByteArray.toList t) = true → false = true) ∧
 ((!ByteArray.toList (wrO (mdL nums) (rO (mdL nums) t (md n (60 : Int)))) == ByteArray.toList t) = false →
 (((↑(ByteArray.size (rO (mdL nums) t (md n (60 : Int)))) : Int) != md n (60 : Int)) = true → false = true) ∧
 (((↑(ByteArray.size (rO (mdL nums) t (md n (60 : Int)))) : Int) != md n (60 : Int)) = false →
 ∃ (x2 : Unit),
 Nat.le (ByteArray.size t) (40 : Nat) ∧ t = t ∧ md n (60 : Int) = md n (60 : Int) ∧ m = m ∧ true = true ∧ mdS nums text = mdS nums text ∧ mdL nums = mdL nums)))) ∧
 ((rE (mdL nums) t (md n (60 : Int)) == (0 : Int)) = false →
 ∃ (x3 : Unit), Nat.le (ByteArray.size t) (40 : Nat) ∧ t = t ∧ md n (60 : Int) = md n (60 : Int) ∧ m = m ∧ true = true ∧ mdS nums text = mdS nums text ∧ mdL nums = mdL nums)) ∧
 ∀ (x4 : Unit),
 Nat.le (ByteArray.size t) (40 : Nat) →
 List.length (mdL nums) ≤ (4294967296 : Nat) ∧
 ByteArray.size t ≤ (4294967296 : Nat) ∧
 (((r4E (mdL nums) t (md n (60 : Int)) == (0 : Int)) = true →
 List.length (mdL nums) ≤ (4294967296 : Nat) ∧
 ByteArray.size (r4O (mdL nums) t (md n (60 : Int))) ≤ (40000 : Nat) ∧
 ((w4E (mdL nums) (r4O (mdL nums) t (md n (60 : Int))) != (0 : Int)) = true → false = true) ∧
 ((w4E (mdL nums) (r4O (mdL nums) t (md n (60 : Int))) != (0 : Int)) = false →
 ((!ByteArray.toList (w4O (mdL nums) (r4O (mdL nums) t (md n (60 : Int)))) == ByteArray.toList t) = true → false = true) ∧
 ((!ByteArray.toList (w4O (mdL nums) (r4O (mdL nums) t (md n (60 : Int)))) == ByteArray.toList t) = false →
 (((↑(ByteArray.size (r4O (mdL nums) t (md n (60 : Int)))) : Int) != md n (60 : Int)) = true → false = true) ∧
 (((↑(ByteArray.size (r4O (mdL nums) t (md n (60 : Int)))) : Int) != md n (60 : Int)) = false →
 ∃ (x5 : Unit),
 Nat.le (ByteArray.size t) (40 : Nat) ∧
 t = t ∧ md n (60 : Int) = md n (60 : Int) ∧ m = m ∧ true = true ∧ mdS nums text = mdS nums text ∧ mdL nums = mdL nums)))) ∧
 ((r4E (mdL nums) t (md n (60 : Int)) == (0 : Int)) = false →
 ∃ (x6 : Unit),
 Nat.le (ByteArray.size t) (40 : Nat) ∧ t = t ∧ md n (60 : Int) = md n (60 : Int) ∧ m = m ∧ true = true ∧ mdS nums text = mdS nums text ∧ mdL nums = mdL nums)) ∧
 ∀ (x7 : Unit),
 Nat.le (ByteArray.size t) (40 : Nat) →
 List.length (mdL nums) ≤ (4294967296 : Nat) ∧
 ByteArray.size (mdS nums text) ≤ (40000 : Nat) ∧
 ((txE (mdL nums) (mdS nums text) != (0 : Int)) = true → false = true) ∧
 ((txE (mdL nums) (mdS nums text) != (0 : Int)) = false →
 (((↑(ByteArray.size (wrO (mdL nums) (mdS nums text))) : Int) == (0 : Int)) = true → false = true) ∧
 (((↑(ByteArray.size (wrO (mdL nums) (mdS nums text))) : Int) == (0 : Int)) = false →
 (0 : Int) ≤ (0 : Int) ∧
 (0 : Int) ≤ IntKind.wrap IntKind.i64 ((↑(ByteArray.size (wrO (mdL nums) (mdS nums text))) : Int) - (1 : Int)) ∧
 IntKind.wrap IntKind.i64 ((↑(ByteArray.size (wrO (mdL nums) (mdS nums text))) : Int) - (1 : Int)) ≤
 (↑(ByteArray.size (wrO (mdL nums) (mdS nums text))) : Int) ∧
 List.length (mdL nums) ≤ (4294967296 : Nat) ∧
 ByteArray.size
 (ByteArray.extract (wrO (mdL nums) (mdS nums text)) (Int.toNat (0 : Int))
 (Int.toNat (IntKind.wrap IntKind.i64 ((↑(ByteArray.size (wrO (mdL nums) (mdS nums text))) : Int) - (1 : Int))))) ≤
 (4294967296 : Nat) ∧
 ByteArray.size (wrO (mdL nums) (mdS nums text)) + ByteArray.size (strOfNums [m]) ≤ (9223372036854775807 : Nat) ∧
 List.length (mdL nums) ≤ (4294967296 : Nat) ∧
 ByteArray.size (wrO (mdL nums) (mdS nums text) ++ strOfNums [m]) ≤ (4294967296 : Nat) ∧
 (true = true →
 ((rE (mdL nums)
 (ByteArray.extract (wrO (mdL nums) (mdS nums text)) (Int.toNat (0 : Int))
 (Int.toNat (IntKind.wrap IntKind.i64 ((↑(ByteArray.size (wrO (mdL nums) (mdS nums text))) : Int) - (1 : Int)))))
 (↑(ByteArray.size (mdS nums text)) : Int) !=
 (0 : Int)) =
 true →
 ((rE (mdL nums) (wrO (mdL nums) (mdS nums text) ++ strOfNums [m]) (↑(ByteArray.size (mdS nums text)) : Int) != (0 : Int)) = true →
 true = true) ∧
 ((rE (mdL nums) (wrO (mdL nums) (mdS nums text) ++ strOfNums [m]) (↑(ByteArray.size (mdS nums text)) : Int) != (0 : Int)) = false →
 (!ByteArray.toList (rO (mdL nums) (wrO (mdL nums) (mdS nums text) ++ strOfNums [m]) (↑(ByteArray.size (mdS nums text)) : Int)) ==
 ByteArray.toList (mdS nums text)) =
 true)) ∧
 ((rE (mdL nums)
 (ByteArray.extract (wrO (mdL nums) (mdS nums text)) (Int.toNat (0 : Int))
 (Int.toNat (IntKind.wrap IntKind.i64 ((↑(ByteArray.size (wrO (mdL nums) (mdS nums text))) : Int) - (1 : Int)))))
 (↑(ByteArray.size (mdS nums text)) : Int) !=
 (0 : Int)) =
 false →
 ((!ByteArray.toList
 (rO (mdL nums)
 (ByteArray.extract (wrO (mdL nums) (mdS nums text)) (Int.toNat (0 : Int))
 (Int.toNat (IntKind.wrap IntKind.i64 ((↑(ByteArray.size (wrO (mdL nums) (mdS nums text))) : Int) - (1 : Int)))))
 (↑(ByteArray.size (mdS nums text)) : Int)) ==
 ByteArray.toList (mdS nums text)) =
 true →
 ((rE (mdL nums) (wrO (mdL nums) (mdS nums text) ++ strOfNums [m]) (↑(ByteArray.size (mdS nums text)) : Int) != (0 : Int)) = true →
 true = true) ∧
 ((rE (mdL nums) (wrO (mdL nums) (mdS nums text) ++ strOfNums [m]) (↑(ByteArray.size (mdS nums text)) : Int) != (0 : Int)) =
 false →
 (!ByteArray.toList
 (rO (mdL nums) (wrO (mdL nums) (mdS nums text) ++ strOfNums [m]) (↑(ByteArray.size (mdS nums text)) : Int)) ==
 ByteArray.toList (mdS nums text)) =
 true)) ∧
 ((!ByteArray.toList
 (rO (mdL nums)
 (ByteArray.extract (wrO (mdL nums) (mdS nums text)) (Int.toNat (0 : Int))
 (Int.toNat (IntKind.wrap IntKind.i64 ((↑(ByteArray.size (wrO (mdL nums) (mdS nums text))) : Int) - (1 : Int)))))
 (↑(ByteArray.size (mdS nums text)) : Int)) ==
 ByteArray.toList (mdS nums text)) =
 false →
 false = true))) ∧
 (true = false → false = true)))
theorem lawOnR_e (nums text : List Int) (t : ByteArray) (n m : Int) : lawOnR_t nums text t n m = vcG Try.prog (Gof GUj) (oOn (mdL nums) (mdS nums text) t n m) Try.f7 [.dat (.ints .i64 nums), .dat (.ints .i64 text), .v (.string t), .v (.int .i64 n), .v (.int .u8 m)] [] (.leaf ((.v (.bool true))) ([])) := by kernel_rfl
end Go.Proofs.Ytmdbliacaeokaaa
namespace Go.Proofs.Ytmdbliacaeokaaa
open Go Go.RowKit
set_option linter.unusedVariables false
set_option linter.unusedSimpArgs false
set_option maxRecDepth 100000
theorem pos_of {l : List Int} {k : Nat} (hk : k < l.length) (h : 0 < l.getD k 0) : (k : Int) ∈ posL l := by
  obtain ⟨i, hi, e⟩ := ord_has hk h
  have hs := (sym_eq hi).1
  have hm : symI l i ∈ syms l := by
    refine (ordS_perm l).mem_iff.1 ?_
    unfold symI
    rw [List.getD_eq_getElem?_getD, List.getElem?_eq_getElem hi]
    exact List.getElem_mem hi
  unfold posL
  refine List.mem_map.2 ⟨symI l i, hm, ?_⟩
  rw [hs, e]
  rfl
theorem md_codd (nums : List Int) {j : Nat} (h : j < cmN nums) : codd (mdL nums) (97 + (j : Int)) := by
  obtain ⟨m1, m2, m3⟩ := md_ok nums
  have hb := cmN_bd nums
  have hl := cmP_len nums (show cmN nums ≤ 13 by omega)
  have hX := cmX_bd nums j
  have hg : (cmL nums).getD (97 + j) 0 = cmX nums j := by
    show (cmP nums (cmN nums)).getD (97 + j) 0 = _
    unfold cmP
    rw [List.getD_eq_getElem?_getD, List.getElem?_append_right (by rw [List.length_replicate]; omega), List.length_replicate, show 97 + j - 97 = j by omega, List.getElem?_append_left (by rw [List.length_map, List.length_range]; exact h), List.getElem?_map, List.getElem?_range h]
    rfl
  have hp : ((97 + j : Nat) : Int) ∈ posL (mdL nums) := by
    rw [m3]
    exact pos_of (l := cmL nums) (by show 97 + j < (cmP nums (cmN nums)).length; omega) (by rw [hg]; omega)
  obtain ⟨p1, p2, p3⟩ := posL_rng hp
  rw [toNat_cast] at p3
  refine ⟨by omega, by omega, ?_⟩
  rw [show (97 + (j : Int)).toNat = 97 + j by omega]
  exact p3
theorem mdC_mem {nums text : List Int} {i : Nat} {x : Int} (h : x ∈ mdC nums text i) : codd (mdL nums) x ∧ 0 ≤ x ∧ x < 256 := by
  unfold mdC at h
  obtain ⟨y, _, rfl⟩ := List.mem_map.1 h
  have hb := cmN_bd nums
  have hm := md_bd (x := y) (show (1 : Int) ≤ (cmN nums : Nat) by omega)
  obtain ⟨j, hj⟩ := Int.eq_ofNat_of_zero_le hm.1
  have := md_codd nums (j := j) (by omega)
  rw [hj]
  exact ⟨this, by omega, by omega⟩
structure MsOk (nums text : List Int) : Prop where
  c : chk (mdL nums) = 0
  len : (mdL nums).length = 110
  sz : (mdS nums text).size ≤ 100
  t : txOk (mdL nums) (mdS nums text)
theorem ms_ok (nums text : List Int) : MsOk nums text := by
  obtain ⟨m1, m2, m3⟩ := md_ok nums
  refine ⟨m1, m2, ?_, ?_⟩
  · unfold mdS
    rw [strOfNums_size, mdC_len nums text (by omega)]
    omega
  · unfold txOk mdS
    rw [bytesN_str fun x hx => (mdC_mem hx).2]
    exact fun x hx => (mdC_mem hx).1
theorem toL_eq {a b : ByteArray} (h : a = b) : (a.toList == b.toList) = true := by rw [h]; simp
theorem toL_ne {a b : ByteArray} (h : a ≠ b) : (a.toList == b.toList) = false := by
  rw [beq_eq_false_iff_ne]
  exact fun e => h (bytes_eq e)
theorem rE_0 {l : List Int} {b : ByteArray} {n : Int} (hc : chk l = 0) (h0 : 0 ≤ n) (h1 : n ≤ 131072) (h : rE l b n = 0) : ∃ o, rdX l b n = some o ∧ rO l b n = strOfNums o := by
  obtain ⟨e1, e2⟩ := rO_ok (b := b) (nu_ok hc h0 h1)
  rw [e2] at h
  obtain ⟨o, ho⟩ := rdE_some h
  refine ⟨o, ho, ?_⟩
  rw [e1]
  unfold rdS
  rw [ho]
  rfl
theorem no_other {l : List Int} {s b : ByteArray} (hc : chk l = 0) (hs : s.size ≤ 131072) (hne : b ≠ wrH l s) (h : rE l b s.size = 0) : rO l b s.size ≠ s := by
  obtain ⟨o, ho, hO⟩ := rE_0 hc (by omega) (by omega) h
  obtain ⟨c1, c2, c3, c4, c5⟩ := rd_inj (good hc) (by omega) ho
  intro e
  rw [hO] at e
  rw [e] at c3
  exact hne c3.symm
theorem lawOnR_v (nums text : List Int) (t : ByteArray) (n m : Int) : lawOnR_t nums text t n m := by
  unfold lawOnR_t
  obtain ⟨hc, hl, hs, ht⟩ := ms_ok nums text
  generalize mdL nums = l at hc hl ht ⊢
  generalize mdS nums text = s at hs ht ⊢
  have hg := good hc
  have hN := md_bd (x := n) (show (1 : Int) ≤ 60 by omega)
  generalize md n 60 = N at hN ⊢
  refine ⟨⟨fun h => by simp at h, fun _ => ⟨fun _ => ⟨fun _ => (by first | rfl | trivial), fun h => by simp at h⟩, fun h => ⟨(), ?_, (by first | rfl | trivial), (by first | rfl | trivial), (by first | rfl | trivial), (by first | rfl | trivial), (by first | rfl | trivial), (by first | rfl | trivial)⟩⟩⟩, fun _ h40 => ⟨by omega, by omega, ?_, ⟨fun hr => ?_, fun hr => ⟨(), h40, (by first | rfl | trivial), (by first | rfl | trivial), (by first | rfl | trivial), (by first | rfl | trivial), (by first | rfl | trivial), (by first | rfl | trivial)⟩⟩, fun _ h40 => ⟨by omega, ?_, ⟨fun hr => ?_, fun hr => ⟨(), h40, (by first | rfl | trivial), (by first | rfl | trivial), (by first | rfl | trivial), (by first | rfl | trivial), (by first | rfl | trivial), (by first | rfl | trivial)⟩⟩, fun _ _ => ?_⟩⟩⟩
  · have : ¬ (t.size : Int) > 40 := by simpa using h
    rw [nle]
    omega
  · rw [nle] at h40; omega
  · obtain ⟨o, ho, hO⟩ := rE_0 hc hN.1 (by omega) (eq_of_beq hr)
    obtain ⟨c1, c2, c3, c4, c5⟩ := rd_inj hg hN.1 ho
    have hsz : (strOfNums o).size = o.length := strOfNums_size o
    have hx : txE l (strOfNums o) = 0 := ok_tx (chk_lchk hc) (by omega) c5
    rw [hO, hx, (wrO_ok hx).1, c3, toL_eq rfl, hsz, c2]
    exact ⟨by omega, by omega, fun h => by simp at h, fun _ => ⟨fun h => by simp at h, fun _ => ⟨fun h => by simp at h, fun _ => ⟨(), h40, (by first | rfl | trivial), (by first | rfl | trivial), (by first | rfl | trivial), (by first | rfl | trivial), (by first | rfl | trivial), (by first | rfl | trivial)⟩⟩⟩⟩
  · rw [nle] at h40; omega
  · obtain ⟨i1, i2, i3, i4⟩ := in4_ok hc (by omega) (eq_of_beq hr)
    rw [i3, i4, toL_eq rfl, i1]
    exact ⟨by omega, by omega, fun h => by simp at h, fun _ => ⟨fun h => by simp at h, fun _ => ⟨fun h => by simp at h, fun _ => ⟨(), h40, (by first | rfl | trivial), (by first | rfl | trivial), (by first | rfl | trivial), (by first | rfl | trivial), (by first | rfl | trivial), (by first | rfl | trivial)⟩⟩⟩⟩
  · have hx : txE l s = 0 := ok_tx (chk_lchk hc) (by omega) ht
    have hw := (wrO_ok hx).1
    obtain ⟨w1, w2, w3, w4⟩ := wrt_ok hg ht
    have hws := wr_size hg ht (by omega)
    have e1 : IntKind.wrap IntKind.i64 (((wrH l s).size : Int) - 1) = ((wrH l s).size : Int) - 1 := wr (by omega) (by omega)
    have hm1 : (strOfNums [m]).size = 1 := strOfNums_size [m]
    rw [hx, hw, e1, app_size, hm1]
    have hb1 : ((wrH l s).extract (Int.toNat 0) (Int.toNat (((wrH l s).size : Int) - 1))).size = (wrH l s).size - 1 := by
      rw [ext_size (by omega), Int.toNat_zero]
      omega
    rw [hb1]
    have n1 : rE l ((wrH l s).extract (Int.toNat 0) (Int.toNat (((wrH l s).size : Int) - 1))) s.size = 0 → rO l ((wrH l s).extract (Int.toNat 0) (Int.toNat (((wrH l s).size : Int) - 1))) s.size ≠ s := fun h =>
      no_other hc (by omega) (fun e => by rw [e] at hb1; omega) h
    have n2 : rE l (wrH l s ++ strOfNums [m]) s.size = 0 → rO l (wrH l s ++ strOfNums [m]) s.size ≠ s := fun h =>
      no_other hc (by omega) (fun e => by have := congrArg ByteArray.size e; rw [app_size, hm1] at this; omega) h
    refine ⟨by omega, by omega, fun h => by simp at h, fun _ => ⟨fun h => ?_, fun _ => ⟨by omega, by omega, by omega, by omega, by omega, by omega, by omega, by omega, fun _ => ⟨fun _ => ⟨fun _ => (by first | rfl | trivial), fun h2 => ?_⟩, fun h1 => ⟨fun _ => ⟨fun _ => (by first | rfl | trivial), fun h2 => ?_⟩, fun h3 => ?_⟩⟩, fun h => by simp at h⟩⟩⟩
    · have : ((wrH l s).size : Int) = 0 := eq_of_beq h
      omega
    · rw [toL_ne (n2 (eq0 h2))]; rfl
    · rw [toL_ne (n2 (eq0 h2))]; rfl
    · rw [toL_ne (n1 (eq0 h1))] at h3
      cases h3
theorem honce_any (A : Option Addr) (k cap : Nat) (zs : List Int) (A2 : Option Addr) (k2 cap2 : Nat) (zs2 : List Int) (t : ByteArray) (n m : Int) (W : World) (hI : IntsIn W A k cap zs) (hI2 : IntsIn W A2 k2 cap2 zs2) (hs : t.size ≤ 9223372036854775807) (hn : InR n) (hm : 0 ≤ m ∧ m < 256) :
    Calls Try.prog 7 #[.slice A k cap, .slice A2 k2 cap2, .string t, .int .i64 n, .int .u8 m] W fun e w' => e = .returned (.bool true) ∧ Below W.heap.size W w' := by
  refine law_true (us := [.slice A k cap, .slice A2 k2 cap2, .string t, .int .i64 n, .int .u8 m]) (satG GUj_ok mixed Try.func7 (lawOnR_e (zs.take k) (zs2.take k2) t n m) (lawOnR_v _ _ _ _ _)) (.inr rfl) ?_
  simp only [Reps]
  exact ⟨_, _, rfl, dat_ints hI, _, _, rfl, dat_ints hI2, _, _, rfl, rfl, _, _, rfl, rfl, _, _, rfl, rfl, rfl⟩
end Go.Proofs.Ytmdbliacaeokaaa
