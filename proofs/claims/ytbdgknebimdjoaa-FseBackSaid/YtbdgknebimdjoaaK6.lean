/-
  Texts joined: HN, HO, HP, HQ. Conditions: each theorem's own.
-/
import Derived.Test.YtbdgknebimdjoaaK5
namespace Go.Proofs.Ytbdgknebimdjoaa
open Go Go.RowKit
set_option linter.unusedVariables false
set_option linter.unusedSimpArgs false
set_option maxRecDepth 100000
theorem cellsF_nth (s : Int) : ∀ (a : List Int) (c : Int) (q : Nat), q < (cellsF s c a).length → ∃ i : Nat, i < a.length ∧ (cellsF s c a).getD q 0 = c + i ∧ a.getD i 0 = s ∧ (a.take i).count s = q
  | [], c, q, h => by simp [cellsF] at h
  | x :: r, c, q, h => by
    have e : cellsF s c (x :: r) = cond (x == s) (c :: cellsF s (c + 1) r) (cellsF s (c + 1) r) := rfl
    cases hx : x == s
    · rw [hx, cond_false] at e
      rw [e] at h ⊢
      obtain ⟨i, h1, h2, h3, h4⟩ := cellsF_nth s r (c + 1) q h
      refine ⟨i + 1, by simpa using h1, by rw [h2]; push_cast; omega, h3, ?_⟩
      rw [List.take_succ_cons, List.count_cons_of_ne (by simpa using hx), h4]
    · rw [hx, cond_true] at e
      rw [e] at h ⊢
      have hx : x = s := by simpa using hx
      cases q with
      | zero => exact ⟨0, by simp, by show c = c + ((0 : Nat) : Int); omega, hx, rfl⟩
      | succ q =>
        obtain ⟨i, h1, h2, h3, h4⟩ := cellsF_nth s r (c + 1) q (by simpa using h)
        refine ⟨i + 1, by simpa using h1, ?_, h3, ?_⟩
        · show (cellsF s (c + 1) r).getD q 0 = _
          rw [h2]; push_cast; omega
        · rw [List.take_succ_cons, hx, List.count_cons_self, h4]
theorem noD_rng {p : List Int} {s : Int} (hn : noD p s = false) : 0 ≤ s ∧ s < p.length := by
  refine ⟨?_, ?_⟩
  · rcases Int.lt_or_le s 0 with hs | hs
    · rw [noD_neg (decide_eq_true hs)] at hn; cases hn
    · exact hs
  · rcases Int.lt_or_le s p.length with hs | hs
    · exact hs
    · rw [noD_big (decide_eq_true hs)] at hn; cases hn
theorem celT_cells {g : Int} {p : List Int} (h : dchk g p = 0) {s : Int} (hn : noD p s = false) : celT (encL g p) s = cellsF s 0 (spr g p) := by
  obtain ⟨h0, h1⟩ := noD_rng hn
  obtain ⟨k, rfl⟩ := Int.eq_ofNat_of_zero_le h0
  have hk : k < p.length := by omega
  have hlen : (statesL p.length (spr g p)).length = p.length := by rw [← states_all, states_len]
  rw [(enc_good h).2, celT_in (by omega) (by rw [hlen]; exact h1), toNat_cast, ← states_all, states_get hk, cellsP_all]
  rfl
structure CellAt (g : Int) (p : List Int) (s : Int) (q : Nat) (i : Nat) : Prop where
  y : (celT (encL g p) s).getD q 0 = (i : Int)
  lt : i < (spr g p).length
  sym : (spr g p).getD i 0 = s
  num : celX p (spr g p) i = pt (p.getD s.toNat 0) + (q : Nat)
theorem cel_nth {g : Int} {p : List Int} (h : dchk g p = 0) {s : Int} (hn : noD p s = false) {q : Nat} (hq : q < (celT (encL g p) s).length) : ∃ i, CellAt g p s q i := by
  have e := celT_cells h hn
  rw [e] at hq
  obtain ⟨i, h1, h2, h3, h4⟩ := cellsF_nth s (spr g p) 0 q hq
  refine ⟨i, by rw [e, h2]; omega, h1, h3, ?_⟩
  unfold celX
  rw [h3, h4]
structure DecAt (g : Int) (p : List Int) (i : Nat) : Prop where
  s : cS (decL g p) (i : Int) = (spr g p).getD i 0
  b : cB (decL g p) (i : Int) = g - hiI (celX p (spr g p) i)
  a : cA (decL g p) (i : Int) = celX p (spr g p) i * 2 ^ (g - hiI (celX p (spr g p) i)).toNat - 2 ^ g.toNat
theorem dec_at {g : Int} {p : List Int} {i : Nat} (h : i < (spr g p).length) : DecAt g p i := by
  have e : (decL g p).getD (Int.toNat (i : Int)) [] = celR g p (spr g p) i := by rw [toNat_cast]; exact cel_get h
  refine ⟨?_, ?_, ?_⟩
  · unfold cS; rw [e]; rfl
  · unfold cB; rw [e]; rfl
  · unfold cA; rw [e]; rfl
theorem dec_first {g : Int} {p : List Int} (h : dchk g p = 0) {s : Int} (hn : noD p s = false) (hc : noC (encL g p) s = false) : cS (decL g p) ((celT (encL g p) s).getD 0 0) = s ∧ cB (decL g p) ((celT (encL g p) s).getD 0 0) = g - hiI (pt (p.getD s.toNat 0)) := by
  obtain ⟨i, hi⟩ := cel_nth h hn (q := 0) (by have := noC_ne hc; omega)
  have hd := dec_at hi.lt
  have e := hi.num
  rw [show ((0 : Nat) : Int) = 0 from rfl, Int.add_zero] at e
  rw [hi.y]
  exact ⟨by rw [hd.s, hi.sym], by rw [hd.b, e]⟩
theorem dec_put {g : Int} {p : List Int} (h : dchk g p = 0) {x s : Int} (hx0 : 0 ≤ x) (hx1 : x < (szN g : Int)) (hn : noD p s = false) (hc : noC (encL g p) s = false) :
    cS (decL g p) (putS g (encL g p) x s) = s ∧ cB (decL g p) (putS g (encL g p) x s) = putN g (encL g p) x s ∧ cA (decL g p) (putS g (encL g p) x s) + putV g (encL g p) x s = x := by
  have hT := enc_tok h
  have hst := stpN hT.g0 hT.g12 hx0 hx1 hc (hT.cel_le s)
  have hX := hi_X hT.g0 hx0 hx1
  have hpt := cel_pt h hn
  have n0 := hst.nb.n0
  have n1 := hst.nb.nle
  have lo := hst.nb.lo
  have hi := hst.nb.hi
  rw [hX] at n1
  have eN : nbI (putX g x) ((celT (encL g p) s).length : Int) = putN g (encL g p) x s := rfl
  rw [eN] at n0 n1 lo hi
  obtain ⟨i, hi2⟩ := cel_nth h hn (q := (putX g x / 2 ^ (putN g (encL g p) x s).toNat - ((celT (encL g p) s).length : Int)).toNat) (by omega)
  have eS : putS g (encL g p) x s = (i : Int) := hi2.y
  have hd := dec_at hi2.lt
  have eY : celX p (spr g p) i = putX g x / 2 ^ (putN g (encL g p) x s).toNat := by rw [hi2.num, ← hpt]; omega
  have hq := pow_pos' (putN g (encL g p) x s).toNat
  have hdm := Int.emod_add_mul_ediv (putX g x) (2 ^ (putN g (encL g p) x s).toNat)
  have hm0 := Int.emod_nonneg (putX g x) (show (2 : Int) ^ (putN g (encL g p) x s).toNat ≠ 0 by omega)
  have hm1 := Int.emod_lt_of_pos (putX g x) hq
  have g0 := hT.g0
  have hz := szI g
  have X1 := hst.X1
  have X2 := hst.X2
  have ep : (2 : Int) ^ (g - putN g (encL g p) x s).toNat * 2 ^ (putN g (encL g p) x s).toNat = 2 ^ g.toNat := by
    rw [← Int.pow_add]; congr 1; omega
  have hhi : hiI (putX g x / 2 ^ (putN g (encL g p) x s).toNat) = g - putN g (encL g p) x s := by
    have h1 : (2 : Int) ^ (g - putN g (encL g p) x s).toNat ≤ putX g x / 2 ^ (putN g (encL g p) x s).toNat := Int.le_ediv_of_mul_le hq (by omega)
    have h2 : putX g x / 2 ^ (putN g (encL g p) x s).toNat < 2 ^ ((g - putN g (encL g p) x s).toNat + 1) := by
      refine Int.ediv_lt_of_lt_mul hq ?_
      rw [Int.pow_succ, Int.mul_right_comm, ep]
      omega
    rw [hi_eq h1 h2]
    omega
  rw [eS]
  refine ⟨by rw [hd.s, hi2.sym], by rw [hd.b, eY, hhi]; omega, ?_⟩
  rw [hd.a, eY, hhi, show g - (g - putN g (encL g p) x s) = putN g (encL g p) x s by omega]
  show _ + putX g x % 2 ^ (putN g (encL g p) x s).toNat = x
  have hXx : putX g x = x + (szN g : Int) := rfl
  rw [Int.mul_comm] at hdm
  omega
end Go.Proofs.Ytbdgknebimdjoaa
namespace Go.Proofs.Ytbdgknebimdjoaa
open Go Go.RowKit
set_option linter.unusedVariables false
set_option linter.unusedSimpArgs false
set_option maxRecDepth 100000
def vk (g : Int) (t : List (List Int)) (l : List Int) (c k : Nat) : Int := valW (fwS g t l c k) (fwP g t l c k)
def tk (g : Int) (t : List (List Int)) (l : List Int) (c k : Nat) : Nat := lenW (fwS g t l c k) (fwN g t l c k)
theorem vk_rng {g : Int} {p l : List Int} {c : Nat} (h : AskOk g p l c) {k : Nat} (hk : k ≤ l.length) : 0 ≤ vk g (encL g p) l c k ∧ vk g (encL g p) l c k < 2 ^ tk g (encL g p) l c k := by
  have hb := fw_bd (c := c) h.T h.nc k hk
  exact valW_rng hb.p0 hb.p1
theorem fw_val {g : Int} {p l : List Int} {c : Nat} (h : AskOk g p l c) {k : Nat} (hc : c ≤ k) (hk : k < l.length) :
    vk g (encL g p) l c (k + 1) = vk g (encL g p) l c k + putV g (encL g p) ((fwX g (encL g p) l c k).getD (nthI l k % c) 0) (nthS l k) * 2 ^ tk g (encL g p) l c k ∧
    tk g (encL g p) l c (k + 1) = tk g (encL g p) l c k + (putN g (encL g p) ((fwX g (encL g p) l c k).getD (nthI l k % c) 0) (nthS l k)).toNat := by
  have hb := fw_bd (c := c) h.T h.nc k (by omega)
  have hs : noC (encL g p) (nthS l k) = false := any_get h.nc (by unfold nthI; omega)
  have hp := put_nums (s := nthS l k) h.T (hb.x0 (nthI l k % c)) (hb.x1 (nthI l k % c)) hs hb.n0 hb.n7 hb.p0 hb.p1
  have e := fw_put (g := g) (t := encL g p) (l := l) (c := c) (k := k) (by omega)
  have := put_val (s := fwS g (encL g p) l c k) hp
  unfold vk tk
  have eS : fwS g (encL g p) l c (k + 1) = _ := congrArg (fun r => r.2.1) e
  have eP : fwP g (encL g p) l c (k + 1) = _ := congrArg (fun r => r.2.2.1) e
  have eN : fwN g (encL g p) l c (k + 1) = _ := congrArg (fun r => r.2.2.2) e
  rw [eS, eP, eN]
  exact this
theorem fw_none (g : Int) (t : List (List Int)) (l : List Int) (c : Nat) : ∀ k, k ≤ c → tk g t l c k = 0
  | 0, _ => rfl
  | k + 1, h => by
    have e := fw_first (g := g) (t := t) (l := l) (c := c) (k := k) (by omega)
    have eS : fwS g t l c (k + 1) = fwS g t l c k := congrArg (fun r => r.2.1) e
    have eN : fwN g t l c (k + 1) = fwN g t l c k := congrArg (fun r => r.2.2.2) e
    have ih := fw_none g t l c k (by omega)
    unfold tk at ih ⊢
    rw [eS, eN]
    exact ih
structure StepB (g : Int) (p l : List Int) (c k : Nat) (S : ByteArray) (y : Int) : Prop where
  e : tkE S ((tk g (encL g p) l c (k + 1) : Nat) : Int) (cB (decL g p) y) = 0
  v : cA (decL g p) y + tkV S ((tk g (encL g p) l c (k + 1) : Nat) : Int) (cB (decL g p) y) = (fwX g (encL g p) l c k).getD (nthI l k % c) 0
  nl : nxL S ((tk g (encL g p) l c (k + 1) : Nat) : Int) (cB (decL g p) y) = ((tk g (encL g p) l c k : Nat) : Int)
  m : dgS S % 2 ^ tk g (encL g p) l c k = vk g (encL g p) l c k
  s : cS (decL g p) y = nthS l k
theorem step_back {g : Int} {p l : List Int} {c : Nat} (h : AskOk g p l c) {S : ByteArray} (hb : bkE S = 0) {k : Nat} (hc : c ≤ k) (hk : k < l.length) (hm : dgS S % 2 ^ tk g (encL g p) l c (k + 1) = vk g (encL g p) l c (k + 1)) (hle : ((tk g (encL g p) l c (k + 1) : Nat) : Int) ≤ bkN S) :
    StepB g p l c k S (putS g (encL g p) ((fwX g (encL g p) l c k).getD (nthI l k % c) 0) (nthS l k)) := by
  have hb2 := fw_bd (c := c) h.T h.nc k (by omega)
  have hx0 := hb2.x0 (nthI l k % c)
  have hx1 := hb2.x1 (nthI l k % c)
  have hs : noC (encL g p) (nthS l k) = false := any_get h.nc (by unfold nthI; omega)
  have hsD : noD p (nthS l k) = false := any_get h.no (by unfold nthI; omega)
  obtain ⟨d1, d2, d3⟩ := dec_put h.d hx0 hx1 hsD hs
  obtain ⟨v1, v2⟩ := fw_val h hc hk
  have hv := vk_rng (c := c) h (k := k) (by omega)
  have hpb := put_bd h.T hx0 hx1 hs
  have hp := put_nums (s := nthS l k) h.T hx0 hx1 hs hb2.n0 hb2.n7 hb2.p0 hb2.p1
  rw [v1] at hm
  have hle' := hle
  rw [v2] at hm hle'
  have ht := take_num (s := S) (T := tk g (encL g p) l c k) (n := (putN g (encL g p) ((fwX g (encL g p) l c k).getD (nthI l k % c) 0) (nthS l k)).toNat) hb hle' (by omega) hm hv.1 hv.2 hp.v0 hp.v1
  rw [← v2, show (((putN g (encL g p) ((fwX g (encL g p) l c k).getD (nthI l k % c) 0) (nthS l k)).toNat : Nat) : Int) = putN g (encL g p) ((fwX g (encL g p) l c k).getD (nthI l k % c) 0) (nthS l k) by omega] at ht
  obtain ⟨t1, t2, t3, t4⟩ := ht
  exact ⟨by rw [d2]; exact t1, by rw [d2, t2]; exact d3, by rw [d2]; exact t3, t4, d1⟩
structure Str1 (g : Int) (p l : List Int) (S : ByteArray) : Prop where
  e : bkE S = 0
  n : bkN S = ((tk g (encL g p) l 1 l.length + g.toNat : Nat) : Int)
  m : dgS S % 2 ^ (tk g (encL g p) l 1 l.length + g.toNat) = vk g (encL g p) l 1 l.length + (fwX g (encL g p) l 1 l.length).getD 0 0 * 2 ^ tk g (encL g p) l 1 l.length
theorem str1 {g : Int} {p l : List Int} (h : AskOk g p l 1) : Str1 g p l (wrtS g p l 1) := by
  have hf0 := ff_bd (c := 1) h.T h.nc 0
  have hf1 := ff_bd (c := 1) h.T h.nc 1
  have hp := ff_num h.T h.nc hf0.n0 hf0.n7 hf0.p0 hf0.p1 0
  have hd := done_val (s := ffS g (encL g p) l 1 1) hf1.n0 hf1.n7 hf1.p0 hf1.p1
  have hw : wrtS g p l 1 = dS (ffS g (encL g p) l 1 1) (ffP g (encL g p) l 1 1) (ffN g (encL g p) l 1 1) := (wrt_good (c := 1) (ask_of h)).symm
  obtain ⟨v1, v2⟩ := put_val (s := ffS g (encL g p) l 1 0) hp
  have hv : valW (ffS g (encL g p) l 1 1) (ffP g (encL g p) l 1 1) = vk g (encL g p) l 1 l.length + (fwX g (encL g p) l 1 l.length).getD 0 0 * 2 ^ tk g (encL g p) l 1 l.length := v1
  have hl : lenW (ffS g (encL g p) l 1 1) (ffN g (encL g p) l 1 1) = tk g (encL g p) l 1 l.length + g.toNat := v2
  have hr := valW_rng (s := ffS g (encL g p) l 1 1) hf1.p0 hf1.p1
  have hs := hf1.size
  have hi := h.hi
  rw [hl, hv] at hr
  have hnb := hd.nb
  have hsz := hd.sz
  have hbn := hd.bn
  have hle := hd.le
  rw [hl] at hbn hle
  rw [hv] at hle
  rw [← hw] at hnb hsz hbn hle
  refine ⟨?_, hbn, ?_⟩
  · unfold bkE
    rw [decide_eq_false (by omega), hnb]
    rfl
  · rw [hle]
    have e : (vk g (encL g p) l 1 l.length + (fwX g (encL g p) l 1 l.length).getD 0 0 * 2 ^ tk g (encL g p) l 1 l.length + 2 ^ (tk g (encL g p) l 1 l.length + g.toNat)) = (vk g (encL g p) l 1 l.length + (fwX g (encL g p) l 1 l.length).getD 0 0 * 2 ^ tk g (encL g p) l 1 l.length) + 2 ^ (tk g (encL g p) l 1 l.length + g.toNat) * 1 := by omega
    rw [e, Int.add_mul_emod_self_left, Int.emod_eq_of_lt hr.1 hr.2]
structure Rd1 (g : Int) (p l : List Int) (S : ByteArray) (i : Nat) : Prop where
  x : rX S (bkN S) g (decL g p) i = (fwX g (encL g p) l 1 (l.length - i)).getD 0 0
  nl : rL S (bkN S) g (decL g p) i = ((tk g (encL g p) l 1 (l.length - i) : Nat) : Int)
  o : rO S (bkN S) g (decL g p) i = true
  m : dgS S % 2 ^ tk g (encL g p) l 1 (l.length - i) = vk g (encL g p) l 1 (l.length - i)
  b : ((tk g (encL g p) l 1 (l.length - i) : Nat) : Int) ≤ bkN S
theorem put_at1 {g : Int} {p l : List Int} (h : AskOk g p l 1) {k : Nat} (hc : 1 ≤ k) (hk : k < l.length) : (fwX g (encL g p) l 1 (k + 1)).getD 0 0 = putS g (encL g p) ((fwX g (encL g p) l 1 k).getD (nthI l k % 1) 0) (nthS l k) := by
  have e := fw_put (g := g) (t := encL g p) (l := l) (c := 1) (k := k) (by omega)
  have hb := fw_bd (c := 1) h.T h.nc k (by omega)
  rw [Nat.mod_one] at e ⊢
  have eX : fwX g (encL g p) l 1 (k + 1) = _ := congrArg Prod.fst e
  have hl := hb.len
  rw [eX, getD_set0 (by omega)]
theorem rd1 {g : Int} {p l : List Int} (h : AskOk g p l 1) : ∀ i, i < l.length → Rd1 g p l (wrtS g p l 1) i
  | 0, hi => by
    have hs := str1 h
    have hT := h.T
    have g0 := hT.g0
    have g12 := hT.g12
    have hv := vk_rng (c := 1) h (k := l.length) (Nat.le_refl _)
    have hb := fw_bd (c := 1) hT h.nc l.length (Nat.le_refl _)
    have hx1 := hb.x1 0
    rw [szI] at hx1
    have ht := take_num (s := wrtS g p l 1) (T := tk g (encL g p) l 1 l.length) (n := g.toNat) hs.e (by rw [hs.n]; exact Int.le_refl _) (by omega) hs.m hv.1 hv.2 (hb.x0 0) hx1
    rw [← hs.n, show ((g.toNat : Nat) : Int) = g by omega] at ht
    obtain ⟨t1, t2, t3, t4⟩ := ht
    refine ⟨t2, t3, ?_, t4, ?_⟩
    · show tkO _ _ _ = true
      unfold tkO
      exact beq0 t1
    · have := hs.n
      rw [Nat.sub_zero]
      omega
  | i + 1, hi => by
    have ih := rd1 h i (by omega)
    have hs := str1 h
    obtain ⟨k, hk⟩ : ∃ k, l.length - (i + 1) = k := ⟨_, rfl⟩
    have hk1 : l.length - i = k + 1 := by omega
    have i1 := ih.x; have i2 := ih.nl; have i4 := ih.m; have i5 := ih.b
    rw [hk1] at i1 i2 i4 i5
    have hb := step_back h hs.e (k := k) (by omega) (by omega) i4 i5
    rw [← put_at1 h (by omega) (by omega), ← i1] at hb
    have s1 := hb.e; have s2 := hb.v; have s3 := hb.nl; have s4 := hb.m
    rw [← i2] at s1 s2 s3
    rw [Nat.mod_one] at s2
    have f := fw_val h (c := 1) (k := k) (by omega) (by omega)
    refine ⟨?_, ?_, ?_, ?_, ?_⟩
    · rw [hk]; exact s2
    · rw [hk]; exact s3
    · show tkO _ _ _ = true
      unfold tkO
      exact beq0 s1
    · rw [hk]; exact s4
    · rw [hk]; have := f.2; omega
theorem sym1 {g : Int} {p l : List Int} (h : AskOk g p l 1) {i : Nat} (hi : i < l.length) : cS (decL g p) (rX (wrtS g p l 1) (bkN (wrtS g p l 1)) g (decL g p) i) = l.getD i 0 := by
  have hr := rd1 h i hi
  rw [hr.x]
  by_cases hl : i + 1 = l.length
  · have e1 : l.length - i = 0 + 1 := by omega
    have e := fw_first (g := g) (t := encL g p) (l := l) (c := 1) (k := 0) (by omega)
    have hx := (fw_bd (c := 1) h.T h.nc 0 (by omega)).len
    have eX : fwX g (encL g p) l 1 (0 + 1) = (fwX g (encL g p) l 1 0).set (nthI l 0 % 1) ((celT (encL g p) (nthS l 0)).getD 0 0) := congrArg Prod.fst e
    rw [Nat.mod_one] at eX
    rw [e1, eX, getD_set0 (by omega), (dec_first h.d (s := nthS l 0) (any_get h.no (by unfold nthI; omega)) (any_get h.nc (by unfold nthI; omega))).1]
    unfold nthS
    congr 1
    unfold nthI
    omega
  · obtain ⟨k, hk⟩ : ∃ k, l.length - i = k + 1 := ⟨l.length - i - 1, by omega⟩
    have r4 := hr.m; have r5 := hr.b
    rw [hk] at r4 r5
    have hb := step_back h (str1 h).e (k := k) (by omega) (by omega) r4 r5
    rw [hk, put_at1 h (by omega) (by omega), hb.s]
    unfold nthS
    congr 1
    unfold nthI
    omega
theorem gd_all {ok : Nat → Bool} {n : Nat} (h : ∀ k, k < n → ok k = true) : gdN ok n = n := by
  rcases Nat.lt_or_ge (gdN ok n) n with h1 | h1
  · have := gd_stop ok n h1
    rw [h _ h1] at this
    cases this
  · have := gd_le ok n
    omega
theorem map_getD {l : List Int} {n : Nat} (hn : l.length = n) {f : Nat → Int} (h : ∀ i, i < n → f i = l.getD i 0) : (List.range n).map f = l := by
  refine List.ext_getElem? fun i => ?_
  rw [List.getElem?_map]
  by_cases hi : i < n
  · rw [List.getElem?_range hi, List.getElem?_eq_getElem (by omega)]
    have := h i hi
    rw [List.getD_eq_getElem?_getD, List.getElem?_eq_getElem (by omega)] at this
    simp only [Option.map_some, Option.getD_some] at this ⊢
    rw [this]
  · rw [List.getElem?_eq_none (by simpa using hi), List.getElem?_eq_none (by omega)]
    rfl
theorem rG1 {g : Int} {p l : List Int} (h : AskOk g p l 1) : rG (wrtS g p l 1) (bkN (wrtS g p l 1)) g (decL g p) l.length = l.length := gd_all fun k hk => (rd1 h k hk).o
theorem left1 {g : Int} {p l : List Int} (h : AskOk g p l 1) : rL (wrtS g p l 1) (bkN (wrtS g p l 1)) g (decL g p) (l.length - 1) = 0 := by
  have hlo := h.lo
  rw [(rd1 h (l.length - 1) (by omega)).nl, show l.length - (l.length - 1) = 1 by omega, fw_none _ _ _ _ 1 (Nat.le_refl _)]
  rfl
theorem read_back1 {g : Int} {p l : List Int} (h : AskOk g p l 1) : rdE g p (wrtS g p l 1) (l.length : Int) = 0 ∧ rdO g p (wrtS g p l 1) (l.length : Int) = l := by
  have hlo := h.lo
  have hhi := h.hi
  have e := rd_end (s := wrtS g p l 1) (n := (l.length : Int)) (l := 0) h.d (by omega) (by omega) (str1 h).e (by rw [toNat_cast]; exact rG1 h) (by rw [toNat_cast]; exact (left1 h).symm)
  obtain ⟨e1, e2⟩ := e.2 rfl
  refine ⟨e2.symm, ?_⟩
  rw [← e1, toNat_cast]
  exact map_getD rfl fun i hi => sym1 h hi
structure Shift (b : Int) (S S' : ByteArray) : Prop where
  s : S' = strOfNums [b] ++ S
  b0 : 0 ≤ b
  b1 : b < 256
  e : bkE S = 0
  e' : bkE S' = 0
theorem Shift.sz {b : Int} {S S' : ByteArray} (h : Shift b S S') : S'.size = S.size + 1 := by
  rw [h.s, app_size, strOfNums_size, List.length_singleton]
  omega
theorem shift_le {b : Int} (h0 : 0 ≤ b) (h1 : b < 256) (S : ByteArray) : dgS (strOfNums [b] ++ S) = b + 256 * dgS S := by
  have hb : byteR [b] := fun x hx => by rw [List.mem_singleton.1 hx]; exact ⟨h0, h1⟩
  have hsz : (strOfNums [b]).size = 1 := by rw [strOfNums_size]; rfl
  rw [dgS_app, dgS_str hb, hsz]
  show b + 256 * 0 + 2 ^ (8 * 1) * dgS S = _
  rw [show (2 : Int) ^ (8 * 1) = 256 from rfl, Int.mul_zero, Int.add_zero]
theorem shift_last {b : Int} (h0 : 0 ≤ b) (h1 : b < 256) {S : ByteArray} (hS : 0 < S.size) : lastB (strOfNums [b] ++ S) = lastB S := by
  have hsz : (strOfNums [b] ++ S).size = S.size + 1 := by rw [app_size, strOfNums_size, List.length_singleton]; omega
  have e1 := byI_dig (s := strOfNums [b] ++ S) (i := S.size) (by omega)
  have e2 := byI_dig (s := S) (i := S.size - 1) (by omega)
  have l1 : lastB (strOfNums [b] ++ S) = byI (strOfNums [b] ++ S) S.size := by unfold lastB byI; rw [hsz, Nat.add_sub_cancel]
  have l2 : lastB S = byI S (S.size - 1) := rfl
  rw [l1, l2, e1, e2, shift_le h0 h1]
  obtain ⟨n, hn⟩ : ∃ n, S.size = n + 1 := ⟨S.size - 1, by omega⟩
  rw [hn, Nat.add_sub_cancel, Int.pow_succ, Int.mul_comm (256 ^ n) 256, ← Int.ediv_ediv_of_nonneg (by decide)]
  congr 2
  omega
theorem Shift.N {b : Int} {S S' : ByteArray} (h : Shift b S S') : bkN S' = bkN S + 8 := by
  obtain ⟨k1, _⟩ := bkE_0 h.e
  obtain ⟨k2, _⟩ := bkE_0 h.e'
  have hz := (noB_size k1).1
  have hl := shift_last h.b0 h.b1 hz
  rw [← h.s] at hl
  unfold bkN
  rw [k1, k2, hl, h.sz]
  simp only [cond_false]
  omega
theorem Shift.pk {b : Int} {S S' : ByteArray} (h : Shift b S S') {left n : Nat} (hl : left ≤ 8 * S.size) (hn : n ≤ left) : pkF S' ((left + 8 : Nat) : Int) n = pkF S (left : Int) n := by
  rw [pk_le (by have := h.sz; omega) n (by omega), pk_le hl n hn, h.s, shift_le h.b0 h.b1, show left + 8 - n = 8 + (left - n) by omega, Int.pow_add, show (2 : Int) ^ 8 = 256 from rfl, ← Int.ediv_ediv_of_nonneg (by decide)]
  congr 2
  have := h.b0; have := h.b1
  omega
theorem Shift.tk {b : Int} {S S' : ByteArray} (h : Shift b S S') {left n : Int} (hl0 : 0 ≤ left) (hl : left ≤ bkN S) (h0 : tkE S left n = 0) : tkE S' (left + 8) n = 0 ∧ tkV S' (left + 8) n = tkV S left n ∧ nxL S' (left + 8) n = nxL S left n + 8 := by
  obtain ⟨k1, _⟩ := bkE_0 h.e
  have hr := (bkN_rng k1).2.1
  obtain ⟨e1, e2⟩ := tk_0 h0
  have hk := pk_ok0 e1
  have n0 := hk.n0
  have h2 := (tk_iff h.e' (l := left + 8) (n := n) (by omega) (by rw [h.N]; omega) n0 hk.n1).1 (by omega)
  obtain ⟨_, _, v3, _, v5⟩ := tk_vals h0
  obtain ⟨_, _, w3, _, w5⟩ := tk_vals h2
  refine ⟨h2, ?_, by rw [v5, w5]; omega⟩
  rw [← v3, ← w3]
  obtain ⟨a, rfl⟩ := Int.eq_ofNat_of_zero_le hl0
  exact h.pk (left := a) (n := n.toNat) (by omega) (by omega)
theorem Shift.rd {b : Int} {S S' : ByteArray} (h : Shift b S S') {g : Int} {c : List (List Int)} : ∀ i, (∀ k, k ≤ i → rO S (bkN S) g c k = true) → rX S' (bkN S') g c i = rX S (bkN S) g c i ∧ rL S' (bkN S') g c i = rL S (bkN S) g c i + 8 ∧ rO S' (bkN S') g c i = true ∧ 0 ≤ rL S (bkN S) g c i ∧ rL S (bkN S) g c i ≤ bkN S
  | 0, ho => by
    obtain ⟨k1, _⟩ := bkE_0 h.e
    have hr := bkN_rng k1
    have h0 : tkE S (bkN S) g = 0 := by
      have := ho 0 (Nat.le_refl _)
      change tkO S (bkN S) g = true at this
      unfold tkO at this
      simpa using this
    obtain ⟨t1, t2, t3⟩ := h.tk hr.2.2 (Int.le_refl _) h0
    rw [← h.N] at t1 t2 t3
    have := nx_rng (s := S) (l := bkN S) (n := g) hr.2.2 (Int.le_refl _)
    exact ⟨t2, t3, by show tkO _ _ _ = true; unfold tkO; exact beq0 t1, this.1, this.2⟩
  | i + 1, ho => by
    obtain ⟨i1, i2, i3, i4, i5⟩ := h.rd i fun k hk => ho k (by omega)
    have h0 : tkE S (rL S (bkN S) g c i) (cB c (rX S (bkN S) g c i)) = 0 := by
      have := ho (i + 1) (Nat.le_refl _)
      change tkO S (rL S (bkN S) g c i) (cB c (rX S (bkN S) g c i)) = true at this
      unfold tkO at this
      simpa using this
    obtain ⟨t1, t2, t3⟩ := h.tk i4 i5 h0
    rw [← i2, ← i1] at t1 t2 t3
    have hn := nx_rng (s := S) (l := rL S (bkN S) g c i) (n := cB c (rX S (bkN S) g c i)) i4 i5
    refine ⟨?_, ?_, ?_, hn.1, hn.2⟩
    · show cA c (rX S' (bkN S') g c i) + tkV S' (rL S' (bkN S') g c i) (cB c (rX S' (bkN S') g c i)) = cA c (rX S (bkN S) g c i) + tkV S (rL S (bkN S) g c i) (cB c (rX S (bkN S) g c i))
      rw [t2, i1]
    · show nxL S' (rL S' (bkN S') g c i) (cB c (rX S' (bkN S') g c i)) = nxL S (rL S (bkN S) g c i) (cB c (rX S (bkN S) g c i)) + 8
      rw [t3, i1]
    · show tkO _ _ _ = true
      unfold tkO
      exact beq0 t1
end Go.Proofs.Ytbdgknebimdjoaa
namespace Go.Proofs.Ytbdgknebimdjoaa
open Go Go.RowKit
set_option linter.unusedVariables false
set_option linter.unusedSimpArgs false
set_option maxRecDepth 100000
theorem pt_one {x : Int} (h0 : -1 ≤ x) (h : x ≠ 0) : 1 ≤ pt x := by
  unfold pt
  by_cases h1 : x < 0
  · rw [decide_eq_true h1]; exact Int.le_refl _
  · rw [decide_eq_false h1]; simp only [cond_false]; omega
theorem thF_pts : ∀ (l : List Int) (s : Int), (∀ x ∈ l, -1 ≤ x) → ((thF s l).length : Int) ≤ pts l
  | [], s, _ => by show (0 : Int) ≤ 0; decide
  | x :: r, s, h => by
    have ih := thF_pts r (s + 1) fun y hy => h y (List.mem_cons_of_mem _ hy)
    have hx := h x (by simp)
    have hn := pt_nonneg x
    rw [pts_cons]
    show ((cond (x == 0) (thF (s + 1) r) (s :: thF (s + 1) r)).length : Int) ≤ _
    cases h0 : x == 0
    · have := pt_one hx (by simpa using h0)
      simp only [cond_false, List.length_cons]
      push_cast
      omega
    · simp only [cond_true]
      omega
theorem two_pts : ∀ (l : List Int) (s : Int) (i : Nat), (∀ x ∈ l, -1 ≤ x) → i < l.length → l.getD i 0 ≠ 0 → pt (l.getD i 0) + (thF s l).length ≤ pts l + 1
  | [], s, i, _, hi, _ => by simp at hi
  | x :: r, s, 0, h, _, hx => by
    change x ≠ 0 at hx
    have ih := thF_pts r (s + 1) fun y hy => h y (List.mem_cons_of_mem _ hy)
    rw [pts_cons]
    show pt x + ((cond (x == 0) (thF (s + 1) r) (s :: thF (s + 1) r)).length : Int) ≤ _
    rw [show (x == 0) = false by simpa using hx]
    simp only [cond_false, List.length_cons]
    push_cast
    omega
  | x :: r, s, i + 1, h, hi, hx => by
    have ih := two_pts r (s + 1) i (fun y hy => h y (List.mem_cons_of_mem _ hy)) (by simpa using hi) hx
    have hx0 := h x (by simp)
    have hn := pt_nonneg x
    rw [pts_cons]
    show pt (r.getD i 0) + ((cond (x == 0) (thF (s + 1) r) (s :: thF (s + 1) r)).length : Int) ≤ _
    cases h0 : x == 0
    · have := pt_one hx0 (by simpa using h0)
      simp only [cond_false, List.length_cons]
      push_cast
      omega
    · simp only [cond_true]
      omega
theorem noD_getD {p : List Int} {s : Int} (hn : noD p s = false) : p.getD s.toNat 0 ≠ 0 := by
  obtain ⟨h0, h1⟩ := noD_rng hn
  have e := noD_in (p := p) (x := s) (decide_eq_false (by omega)) (decide_eq_false (by omega))
  rw [hn] at e
  simpa using e.symm
theorem first_bits {g : Int} {p : List Int} (h : dchk g p = 0) (h2 : 2 ≤ (thL p).length) {s : Int} (hn : noD p s = false) (hc : noC (encL g p) s = false) : 1 ≤ cB (decL g p) ((celT (encL g p) s).getD 0 0) := by
  have hd := dchk0 h
  obtain ⟨h0, h1⟩ := noD_rng hn
  have hx := noD_getD hn
  have ht := two_pts p 0 s.toNat hd.lo (by omega) hx
  have hs := hd.sum
  have h1 : 1 ≤ pt (p.getD s.toNat 0) := pt_one (hd.lo _ (getD_mem' (by omega))) hx
  obtain ⟨b0, b1, b2⟩ := hi_bd h1
  have g5 := hd.g5
  rw [(dec_first h hn hc).2]
  have hlt : (2 : Int) ^ (hiI (pt (p.getD s.toNat 0))).toNat < 2 ^ g.toNat := by
    have e : thL p = thF 0 p := rfl
    rw [e] at h2
    omega
  have := pow_lt_of hlt
  omega
structure Str2 (g : Int) (p l : List Int) (S : ByteArray) : Prop where
  e : bkE S = 0
  n : bkN S = ((tk g (encL g p) l 2 l.length + g.toNat + g.toNat : Nat) : Int)
  m : dgS S % 2 ^ (tk g (encL g p) l 2 l.length + g.toNat + g.toNat) = (vk g (encL g p) l 2 l.length + (fwX g (encL g p) l 2 l.length).getD 1 0 * 2 ^ tk g (encL g p) l 2 l.length) + (fwX g (encL g p) l 2 l.length).getD 0 0 * 2 ^ (tk g (encL g p) l 2 l.length + g.toNat)
  v0 : 0 ≤ vk g (encL g p) l 2 l.length + (fwX g (encL g p) l 2 l.length).getD 1 0 * 2 ^ tk g (encL g p) l 2 l.length
  v1 : vk g (encL g p) l 2 l.length + (fwX g (encL g p) l 2 l.length).getD 1 0 * 2 ^ tk g (encL g p) l 2 l.length < 2 ^ (tk g (encL g p) l 2 l.length + g.toNat)
theorem str2 {g : Int} {p l : List Int} (h : AskOk g p l 2) : Str2 g p l (wrtS g p l 2) := by
  have hf0 := ff_bd (c := 2) h.T h.nc 0
  have hf1 := ff_bd (c := 2) h.T h.nc 1
  have hf2 := ff_bd (c := 2) h.T h.nc 2
  have hp1 := ff_num h.T h.nc hf0.n0 hf0.n7 hf0.p0 hf0.p1 1
  have hp0 := ff_num h.T h.nc hf1.n0 hf1.n7 hf1.p0 hf1.p1 0
  have hd := done_val (s := ffS g (encL g p) l 2 2) hf2.n0 hf2.n7 hf2.p0 hf2.p1
  have hw : wrtS g p l 2 = dS (ffS g (encL g p) l 2 2) (ffP g (encL g p) l 2 2) (ffN g (encL g p) l 2 2) := (wrt_good (c := 2) (ask_of h)).symm
  obtain ⟨a1, a2⟩ := put_val (s := ffS g (encL g p) l 2 0) hp1
  obtain ⟨c1, c2⟩ := put_val (s := ffS g (encL g p) l 2 1) hp0
  have hv1 : valW (ffS g (encL g p) l 2 1) (ffP g (encL g p) l 2 1) = vk g (encL g p) l 2 l.length + (fwX g (encL g p) l 2 l.length).getD 1 0 * 2 ^ tk g (encL g p) l 2 l.length := a1
  have hl1 : lenW (ffS g (encL g p) l 2 1) (ffN g (encL g p) l 2 1) = tk g (encL g p) l 2 l.length + g.toNat := a2
  have hv2 : valW (ffS g (encL g p) l 2 2) (ffP g (encL g p) l 2 2) = valW (ffS g (encL g p) l 2 1) (ffP g (encL g p) l 2 1) + (fwX g (encL g p) l 2 l.length).getD 0 0 * 2 ^ lenW (ffS g (encL g p) l 2 1) (ffN g (encL g p) l 2 1) := c1
  have hl2 : lenW (ffS g (encL g p) l 2 2) (ffN g (encL g p) l 2 2) = lenW (ffS g (encL g p) l 2 1) (ffN g (encL g p) l 2 1) + g.toNat := c2
  have hr1 := valW_rng (s := ffS g (encL g p) l 2 1) hf1.p0 hf1.p1
  have hr := valW_rng (s := ffS g (encL g p) l 2 2) hf2.p0 hf2.p1
  have hs := hf2.size
  have hi := h.hi
  rw [hl1, hv1] at hr1
  rw [hl1] at hl2
  rw [hl1, hv1] at hv2
  rw [hl2, hv2] at hr
  have hnb := hd.nb
  have hsz := hd.sz
  have hbn := hd.bn
  have hle := hd.le
  rw [hl2] at hbn hle
  rw [hv2] at hle
  rw [← hw] at hnb hsz hbn hle
  refine ⟨?_, hbn, ?_, hr1.1, hr1.2⟩
  · unfold bkE
    rw [decide_eq_false (by omega), hnb]
    rfl
  · rw [hle]
    generalize hV : (vk g (encL g p) l 2 l.length + (fwX g (encL g p) l 2 l.length).getD 1 0 * 2 ^ tk g (encL g p) l 2 l.length) + (fwX g (encL g p) l 2 l.length).getD 0 0 * 2 ^ (tk g (encL g p) l 2 l.length + g.toNat) = V at hr ⊢
    have e : V + 2 ^ (tk g (encL g p) l 2 l.length + g.toNat + g.toNat) = V + 2 ^ (tk g (encL g p) l 2 l.length + g.toNat + g.toNat) * 1 := by omega
    rw [e, Int.add_mul_emod_self_left, Int.emod_eq_of_lt hr.1 hr.2]
theorem two_list {l : List Int} (h : l.length = 2) : l = [l.getD 0 0, l.getD 1 0] := by
  match l, h with
  | [a, b], _ => rfl
structure Top2 (g : Int) (p l : List Int) (S : ByteArray) : Prop where
  o0 : twAo S (bkN S) g 0 = true
  o1 : twAo S (bkN S) g 1 = true
  s : twAS S (bkN S) g 2 = fwX g (encL g p) l 2 l.length
  nl : twAL S (bkN S) g 2 = ((tk g (encL g p) l 2 l.length : Nat) : Int)
  m : dgS S % 2 ^ tk g (encL g p) l 2 l.length = vk g (encL g p) l 2 l.length
theorem top2 {g : Int} {p l : List Int} (h : AskOk g p l 2) : Top2 g p l (wrtS g p l 2) := by
  have hs := str2 h
  have hT := h.T
  have g0 := hT.g0
  have g12 := hT.g12
  have hv := vk_rng (c := 2) h (k := l.length) (Nat.le_refl _)
  have hb := fw_bd (c := 2) hT h.nc l.length (Nat.le_refl _)
  have hx1 := hb.x1 0
  have hy1 := hb.x1 1
  rw [szI] at hx1 hy1
  have ht := take_num (s := wrtS g p l 2) (T := tk g (encL g p) l 2 l.length + g.toNat) (n := g.toNat) hs.e (by rw [hs.n]; exact Int.le_refl _) (by omega) hs.m hs.v0 hs.v1 (hb.x0 0) hx1
  rw [← hs.n, show ((g.toNat : Nat) : Int) = g by omega] at ht
  obtain ⟨t1, t2, t3, t4⟩ := ht
  have hu := take_num (s := wrtS g p l 2) (T := tk g (encL g p) l 2 l.length) (n := g.toNat) hs.e (by rw [hs.n]; omega) (by omega) t4 hv.1 hv.2 (hb.x0 1) hy1
  rw [← t3, show ((g.toNat : Nat) : Int) = g by omega] at hu
  obtain ⟨u1, u2, u3, u4⟩ := hu
  refine ⟨?_, ?_, ?_, u3, u4⟩
  · show tkO _ _ _ = true
    unfold tkO
    exact beq0 t1
  · show tkO _ _ _ = true
    unfold tkO
    exact beq0 u1
  · show (([0, 0] : List Int).set 0 (tkV (wrtS g p l 2) (bkN (wrtS g p l 2)) g)).set 1 (tkV (wrtS g p l 2) (nxL (wrtS g p l 2) (bkN (wrtS g p l 2)) g) g) = _
    rw [t2, u2]
    exact (two_list hb.len).symm
structure Rd2 (g : Int) (p l : List Int) (S : ByteArray) (i : Nat) : Prop where
  s : twS S (bkN S) g (decL g p) i = fwX g (encL g p) l 2 (l.length - i)
  nl : twL S (bkN S) g (decL g p) i = ((tk g (encL g p) l 2 (l.length - i) : Nat) : Int)
  m : dgS S % 2 ^ tk g (encL g p) l 2 (l.length - i) = vk g (encL g p) l 2 (l.length - i)
  b : ((tk g (encL g p) l 2 (l.length - i) : Nat) : Int) ≤ bkN S
theorem nth_mod {l : List Int} {i k : Nat} (h : l.length - i = k + 1) (hi : i < l.length) : nthI l k = i := by unfold nthI; omega
theorem put_at2 {g : Int} {p l : List Int} (h : AskOk g p l 2) {k : Nat} (hc : 2 ≤ k) (hk : k < l.length) : fwX g (encL g p) l 2 (k + 1) = (fwX g (encL g p) l 2 k).set (nthI l k % 2) (putS g (encL g p) ((fwX g (encL g p) l 2 k).getD (nthI l k % 2) 0) (nthS l k)) :=
  congrArg Prod.fst (fw_put (g := g) (t := encL g p) (l := l) (c := 2) (k := k) (by omega))
theorem getD_setj {l : List Int} {j : Nat} (h : j < l.length) (x : Int) : (l.set j x).getD j 0 = x := by
  rw [List.getD_eq_getElem?_getD, List.getElem?_set_self h]
  rfl
theorem set_back {l : List Int} {j : Nat} (h : j < l.length) (x : Int) : (l.set j x).set j (l.getD j 0) = l := by
  rw [List.set_set]
  refine List.ext_getElem? fun i => ?_
  rw [List.getElem?_set]
  split
  · rename_i e
    subst e
    rw [List.getD_eq_getElem?_getD, List.getElem?_eq_getElem h]
    rfl
  · rfl
theorem rd2_step {g : Int} {p l : List Int} (h : AskOk g p l 2) {i : Nat} (hi : i + 3 ≤ l.length) (ih : Rd2 g p l (wrtS g p l 2) i) : Rd2 g p l (wrtS g p l 2) (i + 1) ∧ twO (wrtS g p l 2) (bkN (wrtS g p l 2)) g (decL g p) i = true ∧ cS (decL g p) (twX (wrtS g p l 2) (bkN (wrtS g p l 2)) g (decL g p) i i) = l.getD i 0 := by
  have hs := str2 h
  obtain ⟨k, hk⟩ : ∃ k, l.length - (i + 1) = k := ⟨_, rfl⟩
  have hk1 : l.length - i = k + 1 := by omega
  have i1 := ih.s; have i2 := ih.nl; have i4 := ih.m; have i5 := ih.b
  rw [hk1] at i1 i2 i4 i5
  have hn := nth_mod hk1 (by omega)
  have hb := step_back h hs.e (k := k) (by omega) (by omega) i4 i5
  have hbd := (fw_bd (c := 2) h.T h.nc k (by omega)).len
  have ea := put_at2 h (k := k) (by omega) (by omega)
  rw [← i1] at ea
  have s1 := hb.e; have s2 := hb.v; have s3 := hb.nl; have s4 := hb.m; have s5 := hb.s
  have hj : nthI l k % 2 < (fwX g (encL g p) l 2 k).length := by rw [hbd]; omega
  have ex : twX (wrtS g p l 2) (bkN (wrtS g p l 2)) g (decL g p) i i = putS g (encL g p) ((fwX g (encL g p) l 2 k).getD (nthI l k % 2) 0) (nthS l k) := by
    show (twS (wrtS g p l 2) (bkN (wrtS g p l 2)) g (decL g p) i).getD (i % 2) 0 = _
    rw [ea, ← hn, getD_setj hj]
  rw [← ex, ← i2] at s1 s2 s3
  rw [← ex] at s5
  have f := fw_val h (c := 2) (k := k) (by omega) (by omega)
  refine ⟨⟨?_, ?_, ?_, ?_⟩, ?_, ?_⟩
  · rw [hk]
    show (twS (wrtS g p l 2) (bkN (wrtS g p l 2)) g (decL g p) i).set (i % 2) (cA (decL g p) (twX (wrtS g p l 2) (bkN (wrtS g p l 2)) g (decL g p) i i) + tkV (wrtS g p l 2) (twL (wrtS g p l 2) (bkN (wrtS g p l 2)) g (decL g p) i) (cB (decL g p) (twX (wrtS g p l 2) (bkN (wrtS g p l 2)) g (decL g p) i i))) = _
    rw [s2, ea, ← hn, set_back hj]
  · rw [hk]; exact s3
  · rw [hk]; exact s4
  · rw [hk]; have := f.2; omega
  · unfold twO tkO
    exact beq0 s1
  · rw [s5]
    unfold nthS
    congr 1
theorem rd2 {g : Int} {p l : List Int} (h : AskOk g p l 2) : ∀ i, i + 2 ≤ l.length → Rd2 g p l (wrtS g p l 2) i
  | 0, hi => by
    have ht := top2 h
    have hs := str2 h
    exact ⟨ht.s, ht.nl, ht.m, by rw [Nat.sub_zero, hs.n]; omega⟩
  | i + 1, hi => (rd2_step h (by omega) (rd2 h i (by omega))).1
structure Fst2 (g : Int) (p l : List Int) : Prop where
  x1 : (fwX g (encL g p) l 2 2).getD ((l.length - 1) % 2) 0 = (celT (encL g p) (l.getD (l.length - 1) 0)).getD 0 0
  x2 : (fwX g (encL g p) l 2 2).getD ((l.length - 2) % 2) 0 = (celT (encL g p) (l.getD (l.length - 2) 0)).getD 0 0
theorem getD_setn {l : List Int} {i j : Nat} (h : i ≠ j) (x : Int) : (l.set i x).getD j 0 = l.getD j 0 := by
  rw [List.getD_eq_getElem?_getD, List.getElem?_set_ne h, List.getD_eq_getElem?_getD]
theorem fst_two {g : Int} {p l : List Int} (h : AskOk g p l 2) : Fst2 g p l := by
  have hlo := h.lo
  have e1 : fwX g (encL g p) l 2 (0 + 1) = _ := congrArg Prod.fst (fw_first (g := g) (t := encL g p) (l := l) (c := 2) (k := 0) (by omega))
  have e2 : fwX g (encL g p) l 2 (1 + 1) = _ := congrArg Prod.fst (fw_first (g := g) (t := encL g p) (l := l) (c := 2) (k := 1) (by omega))
  have n0 : nthI l 0 = l.length - 1 := by unfold nthI; omega
  have n1 : nthI l 1 = l.length - 2 := by unfold nthI; omega
  have l0 := (fw_bd (c := 2) h.T h.nc 0 (by omega)).len
  have l1 := (fw_bd (c := 2) h.T h.nc 1 (by omega)).len
  unfold nthS at e1 e2
  rw [n0] at e1
  rw [n1] at e2
  have e1' : fwX g (encL g p) l 2 1 = (fwX g (encL g p) l 2 0).set ((l.length - 1) % 2) ((celT (encL g p) (l.getD (l.length - 1) 0)).getD 0 0) := e1
  have e2' : fwX g (encL g p) l 2 2 = (fwX g (encL g p) l 2 1).set ((l.length - 2) % 2) ((celT (encL g p) (l.getD (l.length - 2) 0)).getD 0 0) := e2
  refine ⟨?_, ?_⟩
  · rw [e2', getD_setn (by omega), e1', getD_setj (by omega)]
  · rw [e2', getD_setj (by omega)]
theorem gd_eq {ok : Nat → Bool} {n m : Nat} (hm : m < n) (h : ∀ k, k < m → ok k = true) (hs : ok m = false) : gdN ok n = m := by
  rcases Nat.lt_or_ge (gdN ok n) m with h1 | h1
  · have := gd_stop ok n (by omega)
    rw [h _ h1] at this
    cases this
  · rcases Nat.eq_or_lt_of_le h1 with h2 | h2
    · exact h2.symm
    · have := gd_in ok n m h2
      rw [hs] at this
      cases this
theorem read_back2 {g : Int} {p l : List Int} (h : AskOk g p l 2) (h2 : 2 ≤ (thL p).length) (h200 : l.length ≤ 200) : twE g p (wrtS g p l 2) = 0 ∧ twV g p (wrtS g p l 2) = l := by
  have hlo := h.lo
  obtain ⟨K, hK⟩ : ∃ K, l.length = K + 2 := ⟨l.length - 2, by omega⟩
  have hs := str2 h
  have ht := top2 h
  have hf := fst_two h
  have hr := rd2 h K (by omega)
  have ho : opE g p (wrtS g p l 2) = 0 := by rw [op_ok1 h.d]; exact hs.e
  have x1 := hf.x1; have x2 := hf.x2
  rw [show l.length - 1 = K + 1 by omega] at x1
  rw [show l.length - 2 = K by omega] at x2
  have r1 := hr.s; have r2 := hr.nl
  rw [show l.length - K = 2 by omega] at r1 r2
  rw [fw_none _ _ _ _ 2 (Nat.le_refl _)] at r2
  have no : ∀ i, i < l.length → noD p (l.getD i 0) = false ∧ noC (encL g p) (l.getD i 0) = false := fun i hi => ⟨any_get h.no hi, any_get h.nc hi⟩
  have eX : twX (wrtS g p l 2) (bkN (wrtS g p l 2)) g (decL g p) K K = (celT (encL g p) (l.getD K 0)).getD 0 0 := by
    show (twS (wrtS g p l 2) (bkN (wrtS g p l 2)) g (decL g p) K).getD (K % 2) 0 = _
    rw [r1, x2]
  have eY : twX (wrtS g p l 2) (bkN (wrtS g p l 2)) g (decL g p) K (K + 1) = (celT (encL g p) (l.getD (K + 1) 0)).getD 0 0 := by
    show (twS (wrtS g p l 2) (bkN (wrtS g p l 2)) g (decL g p) K).getD ((K + 1) % 2) 0 = _
    rw [r1, x1]
  have nK := no K (by omega)
  have nK1 := no (K + 1) (by omega)
  have hbit := first_bits h.d h2 nK.1 nK.2
  have hC := dec_ok h.d
  have hb := hs.e
  obtain ⟨k1, k2, k3, k4⟩ := bkE_0 hb
  have hN := (bkN_rng k1).2.2
  have hx := twS_rng (s := wrtS g p l 2) (L := bkN (wrtS g p l 2)) hC K (K % 2)
  rw [twX_r] at hx
  have hcb := hC.b0 _ hx.1 hx.2
  have hOK : twO (wrtS g p l 2) (bkN (wrtS g p l 2)) g (decL g p) K = false := by
    unfold twO tkO
    rw [← eX] at hbit
    rw [r2, (tk_iff (s := wrtS g p l 2) (l := ((0 : Nat) : Int)) hb (Int.le_refl _) (by omega) hcb.1 (by have := hC.g12; omega)).2 (by omega)]
    rfl
  have hTK : twK (wrtS g p l 2) (bkN (wrtS g p l 2)) g (decL g p) = K := gd_eq (by omega) (fun k hk => (rd2_step h (by omega) (rd2 h k (by omega))).2.1) hOK
  have hB : twB g p (wrtS g p l 2) = false := by
    unfold twB
    rw [hTK, r2, ht.o0, ht.o1, decide_eq_false (by omega), decide_eq_false (by omega)]
    rfl
  have hE : twE g p (wrtS g p l 2) = 0 := by rw [twE_ok ho, hB]; rfl
  refine ⟨hE, ?_⟩
  unfold twV
  rw [beq0 hE]
  show twR g p (wrtS g p l 2) = l
  unfold twR
  rw [hTK, eY, (dec_first h.d nK1.1 nK1.2).1]
  have e1 : twN (wrtS g p l 2) (bkN (wrtS g p l 2)) g (decL g p) (K + 1) = (List.range (K + 1)).map fun i => l.getD i 0 := by
    unfold twN
    refine List.map_congr_left fun i hi => ?_
    have hi := List.mem_range.1 hi
    by_cases hiK : i = K
    · rw [hiK, eX, (dec_first h.d nK.1 nK.2).1]
    · exact (rd2_step h (by omega) (rd2 h i (by omega))).2.2
  rw [e1]
  have e2 : (List.range (K + 1)).map (fun i => l.getD i 0) ++ [l.getD (K + 1) 0] = (List.range (K + 2)).map fun i => l.getD i 0 := by
    rw [List.range_succ (n := K + 1), List.map_append]
    rfl
  rw [e2]
  exact map_getD hK fun i _ => rfl
end Go.Proofs.Ytbdgknebimdjoaa
namespace Go.Proofs.Ytbdgknebimdjoaa
open Go Go.RowKit
set_option linter.unusedVariables false
set_option linter.unusedSimpArgs false
set_option maxRecDepth 100000
theorem wrt_sz {g : Int} {p l : List Int} {c : Nat} (h : AskOk g p l c) : (wrtS g p l c).size ≤ 2 * l.length + 3 * c + 1 := by
  have hf := ff_bd (c := c) h.T h.nc c
  have hs := hf.size
  have hd := done_val (s := ffS g (encL g p) l c c) hf.n0 hf.n7 hf.p0 hf.p1
  have hw : wrtS g p l c = dS (ffS g (encL g p) l c c) (ffP g (encL g p) l c c) (ffN g (encL g p) l c c) := (wrt_good (ask_of h)).symm
  have := hd.sz
  rw [hw]
  omega
theorem lwBk_v (l s : List Int) (hl : l.all inW = true) (hs : s.all inW = true) : lwBk_t l s := by
  unfold lwBk_t
  have hk := kd_ok l
  have hy := sym_no (kdP l) s
  refine ⟨hl, ⟨hs, by omega, (kdG l, kdP l, symL (kdP l) s), ⟨hk.1, hy.1, hy.2⟩, rfl, rfl, rfl⟩, fun y hok => ⟨fun _ => rfl, fun hne => ?_⟩⟩
  have hok : okY y := hok
  have hne : 0 < (yL y).length := by
    simp only [beq_eq_false_iff_ne, ne_eq] at hne
    omega
  have hA := okY_ask hok hne
  have hask : askE (yG y) (yP y) (yL y) (1 : Int) = 0 := ask_of hA
  obtain ⟨b1, b2⟩ := read_back1 hA
  have hD := dchk0 hok.1
  have hpl : (yP y).length ≤ 256 := hD.n2
  have hl200 : (yL y).length ≤ 200 := hok.2.2
  have hsz := wrt_sz hA
  rw [b1, b2, hask, eqI_refl]
  refine ⟨by omega, by omega, by omega, by omega, fun h => absurd h (by decide), fun _ => ⟨fun h => absurd h (by decide), fun _ => ⟨by omega, fun h => absurd h (by decide), fun _ => ⟨y, ⟨0, ⟨hok, hne, Nat.zero_le _⟩, rfl, by simp [thP, thF], rfl, rfl, rfl⟩, fun i ⟨_, _, hi⟩ => ⟨fun hlt => ?_, fun hge => ?_⟩⟩⟩⟩⟩
  · have hlt : i < (yP y).length := by simpa using hlt
    have htl := thP_len (yP y) i hi
    rw [toNat_cast]
    refine ⟨by omega, by omega, fun hx => ⟨i + 1, ⟨hok, hne, by omega⟩, by rw [Nat.sub_eq, Nat.sub_eq]; omega, rfl, ?_, cnt_wrap (by omega), rfl, rfl⟩, fun hx => ⟨i + 1, ⟨hok, hne, by omega⟩, by rw [Nat.sub_eq, Nat.sub_eq]; omega, rfl, ?_, cnt_wrap (by omega), rfl, rfl⟩⟩
    · rw [thP_succ hlt, ne0 hx, cnt_wrap (by omega)]
      simp only [cond_false, List.length_append, List.length_singleton]
    · rw [thP_succ hlt, beq0 (eq0 hx)]
      simp only [cond_true, List.append_nil]
  · have hge : ¬ i < (yP y).length := by simpa using hge
    have hi2 : i = (yP y).length := by omega
    subst hi2
    rw [thP_all]
    refine ⟨fun _ => rfl, fun h2 => ⟨fun _ => rfl, fun h3 => ?_⟩⟩
    have h2 : 2 ≤ (yL y).length := by simp only [decide_eq_false_iff_not] at h2; omega
    have h3 : 2 ≤ (thL (yP y)).length := by simp only [decide_eq_false_iff_not] at h3; omega
    have hA2 : AskOk (yG y) (yP y) (yL y) 2 := ⟨hok.1, hA.hi, h2, hok.2.1⟩
    have hask2 : askE (yG y) (yP y) (yL y) (2 : Int) = 0 := ask_of hA2
    obtain ⟨c1, c2⟩ := read_back2 hA2 h3 hl200
    have hsz2 := wrt_sz hA2
    rw [c1, c2, hask2, eqI_refl]
    exact ⟨by omega, by omega, by omega, by omega, fun _ => ⟨fun _ => ⟨by omega, fun _ => rfl, fun h => absurd h (by decide)⟩, fun h => absurd h (by decide)⟩, fun h => absurd h (by decide)⟩
theorem fback_any (A : Option Addr) (n cap : Nat) (zs : List Int) (A2 : Option Addr) (n2 cap2 : Nat) (ys : List Int) (W : World) (hI : IntsIn W A n cap zs) (hI2 : IntsIn W A2 n2 cap2 ys) :
    Calls Try.prog 13 #[.slice A n cap, .slice A2 n2 cap2] W fun e w' => e = .returned (.bool true) ∧ Below W.heap.size W w' := by
  refine law_true (us := [.slice A n cap, .slice A2 n2 cap2]) (satG GHg_ok mixed Try.func13 (lwBk_e (zs.take n) (ys.take n2)) (lwBk_v _ _ (ints_inW hI) (ints_inW hI2))) (.inr rfl) ?_
  simp only [Reps]
  exact ⟨_, _, rfl, dat_ints hI, _, _, rfl, dat_ints hI2, rfl⟩
end Go.Proofs.Ytbdgknebimdjoaa
