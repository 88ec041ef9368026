/-
  Texts joined: D9B, D9C, D9V, D9Vt, D9D, D9E. Conditions: each theorem's own.
-/
import Derived.Test.YtafabheehkmfhaaK4
import Derived.Test.YtafabheehkmfhaaK3
/-
  Chapter 8: a description that was written is read back; cut short it is not. Conditions: each theorem's own.
-/
namespace Go.Proofs.Ytafabheehkmfhaa
open Go Go.RowKit
set_option linter.unusedVariables false
set_option linter.unusedSimpArgs false
set_option maxRecDepth 100000
theorem fl_back {S : ByteArray} (hs : S.size ≤ 1048576) {y : Int} : ∀ (z f b : Nat) (out : List Int), z / 3 < f → (out.length : Int) + z ≤ y → b + blen (zerosP z) ≤ 8 * S.size → RdBits S b (zerosP z) →
    flR y f (S, (b : Int)) out = ((S, ((b + blen (zerosP z) : Nat) : Int)), out ++ List.replicate z 0, 0) := by
  intro z
  induction z using Nat.strongRecOn with
  | _ z ih =>
    intro f b out hf hy hb hr
    cases f with
    | zero => omega
    | succ f =>
      by_cases h3 : z < 3
      · have e : zerosP z = [(2, (z : Int))] := by
          unfold zerosP
          rw [Nat.div_eq_of_lt h3, Nat.mod_eq_of_lt h3]; rfl
        rw [e] at hb hr ⊢
        have hb2 : b + 2 ≤ 8 * S.size := hb
        have t := tk_back hs (b := b) (n := 2) (v := (z : Int)) (by omega) (by omega) hb2 hr.1
        have hne : ((z : Int) == 3) = false := by
          have : (z : Int) ≠ 3 := by omega
          simpa using this
        rw [fl_step (by rw [t]) (by rw [t]; dsimp only; omega), t]
        dsimp only
        rw [hne]
        rfl
      · obtain ⟨z', rfl⟩ : ∃ z', z = z' + 3 := ⟨z - 3, by omega⟩
        have e : zerosP (z' + 3) = (2, 3) :: zerosP z' := by
          unfold zerosP
          rw [show (z' + 3) / 3 = z' / 3 + 1 by omega, show (z' + 3) % 3 = z' % 3 by omega, List.replicate_succ]; rfl
        rw [e] at hb hr ⊢
        have hb2 : b + (2 + blen (zerosP z')) ≤ 8 * S.size := hb
        have t := tk_back hs (b := b) (n := 2) (v := 3) (by omega) (by omega) (show b + 2 ≤ 8 * S.size by omega) hr.1
        have i := ih z' (by omega) f (b + 2) (out ++ List.replicate 3 0) (by omega) (by simp; omega) (by omega) hr.2
        rw [fl_step (by rw [t]) (by rw [t]; dsimp only; omega), t]
        have e3 : ((3 : Int) == 3) = true := rfl
        dsimp only
        rw [e3]
        show flR y f (S, ((b + 2 : Nat) : Int)) (out ++ List.replicate 3 0) = _
        rw [i, List.append_assoc]
        have e4 : List.replicate 3 (0 : Int) ++ List.replicate z' 0 = List.replicate (z' + 3) 0 := by
          rw [List.replicate_append_replicate, Nat.add_comm]
        have e5 : b + 2 + blen (zerosP z') = b + blen ((2, 3) :: zerosP z') := by simp only [blen]; show _ = b + (2 + _); omega
        rw [e4, e5]
/-- how many zeros at the head -/
def lead : List Int → Nat
  | [] => 0
  | x :: r => cond (x == 0) (lead r + 1) 0
theorem lead_eq (l : List Int) : l = List.replicate (lead l) 0 ++ l.drop (lead l) := by
  induction l with
  | nil => rfl
  | cons x r ih =>
    cases h : (x == 0)
    · simp [lead, h]
    · have hx : x = 0 := by simpa using h
      simp only [lead, h, cond_true, List.replicate_succ, List.drop_succ_cons, List.cons_append]
      rw [hx, ← ih]
theorem lead_le (l : List Int) : lead l ≤ l.length := by
  induction l with
  | nil => exact Nat.le_refl _
  | cons x r ih => cases h : (x == 0) <;> simp only [lead, h, cond_true, cond_false, List.length_cons] <;> omega
theorem de_lead (r : List Int) : ∀ (z : Nat) (left : Int), de (some z) r left = zerosP (z + lead r) ++ de none (r.drop (lead r)) left := by
  induction r with
  | nil => intro z left; simp [de, lead]
  | cons q r ih =>
    intro z left
    cases h : (q == 0)
    · simp only [de, lead, h, cond_false, Nat.add_zero, List.drop_zero]
    · simp only [de, lead, h, cond_true, List.drop_succ_cons]
      rw [ih, show z + 1 + lead r = z + (lead r + 1) by omega]
theorem pts_zeros (n : Nat) (l : List Int) : pts (List.replicate n 0 ++ l) = pts l := by
  induction n with
  | zero => rfl
  | succ n ih => rw [List.replicate_succ, List.cons_append, pts_cons, ih]; simp [pt]
/-- its last is no zero -/
def lastOk (l : List Int) : Prop := l = [] ∨ l.getD (l.length - 1) 0 ≠ 0
theorem lastOk_drop {l : List Int} (h : lastOk l) (n : Nat) : lastOk (l.drop n) := by
  by_cases c : l.length ≤ n
  · left; exact List.drop_eq_nil_of_le c
  · rcases h with rfl | h
    · left; simp
    · right
      rw [List.length_drop, List.getD_eq_getElem?_getD, List.getElem?_drop, show n + (l.length - n - 1) = l.length - 1 by omega, ← List.getD_eq_getElem?_getD]
      exact h
theorem pts_pos {l : List Int} (h : lastOk l) (hl : ∀ x ∈ l, -1 ≤ x) (hn : l ≠ []) : 0 < pts l := by
  rcases h with h | h
  · exact absurd h hn
  · have hlen : 0 < l.length := List.length_pos_iff.2 hn
    have e : l = l.take (l.length - 1) ++ [l.getD (l.length - 1) 0] := by
      have h1 := List.take_append_drop (l.length - 1) l
      have h2 : l.drop (l.length - 1) = [l.getD (l.length - 1) 0] := by
        rw [List.drop_eq_getElem_cons (by omega), List.drop_eq_nil_of_le (by omega), List.getD_eq_getElem?_getD, List.getElem?_eq_getElem (by omega)]; rfl
      rw [h2] at h1
      exact h1.symm
    have hx := hl (l.getD (l.length - 1) 0) (by rw [List.getD_eq_getElem?_getD, List.getElem?_eq_getElem (by omega)]; exact List.getElem_mem _)
    have hp := pt_ge _ hx
    have h3 := hp.2.1 h
    have h4 := pts_nonneg (l.take (l.length - 1))
    rw [e, pts_app, pts_cons]
    have : pts ([] : List Int) = 0 := rfl
    omega
theorem rd_back {S : ByteArray} (hs : S.size ≤ 1048576) {y : Int} (hy : 0 ≤ y) : ∀ (f : Nat) (l out : List Int) (b : Nat), l.length < f → (out.length : Int) + l.length ≤ y → lastOk l → (∀ x ∈ l, -1 ≤ x) → pts l ≤ 4096 → b + blen (de none l (pts l)) ≤ 8 * S.size → RdBits S b (de none l (pts l)) →
    rdR y f (S, (b : Int)) (pts l) out = ((S, ((b + blen (de none l (pts l)) : Nat) : Int)), out ++ l, 0) := by
  intro f
  induction f with
  | zero => intro l out b h; omega
  | succ f ih =>
    intro l out b hf hlen hlast hlow hp hb hr
    cases l with
    | nil => rw [rd_end (by show ¬ (0 : Int) < 0; omega)]; simp [de, blen]
    | cons p r =>
      have hpos := pts_pos hlast hlow (by simp)
      have hc := pts_cons p r
      have hrn := pts_nonneg r
      have hp1 := hlow p (by simp)
      have hg := pt_ge p hp1
      have hlow' : ∀ x ∈ r, -1 ≤ x := fun x hx => hlow x (by simp [hx])
      have hlast' : lastOk r := lastOk_drop hlast 1
      simp only [List.length_cons] at hf hlen
      rw [de] at hb hr
      have hb1 : b + ((valP (pts (p :: r)) p).1.toNat + blen (cond (p == 0) (de (some 0) r (pts (p :: r))) (de none r (pts (p :: r) - pt p)))) ≤ 8 * S.size := hb
      have V := val_back hs (b := b) (left := pts (p :: r)) (p := p) (by omega) hp hp1 (by omega) (by omega) hr.1
      have hne : ((out.length : Int) == y) = false := by
        have : (out.length : Int) ≠ y := by omega
        simpa using this
      have hR := hr.2
      rw [de]
      cases hz : (p == 0)
      · have hp0 : p ≠ 0 := by simpa using hz
        rw [hz] at hb1 hR
        simp only [cond_false] at hb1 hR ⊢
        have e : pts (p :: r) - pt p = pts r := by omega
        rw [e] at hb1 hR ⊢
        rw [rd_step hpos V hne (by omega)]
        have e2 : pts (p :: r) - max (p + 1 - 1) 1 = pts r := by
          have := hg.2.1 hp0
          omega
        rw [e2, show p + 1 - 1 = p by omega]
        rw [ih r (out ++ [p]) _ (by omega) (by simp; omega) hlast' hlow' (by omega) (by omega) hR]
        rw [List.append_assoc, Nat.add_assoc]
        rfl
      · have hp0 : p = 0 := by simpa using hz
        subst hp0
        rw [hz] at hb1 hR
        simp only [cond_true] at hb1 hR ⊢
        have e : pts (0 :: r) = pts r := by rw [hc]; simp [pt]
        have hle := lead_le r
        have hre := lead_eq r
        have epts : pts (r.drop (lead r)) = pts r := by
          have := pts_zeros (lead r) (r.drop (lead r))
          rw [← hre] at this
          exact this.symm
        rw [e] at hb1 hR hp V hpos ⊢
        rw [de_lead, Nat.zero_add, blen_app] at hb1
        rw [de_lead, Nat.zero_add] at hR ⊢
        obtain ⟨R1, R2⟩ := reads_app _ _ _ hR
        rw [rd_zero hpos (by rw [V]; rfl) hne]
        have F := fl_back hs (y := y) (lead r) (y.toNat + 1) (b + (valP (pts r) 0).1.toNat) (out ++ [1 - 1]) (by omega) (by simp; omega) (by omega) R1
        rw [F, contZ_ok rfl]
        dsimp only
        have I := ih (r.drop (lead r)) (out ++ [1 - 1] ++ List.replicate (lead r) 0) (b + (valP (pts r) 0).1.toNat + blen (zerosP (lead r))) (by rw [List.length_drop]; omega) (by rw [List.length_drop]; simp; omega) (lastOk_drop hlast' _) (fun x hx => hlow' x (List.mem_of_mem_drop hx)) (by omega) (by rw [epts]; omega) (by rw [epts]; exact R2)
        rw [epts] at I
        rw [I]
        have e6 : out ++ [1 - 1] ++ List.replicate (lead r) 0 ++ r.drop (lead r) = out ++ 0 :: r := by
          rw [List.append_assoc, ← hre, List.append_assoc]; rfl
        have e7 : b + (valP (pts r) 0).1.toNat + blen (zerosP (lead r)) + blen (de none (r.drop (lead r)) (pts r)) = b + blen (valP (pts r) 0 :: (zerosP (lead r) ++ de none (r.drop (lead r)) (pts r))) := by
          rw [blen, blen_app]; omega
        rw [e6, e7]
end Go.Proofs.Ytafabheehkmfhaa
/-
  Chapter 8: Read of what Write wrote, whole and cut short. Conditions: each theorem's own.
-/
namespace Go.Proofs.Ytafabheehkmfhaa
open Go Go.RowKit
set_option linter.unusedVariables false
set_option linter.unusedSimpArgs false
set_option maxRecDepth 100000
theorem leN_wS8 (n W : Nat) (h : W < 2 ^ (8 * n)) : leN (wS (8 * n) W).data.toList = W := by
  unfold wS
  simp only []
  rw [leN_toLE, show 8 * n / 8 = n by omega, pow256, Nat.mod_eq_of_lt h]
theorem done_ok {L W : Nat} (h : W < 2 ^ L) (hL : L ≤ 8388600) : doneT (wOf L W) = (wS (8 * ((L + 7) / 8)) W, 0) := by
  unfold doneT
  rw [if_pos (wOf_is h (by omega)).chk, wOf_len, wOf_num h, if_neg (by omega), Nat.zero_mul, Nat.add_zero, show L + (8 - L % 8) % 8 = 8 * ((L + 7) / 8) by omega]
theorem blen_le (l : List (Int × Int)) (h : ∀ kv ∈ l, okKV kv) : blen l ≤ 32 * l.length := by
  induction l with
  | nil => simp [blen]
  | cons kv r ih =>
    have h1 := (h kv (by simp)).2.1
    have h2 := ih fun x hx => h x (by simp [hx])
    simp only [blen, List.length_cons]
    omega
structure Wrote (g : Int) (l : List Int) (D : ByteArray) (L W : Nat) : Prop where
  eq : writeF g l = (D, 0)
  sz : D.size = (L + 7) / 8
  nm : leN D.data.toList = W
  lt : W < 2 ^ L
  hL : L = blen (deAll g l)
  hW : W = numKV (deAll g l)
  bits : bitsF g l = L
  le : L ≤ 32 * (1 + 3 * l.length)
theorem Valid.wrote {g : Int} {l : List Int} (V : Valid g l) (hd : dchk g l = 0) : ∃ D, Wrote g l D (blen (deAll g l)) (numKV (deAll g l)) := by
  obtain ⟨f1, f2, f3⟩ := V.form
  obtain ⟨a1, a2⟩ := V.all_ok
  have h4096 : pts l ≤ 4096 := by rw [V.sum]; exact pow12 V.g12
  obtain ⟨d1, d2⟩ := de_ok l none V.low h4096
  rw [V.sum] at d2
  have hb := blen_le _ a1
  have e : accD g l = (blen (deAll g l), numKV (deAll g l)) := by unfold accD; rw [acc_num]; simp
  rw [e] at f1 f2 f3
  dsimp only at f1 f2 f3 d2
  have hl : (deAll g l).length ≤ 1 + 3 * l.length := by unfold deAll; simp only [List.length_cons]; omega
  have hd' : (dchk g l == 0) = true := by simpa using hd
  refine ⟨wS (8 * ((blen (deAll g l) + 7) / 8)) (numKV (deAll g l)), ?_, ?_, ?_, f2, rfl, rfl, ?_, by omega⟩
  · unfold writeF
    rw [hd', f1]
    exact done_ok f2 (by omega)
  · rw [wS_size]; omega
  · exact leN_wS8 _ _ (Nat.lt_of_lt_of_le f2 (Nat.pow_le_pow_right (by omega) (by omega)))
  · unfold bitsF
    rw [hd', f3]; rfl
theorem rdA_back {g : Int} {l : List Int} (V : Valid g l) {S : ByteArray} (hs : S.size ≤ 1048576) (Y : Nat) (h8 : blen (deAll g l) ≤ 8 * S.size) (hn : leN S.data.toList = numKV (deAll g l) + 2 ^ blen (deAll g l) * Y) :
    takeT (S, 0) 4 = ((S, 4), g - 5, 0) ∧ logR (S, 0) = g ∧ rdA (S, 0) 12 256 = ((S, ((blen (deAll g l) : Nat) : Int)), l, 0) := by
  obtain ⟨a1, a2⟩ := V.all_ok
  have R := reads_of (S := S) Y (deAll g l) 0 a1 (by rw [Nat.pow_zero, Nat.div_one]; exact hn)
  have hb : blen (deAll g l) = 4 + blen (de none l (2 ^ g.toNat)) := rfl
  obtain ⟨R1, R2⟩ := R
  have t : takeT (S, ((0 : Nat) : Int)) 4 = _ := tk_back hs (b := 0) (n := 4) (v := g - 5) (by omega) (by omega) (show 0 + 4 ≤ 8 * S.size by omega) R1
  have t' : takeT (S, 0) 4 = ((S, 4), g - 5, 0) := t
  have hlog : logR (S, 0) = g := by unfold logR; rw [t']; dsimp only; omega
  refine ⟨t', hlog, ?_⟩
  have g12 := V.g12
  have l2 := V.len2
  rw [rdA_go (by rw [t']) (by rw [hlog]; omega), hlog, t', ← V.sum]
  rw [← V.sum] at R2 hb
  have B := rd_back hs (y := 256) (by omega) ((256 : Int).toNat + 1) l [] 4 (by show l.length < 257; omega) (by simp; omega) (.inr V.last) V.low (by rw [V.sum]; exact pow12 g12) (by omega) R2
  rw [hb]
  exact B
/-! ### cut short -/
theorem tk_mono {T S : ByteArray} (h : Pfx T S) {b n : Int} (e : (takeT (T, b) n).2.2 = 0) : takeT (S, b) n = ((S, b + n), (takeT (T, b) n).2.1, 0) ∧ takeT (T, b) n = ((T, b + n), (takeT (T, b) n).2.1, 0) := by
  have K := tk_ok e
  have b0 := K.b0
  have b1 := K.b1
  obtain ⟨t1, t2⟩ := tk_pfx h b0 K.n0 K.n1 b1
  rw [t1, t2]
  exact ⟨rfl, rfl⟩
theorem val_mono {T S : ByteArray} (h : Pfx T S) {b b' left v : Int} (e : valR (T, b) left = ((T, b'), v, 0)) : valR (S, b) left = ((S, b'), v, 0) := by
  by_cases e1 : (takeT (T, b) (shB left - 1)).2.2 = 0
  · obtain ⟨t1, t2⟩ := tk_mono h e1
    by_cases c : (takeT (T, b) (shB left - 1)).2.1 < shT left
    · rw [val_2 e1 c, t2] at e
      simp only [Prod.mk.injEq, and_true, true_and] at e
      rw [val_2 (by rw [t1]) (by rw [t1]; exact c), t1, ← e.1, ← e.2]
    · by_cases e2 : (takeT (takeT (T, b) (shB left - 1)).1 1).2.2 = 0
      · rw [val_4 e1 c e2] at e
        rw [t2] at e e2
        dsimp only at e e2
        obtain ⟨u1, u2⟩ := tk_mono h e2
        rw [u2] at e
        simp only [Prod.mk.injEq, and_true, true_and] at e
        have s4 := val_4 (r := (S, b)) (left := left) (by rw [t1]) (by rw [t1]; exact c) (by rw [t1]; dsimp only; rw [u1])
        rw [t1] at s4
        dsimp only at s4
        rw [u1] at s4
        rw [s4, ← e.1, ← e.2]
      · rw [val_3 e1 c e2] at e
        simp only [Prod.mk.injEq] at e
        exact absurd e.2.2 e2
  · rw [val_1 e1] at e
    simp only [Prod.mk.injEq] at e
    exact absurd e.2.2 e1
theorem fl_mono {T S : ByteArray} (h : Pfx T S) {y : Int} : ∀ (f : Nat) (b : Int) (out : List Int), (flR y f (T, b) out).2.2 = 0 → flR y f (S, b) out = ((S, (flR y f (T, b) out).1.2), (flR y f (T, b) out).2.1, 0)
  | 0, b, out, e => by simp [flR] at e
  | f + 1, b, out, e => by
    by_cases e1 : (takeT (T, b) 2).2.2 = 0
    · obtain ⟨t1, t2⟩ := tk_mono h e1
      by_cases c : y < out.length + (takeT (T, b) 2).2.1
      · rw [fl_full e1 c] at e; exact absurd e (by show ¬ (23 : Int) = 0; decide)
      · rw [fl_step e1 c] at e ⊢
        rw [fl_step (by rw [t1]) (by rw [t1]; exact c), t1]
        dsimp only
        cases h3 : (takeT (T, b) 2).2.1 == 3
        · simp only [cond_false]
          rw [t2]
        · rw [h3] at e
          simp only [cond_true] at e ⊢
          rw [t2] at e ⊢
          exact fl_mono h f _ _ e
    · rw [fl_err e1] at e; exact absurd e e1
theorem rd_mono {T S : ByteArray} (h : Pfx T S) {y : Int} : ∀ (f : Nat) (b left : Int) (out : List Int), 0 ≤ left → left ≤ 4096 → (rdR y f (T, b) left out).2.2 = 0 → rdR y f (S, b) left out = ((S, (rdR y f (T, b) left out).1.2), (rdR y f (T, b) left out).2.1, 0)
  | 0, b, left, out, l0, l1, e => by simp [rdR] at e
  | f + 1, b, left, out, l0, l1, e => by
    by_cases hl : 0 < left
    · by_cases e1 : (valR (T, b) left).2.2 = 0
      · obtain ⟨r', v, hv⟩ : ∃ r' v, valR (T, b) left = (r', v, 0) := ⟨_, _, by rw [← e1]⟩
        have VV := vl_ok l0 l1 hv
        have v0 := VV.v0
        have v1 := VV.v1
        have st := VV.st
        obtain ⟨r1, b'⟩ := r'
        dsimp only at st
        subst st
        have hv' := val_mono h hv
        cases hy : ((out.length : Int) == y)
        · by_cases hv1 : v = 1
          · subst hv1
            rw [rd_zero hl hv hy] at e ⊢
            rw [rd_zero hl hv' hy]
            by_cases hz : (flR y (y.toNat + 1) (r1, b') (out ++ [1 - 1])).2.2 = 0
            · have F := fl_mono h _ _ _ hz
              have st2 := (fl_st _ _ _ hz).st
              rw [contZ_ok hz] at e ⊢
              rw [F, contZ_ok rfl]
              dsimp only
              have er : (flR y (y.toNat + 1) (r1, b') (out ++ [1 - 1])).1 = (r1, (flR y (y.toNat + 1) (r1, b') (out ++ [1 - 1])).1.2) := Prod.ext st2 rfl
              rw [er] at e ⊢
              exact rd_mono h f _ _ _ l0 l1 e
            · rw [contZ_err hz] at e; exact absurd e hz
          · rw [rd_step hl hv hy hv1] at e ⊢
            rw [rd_step hl hv' hy hv1]
            exact rd_mono h f _ _ _ (by omega) (by omega) e
        · rw [rd_full hl hv hy] at e; exact absurd e (by show ¬ (23 : Int) = 0; decide)
      · rw [rd_err hl e1] at e; exact absurd e e1
    · rw [rd_end hl, rd_end hl]
theorem rdA_mono {T S : ByteArray} (h : Pfx T S) {m y : Int} (hm : m ≤ 12) (e : (rdA (T, 0) m y).2.2 = 0) : rdA (S, 0) m y = ((S, (rdA (T, 0) m y).1.2), (rdA (T, 0) m y).2.1, 0) := by
  by_cases e1 : (takeT (T, 0) 4).2.2 = 0
  · obtain ⟨t1, t2⟩ := tk_mono h e1
    have hl : logR (S, 0) = logR (T, 0) := by unfold logR; rw [t1]
    by_cases c : m < logR (T, 0)
    · rw [rdA_acc e1 c] at e; exact absurd e (by show ¬ (31 : Int) = 0; decide)
    · have p12 := pow12 (g := logR (T, 0)) (by omega)
      have p0 := pow_pos' (logR (T, 0)).toNat
      rw [rdA_go e1 c] at e ⊢
      rw [rdA_go (by rw [t1]) (by rw [hl]; exact c), hl, t1]
      rw [t2] at e ⊢
      exact rd_mono h _ _ _ _ (by omega) p12 e
  · rw [rdA_err e1] at e; exact absurd e e1
end Go.Proofs.Ytafabheehkmfhaa
/-
  Chapter 8: the laws on what is written and read back, as conditions. Conditions: none (definitions).
-/
namespace Go.Proofs.Ytafabheehkmfhaa
open Go Go.RowKit
set_option linter.unusedVariables false
set_option linter.unusedSimpArgs false
set_option maxRecDepth 100000
def G8p : List (Nat × Ctr) := (55, sKd.ctr) :: G8o
/-!
--%VC lawBk ;; (l : List Int) (t : ByteArray) ;; G8p ;; fun _ => none ;; law08.DistBack ;; [.dat (.ints .i64 l), .v (.string t)] ;; [] ;; (.v (.bool true)) ;; []
--%VC lawCut ;; (l : List Int) (k : Int) ;; G8p ;; fun _ => none ;; law08.DistCuts ;; [.dat (.ints .i64 l), .v (.int .i64 k)] ;; [] ;; (.v (.bool true)) ;; []
-/
end Go.Proofs.Ytafabheehkmfhaa
/-
  The conditions of the functions told in the text before, and that they are the executor's. Conditions: none.
-/
namespace Go.Proofs.Ytafabheehkmfhaa
open Go Go.RowKit
set_option linter.unusedVariables false
set_option maxRecDepth 100000
def lawBk_t (l : List Int) (t : ByteArray) : Prop :=
 (decide ((↑(ByteArray.size t) : Int) > (40 : Int)) = true → true = true) ∧
 (decide ((↑(ByteArray.size t) : Int) > (40 : Int)) = false →
 List.all l inW = true ∧
 List.length (kdP l) ≤ (4294967296 : Nat) ∧
 List.length (kdP l) ≤ (4294967296 : Nat) ∧
 ByteArray.size (writeF (kdG l) (kdP l)).fst + ByteArray.size t ≤ (9223372036854775807 : Nat) ∧
 ByteArray.size ((writeF (kdG l) (kdP l)).fst ++ t) ≤ (1000000 : Nat) ∧
 (((writeF (kdG l) (kdP l)).snd == (0 : Int)) = true →
 ((dchk (kdG l) (kdP l) == (0 : Int)) = true →
 (8 : Int) ≠ (0 : Int) ∧
 (((↑(ByteArray.size (writeF (kdG l) (kdP l)).fst) : Int) == IntKind.wrap IntKind.i64 (Int.tdiv (IntKind.wrap IntKind.i64 (bitsF (kdG l) (kdP l) + (7 : Int))) (8 : Int))) =
 true →
 (((readF (2000 : Int) ((writeF (kdG l) (kdP l)).fst ++ t) (0 : Int) (12 : Int) (256 : Int)).snd.snd.fst == (0 : Int) &&
 ((readF (2000 : Int) ((writeF (kdG l) (kdP l)).fst ++ t) (0 : Int) (12 : Int) (256 : Int)).snd.snd.snd == (0 : Int) && true)) =
 true →
 (((readF (2000 : Int) ((writeF (kdG l) (kdP l)).fst ++ t) (0 : Int) (12 : Int) (256 : Int)).snd.fst == (↑(ByteArray.size (writeF (kdG l) (kdP l)).fst) : Int)) = true →
 List.length (readF (2000 : Int) ((writeF (kdG l) (kdP l)).fst ++ t) (0 : Int) (12 : Int) (256 : Int)).fst.snd ≤ (4294967296 : Nat) ∧
 (((readF (2000 : Int) ((writeF (kdG l) (kdP l)).fst ++ t) (0 : Int) (12 : Int) (256 : Int)).fst.fst == kdG l &&
 eqI (readF (2000 : Int) ((writeF (kdG l) (kdP l)).fst ++ t) (0 : Int) (12 : Int) (256 : Int)).fst.snd (kdP l)) =
 true →
 true = true) ∧
 (((readF (2000 : Int) ((writeF (kdG l) (kdP l)).fst ++ t) (0 : Int) (12 : Int) (256 : Int)).fst.fst == kdG l &&
 eqI (readF (2000 : Int) ((writeF (kdG l) (kdP l)).fst ++ t) (0 : Int) (12 : Int) (256 : Int)).fst.snd (kdP l)) =
 false →
 false = true)) ∧
 (((readF (2000 : Int) ((writeF (kdG l) (kdP l)).fst ++ t) (0 : Int) (12 : Int) (256 : Int)).snd.fst == (↑(ByteArray.size (writeF (kdG l) (kdP l)).fst) : Int)) =
 false →
 false = true)) ∧
 (((readF (2000 : Int) ((writeF (kdG l) (kdP l)).fst ++ t) (0 : Int) (12 : Int) (256 : Int)).snd.snd.fst == (0 : Int) &&
 ((readF (2000 : Int) ((writeF (kdG l) (kdP l)).fst ++ t) (0 : Int) (12 : Int) (256 : Int)).snd.snd.snd == (0 : Int) && true)) =
 false →
 false = true)) ∧
 (((↑(ByteArray.size (writeF (kdG l) (kdP l)).fst) : Int) == IntKind.wrap IntKind.i64 (Int.tdiv (IntKind.wrap IntKind.i64 (bitsF (kdG l) (kdP l) + (7 : Int))) (8 : Int))) =
 false →
 false = true)) ∧
 ((dchk (kdG l) (kdP l) == (0 : Int)) = false → false = true)) ∧
 (((writeF (kdG l) (kdP l)).snd == (0 : Int)) = false → false = true))
--end
theorem lawBk_e (l : List Int) (t : ByteArray) : lawBk_t l t = vcG Try.prog (Gof G8p) (fun _ => none) Try.f12 [.dat (.ints .i64 l), .v (.string t)] [] (.leaf ((.v (.bool true))) ([])) := by kernel_rfl
def lawCut_t (l : List Int) (k : Int) : Prop :=
 List.all l inW = true ∧
 List.length (kdP l) ≤ (4294967296 : Nat) ∧
 (((writeF (kdG l) (kdP l)).snd != (0 : Int)) = true → false = true) ∧
 (((writeF (kdG l) (kdP l)).snd != (0 : Int)) = false →
 (((↑(ByteArray.size (writeF (kdG l) (kdP l)).fst) : Int) == (0 : Int)) = true → false = true) ∧
 (((↑(ByteArray.size (writeF (kdG l) (kdP l)).fst) : Int) == (0 : Int)) = false →
 inW k = true ∧
 inW (↑(ByteArray.size (writeF (kdG l) (kdP l)).fst) : Int) = true ∧
 (0 : Int) ≤ (0 : Int) ∧
 (0 : Int) ≤ modI k (↑(ByteArray.size (writeF (kdG l) (kdP l)).fst) : Int) ∧
 modI k (↑(ByteArray.size (writeF (kdG l) (kdP l)).fst) : Int) ≤ (↑(ByteArray.size (writeF (kdG l) (kdP l)).fst) : Int) ∧
 ByteArray.size (ByteArray.extract (writeF (kdG l) (kdP l)).fst (Int.toNat (0 : Int)) (Int.toNat (modI k (↑(ByteArray.size (writeF (kdG l) (kdP l)).fst) : Int)))) ≤
 (1000000 : Nat) ∧
 (((readF (2000 : Int) (ByteArray.extract (writeF (kdG l) (kdP l)).fst (Int.toNat (0 : Int)) (Int.toNat (modI k (↑(ByteArray.size (writeF (kdG l) (kdP l)).fst) : Int))))
 (0 : Int) (12 : Int) (256 : Int)).snd.snd.fst ==
 (23 : Int) &&
 ((readF (2000 : Int) (ByteArray.extract (writeF (kdG l) (kdP l)).fst (Int.toNat (0 : Int)) (Int.toNat (modI k (↑(ByteArray.size (writeF (kdG l) (kdP l)).fst) : Int))))
 (0 : Int) (12 : Int) (256 : Int)).snd.snd.snd ==
 (0 : Int) &&
 true)) =
 true →
 (((readF (2000 : Int) (ByteArray.extract (writeF (kdG l) (kdP l)).fst (Int.toNat (0 : Int)) (Int.toNat (modI k (↑(ByteArray.size (writeF (kdG l) (kdP l)).fst) : Int))))
 (0 : Int) (12 : Int) (256 : Int)).snd.fst ==
 (0 : Int)) =
 true →
 (((↑(List.length
 (readF (2000 : Int)
 (ByteArray.extract (writeF (kdG l) (kdP l)).fst (Int.toNat (0 : Int)) (Int.toNat (modI k (↑(ByteArray.size (writeF (kdG l) (kdP l)).fst) : Int))))
 (0 : Int) (12 : Int) (256 : Int)).fst.snd) :
 Int) ==
 (0 : Int)) =
 true →
 true = true) ∧
 (((↑(List.length
 (readF (2000 : Int)
 (ByteArray.extract (writeF (kdG l) (kdP l)).fst (Int.toNat (0 : Int)) (Int.toNat (modI k (↑(ByteArray.size (writeF (kdG l) (kdP l)).fst) : Int))))
 (0 : Int) (12 : Int) (256 : Int)).fst.snd) :
 Int) ==
 (0 : Int)) =
 false →
 false = true)) ∧
 (((readF (2000 : Int) (ByteArray.extract (writeF (kdG l) (kdP l)).fst (Int.toNat (0 : Int)) (Int.toNat (modI k (↑(ByteArray.size (writeF (kdG l) (kdP l)).fst) : Int))))
 (0 : Int) (12 : Int) (256 : Int)).snd.fst ==
 (0 : Int)) =
 false →
 false = true)) ∧
 (((readF (2000 : Int) (ByteArray.extract (writeF (kdG l) (kdP l)).fst (Int.toNat (0 : Int)) (Int.toNat (modI k (↑(ByteArray.size (writeF (kdG l) (kdP l)).fst) : Int))))
 (0 : Int) (12 : Int) (256 : Int)).snd.snd.fst ==
 (23 : Int) &&
 ((readF (2000 : Int) (ByteArray.extract (writeF (kdG l) (kdP l)).fst (Int.toNat (0 : Int)) (Int.toNat (modI k (↑(ByteArray.size (writeF (kdG l) (kdP l)).fst) : Int))))
 (0 : Int) (12 : Int) (256 : Int)).snd.snd.snd ==
 (0 : Int) &&
 true)) =
 false →
 false = true)))
--end
theorem lawCut_e (l : List Int) (k : Int) : lawCut_t l k = vcG Try.prog (Gof G8p) (fun _ => none) Try.f11 [.dat (.ints .i64 l), .v (.int .i64 k)] [] (.leaf ((.v (.bool true))) ([])) := by kernel_rfl
end Go.Proofs.Ytafabheehkmfhaa
/-
  Chapter 8: the laws DistBack and DistCuts hold. Conditions: each theorem's own.
-/
namespace Go.Proofs.Ytafabheehkmfhaa
open Go Go.RowKit
set_option linter.unusedVariables false
set_option linter.unusedSimpArgs false
set_option maxRecDepth 100000
theorem stepV_low (x left : Int) (h : 1 < left) : -1 ≤ stepV x left := by
  have hV := mod20 x
  have m0 := Int.emod_nonneg (modI x 1048576 / 4) (show min left 40 ≠ 0 by omega)
  unfold stepV
  cases modI x 1048576 % 4 == 0
  · cases modI x 1048576 % 4 == 1
    · simp only [cond_false]; omega
    · simp only [cond_true, cond_false]; omega
  · simp only [cond_true]; omega
structure KdOk (n : Int) (m : Nat) (z : List Int × Int) : Prop where
  pos : 1 ≤ z.2
  low : ∀ x ∈ z.1, -1 ≤ x
  sum : pts z.1 + z.2 = n
  len : z.1.length ≤ m
theorem kdL_ok (r : List Int) : ∀ (left : Int) (out : List Int) (n : Int) (m : Nat), KdOk n m (out, left) → KdOk n (m + r.length) (kdL r left out) := by
  induction r with
  | nil => intro left out n m h; exact h
  | cons x r ih =>
    intro left out n m h
    have h1 := h.pos
    have h2 := h.low
    have h3 := h.sum
    have h4 := h.len
    dsimp only at h1 h2 h3 h4
    have up : KdOk n (m + (r.length + 1)) (out, left) := ⟨h1, h2, h3, by dsimp only; omega⟩
    by_cases c : 1 < left
    · by_cases c2 : left ≤ stepV x left
      · rw [kd_stop c rfl c2]; exact up
      · rw [kd_step c rfl c2]
        have lo := stepV_low x left c
        have e : m + (x :: r).length = (m + 1) + r.length := by simp only [List.length_cons]; omega
        rw [e]
        refine ih _ _ _ _ ⟨?_, ?_, ?_, by simp; omega⟩
        · dsimp only
          cases d : decide (stepV x left < 0)
          · simp only [cond_false]; omega
          · simp only [cond_true]; omega
        · intro z hz
          rcases List.mem_append.1 hz with hz | hz
          · exact h2 z hz
          · rw [List.mem_singleton.1 hz]; exact lo
        · dsimp only
          rw [pts_app, pts_cons]
          have e0 : pts ([] : List Int) = 0 := rfl
          rw [e0]
          unfold pt
          omega
    · rw [kd_one c]; exact up
theorem kd_ok (l : List Int) : dchk (kdG l) (kdP l) = 0 ∧ (kdP l).length ≤ 30 := by
  have hg := kdG_in l
  have p0 := pow_pos' (kdG l).toNat
  have K := kdL_ok ((l.take 30).drop 1) (2 ^ (kdG l).toNat) [] (2 ^ (kdG l).toNat) 0 ⟨by dsimp only; omega, fun x h => by simp at h, by show (0 : Int) + _ = _; omega, Nat.le_refl _⟩
  have k1 := K.pos
  have k2 := K.low
  have k3 := K.sum
  have k4 := K.len
  have e : kdL ((l.take 30).drop 1) (2 ^ (kdG l).toNat) [] = kdF l := rfl
  rw [e] at k1 k2 k3 k4
  have h29 : ((l.take 30).drop 1).length ≤ 29 := by simp; omega
  have hlen : (kdP l).length = (kdF l).1.length + 1 := by unfold kdP; simp
  have hlast : (kdP l).getD ((kdP l).length - 1) 0 = (kdF l).2 := by
    rw [hlen, Nat.add_sub_cancel]
    unfold kdP
    simp
  have hsum : pts (kdP l) = 2 ^ (kdG l).toNat := by
    unfold kdP
    rw [pts_app, pts_cons]
    have e0 : pts ([] : List Int) = 0 := rfl
    have e1 : pt (kdF l).2 = (kdF l).2 := by unfold pt; rw [decide_eq_false (by omega)]; rfl
    rw [e0, e1]
    omega
  refine ⟨?_, by omega⟩
  unfold dchk
  rw [decide_eq_false (by omega), decide_eq_false (by omega)]
  have hb : dbad (kdG l) (kdP l) = false := by
    unfold dbad
    rw [hlast, hsum]
    have a1 : decide ((kdP l).length < 1) = false := decide_eq_false (by omega)
    have a2 : decide (256 < (kdP l).length) = false := decide_eq_false (by omega)
    have a3 : ((kdF l).2 == 0) = false := by
      have : (kdF l).2 ≠ 0 := by omega
      simpa using this
    have a4 : (kdP l).any (fun x => decide (x < -1)) = false := by
      rw [List.any_eq_false]
      intro x hx
      simp only [decide_eq_true_eq]
      unfold kdP at hx
      rcases List.mem_append.1 hx with hx | hx
      · have := k2 x hx; omega
      · rw [List.mem_singleton.1 hx]; omega
    rw [a1, a2, a3, a4]
    simp
  rw [hb]; rfl
theorem kd_wrote (l : List Int) : ∃ D, Wrote (kdG l) (kdP l) D (blen (deAll (kdG l) (kdP l))) (numKV (deAll (kdG l) (kdP l))) := (Valid.of (kd_ok l).1).wrote (kd_ok l).1
theorem win_all (s : ByteArray) (h : s.size ≤ 2000) : win s 0 2000 = s := by
  unfold win
  have e : (min (s.size : Int) (0 + 2000)).toNat = s.size := by omega
  rw [e]
  exact ByteArray.extract_zero_size
theorem rng_ok (s : ByteArray) : rngE s 0 12 256 = false := rng_in (by omega) (by omega) (by omega) (by omega) (by omega) (by omega)
theorem leN_app (D t : ByteArray) : leN (D ++ t).data.toList = leN D.data.toList + 2 ^ (8 * D.size) * leN t.data.toList := by
  rw [ByteArray.data_append, Array.toList_append, leN_append, size_dl, Nat.pow_mul]
theorem read_back (l : List Int) (t : ByteArray) (ht : t.size ≤ 40) {D : ByteArray} (w : Wrote (kdG l) (kdP l) D (blen (deAll (kdG l) (kdP l))) (numKV (deAll (kdG l) (kdP l)))) : readF 2000 (D ++ t) 0 12 256 = ((kdG l, kdP l), (D.size : Int), 0, 0) := by
  have V := Valid.of (kd_ok l).1
  have h30 := (kd_ok l).2
  have sz := w.sz
  have le := w.le
  have hsz : (D ++ t).size = D.size + t.size := ByteArray.size_append
  obtain ⟨b1, b2, b3⟩ := rdA_back V (S := D ++ t) (by omega) (2 ^ (8 * D.size - blen (deAll (kdG l) (kdP l))) * leN t.data.toList) (by omega) (by
    rw [leN_app, w.nm, ← Nat.mul_assoc, ← Nat.pow_add, show blen (deAll (kdG l) (kdP l)) + (8 * D.size - blen (deAll (kdG l) (kdP l))) = 8 * D.size by omega])
  have hw := win_all (D ++ t) (by omega)
  rw [readF_ok (rng_ok _) (by rw [hw, b3]), hw, b3, b2]
  have hn : (nextT (D ++ t, ((blen (deAll (kdG l) (kdP l)) : Nat) : Int))).1 = (D.size : Int) := by
    unfold nextT
    have r0 : rchk (D ++ t) ((blen (deAll (kdG l) (kdP l)) : Nat) : Int) = 0 := rchk_mk (by omega) (by omega) (by omega)
    dsimp only
    rw [if_pos r0]
    dsimp only
    omega
  dsimp only
  rw [hn, Int.zero_add]
theorem read_cut (l : List Int) (c : Nat) {D : ByteArray} (w : Wrote (kdG l) (kdP l) D (blen (deAll (kdG l) (kdP l))) (numKV (deAll (kdG l) (kdP l)))) (hc : c < D.size) : readF 2000 (D.extract 0 c) 0 12 256 = ((0, []), 0, 23, 0) := by
  have V := Valid.of (kd_ok l).1
  have h30 := (kd_ok l).2
  have sz := w.sz
  have le := w.le
  have g12 := V.g12
  have hT : (D.extract 0 c).size = c := by rw [ByteArray.size_extract]; omega
  have hP : Pfx (D.extract 0 c) D := ⟨⟨(D.extract c D.size).data.toList, by
    rw [← Array.toList_append, ← ByteArray.data_append, ByteArray.extract_append_extract, Nat.min_eq_left (by omega), Nat.max_eq_right (by omega), ByteArray.extract_zero_size]⟩, by omega, by omega⟩
  obtain ⟨b1, b2, b3⟩ := rdA_back V (S := D) (by omega) 0 (by omega) (by rw [w.nm, Nat.mul_zero, Nat.add_zero])
  have hw := win_all (D.extract 0 c) (by omega)
  generalize hTT : D.extract 0 c = T at hT hP hw ⊢
  have h0 : (rdA (T, 0) 12 256).2.2 ≠ 0 := fun e => by
    have M := rdA_mono hP (by omega) e
    obtain ⟨st, _, _⟩ := rdA_st (by omega) e
    have hi := st.hi
    rw [b3] at M
    have m1 := congrArg (fun x => x.1.2) M
    dsimp only at m1 hi
    omega
  have h31 : ((rdA (T, 0) 12 256).2.2 == 31) = false := by
    by_cases e : (takeT (T, 0) 4).2.2 = 0
    · obtain ⟨t1, t2⟩ := tk_mono hP e
      have hl : logR (T, 0) = kdG l := by
        rw [← b2]
        unfold logR
        rw [t1]
      rw [rdA_go e (by rw [hl]; omega)]
      simpa using rd_n31 _ _ _ _
    · rw [rdA_err e]
      simpa using tk_n31 _ _
  rw [readF_err (rng_ok _) (by rw [hw]; exact h0), hw, h31]
  rfl
/-! ### the laws -/
theorem lawBk_v (l : List Int) (t : ByteArray) (hl : l.all inW = true) : lawBk_t l t := by
  unfold lawBk_t
  refine ⟨fun _ => rfl, fun h => ?_⟩
  simp only [gt_iff_lt, decide_eq_false_iff_not] at h
  obtain ⟨D, w⟩ := kd_wrote l
  have h30 := (kd_ok l).2
  have sz := w.sz
  have le := w.le
  have hsz : (D ++ t).size = D.size + t.size := ByteArray.size_append
  have eb : IntKind.wrap IntKind.i64 (Int.tdiv (IntKind.wrap IntKind.i64 (((blen (deAll (kdG l) (kdP l)) : Nat) : Int) + 7)) 8) = (D.size : Int) := by
    rw [wr (n := ((blen (deAll (kdG l) (kdP l)) : Nat) : Int) + 7) (by omega) (by omega), Int.tdiv_eq_ediv_of_nonneg (by omega), wr (by omega) (by omega)]
    omega
  rw [w.eq, read_back l t (by omega) w, w.bits, (kd_ok l).1]
  dsimp only
  rw [eb]
  refine ⟨hl, by omega, by omega, by omega, by omega, ?_⟩
  simp [eqI_refl]
  omega
theorem lawCut_v (l : List Int) (k : Int) (hl : l.all inW = true) (hk : inW k = true) : lawCut_t l k := by
  unfold lawCut_t
  obtain ⟨D, w⟩ := kd_wrote l
  have h30 := (kd_ok l).2
  have sz := w.sz
  have le := w.le
  have hb : 0 < blen (deAll (kdG l) (kdP l)) := by show 0 < 4 + _; omega
  have hm : 0 ≤ modI k D.size ∧ modI k D.size < D.size := by
    unfold modI
    rw [decide_eq_false (by omega)]
    simp only [cond_false]
    exact ⟨Int.emod_nonneg _ (by omega), Int.emod_lt_of_pos _ (by omega)⟩
  have hi : inW (D.size : Int) = true := by unfold inW; rw [decide_eq_true (by omega), decide_eq_true (by omega)]; rfl
  rw [w.eq]
  dsimp only
  rw [show (0 : Int).toNat = 0 from rfl, read_cut l (modI k D.size).toNat w (by omega)]
  have hT : (D.extract 0 (modI k D.size).toNat).size ≤ 1000000 := by rw [ByteArray.size_extract]; omega
  have hne : ((D.size : Int) == 0) = false := by
    have : (D.size : Int) ≠ 0 := by omega
    simpa using this
  refine ⟨hl, by omega, fun h => by simp at h, fun _ => ⟨fun h => by rw [hne] at h; exact h, fun _ => ⟨hk, hi, by omega, hm.1, by omega, hT, ?_⟩⟩⟩
  simp
end Go.Proofs.Ytafabheehkmfhaa
/-
  Chapter 8: the laws DistBack and DistCuts return true. Conditions: each theorem's own.
-/
namespace Go.Proofs.Ytafabheehkmfhaa
open Go Go.RowKit
set_option linter.unusedVariables false
set_option linter.unusedSimpArgs false
set_option maxRecDepth 100000
theorem kd_sound : Sound Try.prog 55 sKd.ctr := sKd.sound (by kernel_rfl) sKd_enc fun l hc => by
  have h0 := hc _ (.head _)
  exact satG G8o_ok mixed Try.func55 (kd_e l) (kd_v l h0)
theorem G8p_ok : AllOk Try.prog G8p := .cons kd_sound G8o_ok
theorem ints_inW {w : World} {A : Option Addr} {n cap : Nat} {zs : List Int} (h : IntsIn w A n cap zs) : (zs.take n).all inW = true := by
  rw [List.all_eq_true]
  intro x hx
  have := h.rng x (List.mem_of_mem_take hx)
  simp [inW]
  omega
theorem back8_any (A : Option Addr) (n cap : Nat) (zs : List Int) (t : ByteArray) (W : World) (hI : IntsIn W A n cap zs) (ht : (t.size : Int) ≤ 9223372036854775807) :
    Calls Try.prog 12 #[.slice A n cap, .string t] W fun e w' => e = .returned (.bool true) ∧ Below W.heap.size W w' := by
  refine law_true (us := [.slice A n cap, .string t]) (satG G8p_ok mixed Try.func12 (lawBk_e (zs.take n) t) (lawBk_v _ t (ints_inW hI))) (.inr rfl) ?_
  simp only [Reps]
  exact ⟨_, _, rfl, dat_ints hI, _, _, rfl, rfl, rfl⟩
theorem cuts8_any (A : Option Addr) (n cap : Nat) (zs : List Int) (k : Int) (W : World) (hI : IntsIn W A n cap zs) (hk : InR k) :
    Calls Try.prog 11 #[.slice A n cap, .int .i64 k] W fun e w' => e = .returned (.bool true) ∧ Below W.heap.size W w' := by
  refine law_true (us := [.slice A n cap, .int .i64 k]) (satG G8p_ok mixed Try.func11 (lawCut_e (zs.take n) k) (lawCut_v _ k (ints_inW hI) (by unfold InR at hk; simp [inW]; omega))) (.inr rfl) ?_
  simp only [Reps]
  exact ⟨_, _, rfl, dat_ints hI, _, _, rfl, rfl, rfl⟩
end Go.Proofs.Ytafabheehkmfhaa
