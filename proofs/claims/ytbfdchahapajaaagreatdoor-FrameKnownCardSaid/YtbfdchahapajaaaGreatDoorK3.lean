/-
  Texts joined: SxVb, SxVc, SxV, SxW, SxX, SyA, SyB, SyC, Or, Base, Nx, SyD, Br. Conditions: each theorem's own.
-/
import Derived.Test.YtbfdchahapajaaaGreatDoorK2
import Derived.Sort.LoopGhostIn
import Derived.Test.YtbfdchahapajaaaGreatDoorRows
import Derived.WalkKit
import Derived.WalkSpells
import Derived.WalkLawsBesides
import Derived.ProofKit
import Derived.Handy
import Derived.PlainAid
import Derived.ShutString
import Derived.ChangeSame
import Derived.Deep.QuietTactic
import Derived.Deep.RegionWith
import Derived.Deep.RegionHeld3
import Derived.BigQuiet
import Derived.BigRegion
import Derived.Laws.IdiomStrings
import Derived.Laws.BytesArg
import Derived.Laws.BitsAllLaws
import Derived.Laws.BitsLemmas
import Derived.Laws.OwnMore
import Derived.Laws.Rows
import Derived.Laws.MakeOwn
import Derived.Deep.AppendLies
import Derived.Deep.Draws
import Derived.Deep.OwnRows
import Derived.Maps.AppendAt
import Derived.RegionTactic
import Derived.OwnWalk
import Derived.Lib.Hide
import Derived.IntWalk
import Derived.Lib.SmallJoins
namespace Go.Proofs.YtbfdchahapajaaaGreatDoor
open Go.RowKit
set_option linter.unusedVariables false
set_option linter.unusedSimpArgs false
def XE.ex : XE → Exit
  | .normal => .normal
  | .exit id => .exit id
  | .ret => .ret
def XE.code : XE → Code
  | .normal => .skip
  | .exit id => .exit id
  | .ret => .ret
theorem idsT_mem : ∀ {tm : List (Nat × SV)} {t : Nat} {x : SV}, lookupL tm t = some x → ∀ k ∈ ids x, k ∈ idsT tm
  | (i, y) :: r, t, x, h, k, hk => by
    simp only [lookupL] at h
    simp only [idsT, List.mem_append]
    cases hb : Nat.beq t i
    · rw [hb] at h; exact .inr (idsT_mem h k hk)
    · rw [hb] at h; cases h; exact .inl hk
  | [], t, x, h, _, _ => by cases h
theorem lookup_keepA {hp : List (Nat × SBlk)} {l : Nat} {x : Option Nat} (h : lookupL (keepA hp) l = some x) : x = some l ∧ l ∈ hp.map (·.1) := by
  have := lookupL_mem h
  unfold keepA at this
  obtain ⟨y, hy, he⟩ := List.mem_map.1 this
  cases he
  exact ⟨rfl, List.mem_map.2 ⟨y, hy, rfl⟩⟩
theorem ren_keepA {hp : List (Nat × SBlk)} {β : Nat → Option Loc} {l : Nat} {L : Loc} (h : renβ (keepA hp) hp β l = some L) : β l = some L ∧ l ∈ hp.map (·.1) := by
  unfold renβ at h
  cases e : lookupL (keepA hp) l with
  | none => rw [e] at h; cases h
  | some x =>
    obtain ⟨rfl, hl⟩ := lookup_keepA e
    rw [e] at h
    exact ⟨h, hl⟩
theorem leg {E E' : Env} {D D' : Nat → Prop} {β β' : Nat → Option Loc} {S S' : Sst} {a a' : Act} {w w' : World} (h0 : St E D β S a w) (e0 : E'.w0 = w) (hW : ∀ g, E'.Wr g → Blks S.H β g) (hD : ∀ g, E'.D0 g → D g) (h1 : St E' D' β' S' a' w')
    {g : Nat} (hg : g < w.heap.size) (hb : ¬ Blks S.H β g) : w'.heap[g]? = w.heap[g]? ∧ (D' g → D g) ∧ ¬ Blks S'.H β' g := by
  refine ⟨?_, fun h => ?_, fun h => ?_⟩
  · have := h1.block g (by rw [e0]; exact hg) fun h => hb (hW g h)
    rw [this, e0]
  · rcases h1.d1 g h with k | k | k
    · exact hD g k
    · rw [e0] at k; omega
    · exact absurd (hW g k) hb
  · rcases (h1.blkOld h).2.2 with k | k
    · rw [e0] at k; omega
    · exact hb (hW g k)
def Mid (E1 : Env) (mk : Nat) (X : Nat → Prop) (S' : Sst) (W : World) : Prop :=
  ∃ D' β' a', St E1 D' β' S' a' W ∧ ¬ D' mk ∧ ¬ D' (mk + 1) ∧ mk + 1 < W.heap.size ∧ ¬ X mk ∧ ¬ X (mk + 1) ∧ ∀ g, X g → g < W.heap.size ∧ ¬ D' g ∧ ¬ Blks S'.H β' g ∧ (E1.w0.heap.size ≤ g ∨ E1.Wr g)
theorem mid_tame {E1 : Env} {mk : Nat} {X : Nat → Prop} {S' : Sst} {W W2 : World} (h : Mid E1 mk X S' W) (t : Tame X W W2) : Mid E1 mk (more X W W2) S' W2 ∧ W2.heap[mk]? = W.heap[mk]? ∧ W2.heap[mk + 1]? = W.heap[mk + 1]? := by
  obtain ⟨D', β', a', hs, d1, d2, hm, x1, x2, hx⟩ := h
  obtain ⟨t1, t2, t3, t4, t5⟩ := t
  refine ⟨⟨D', β', a', ?_, d1, d2, by omega, ?_, ?_, ?_⟩, t5 _ (by omega) x1, t5 _ hm x2⟩
  · refine hs.world t1 t2 t3 t4 (fun g hg => t5 g (hs.dlt g hg) fun h => (hx g h).2.1 hg) (fun g hg => t5 g (hs.blkOld hg).1 fun h => (hx g h).2.2.1 hg) (fun g h1 h2 => t5 g (Nat.lt_of_lt_of_le h1 hs.grow) fun h => ?_)
    rcases (hx g h).2.2.2 with k | k
    · omega
    · exact h2 k
  · rintro (h | h)
    · exact x1 h
    · omega
  · rintro (h | h)
    · exact x2 h
    · omega
  · rintro g (h | ⟨h1, h2⟩)
    · obtain ⟨k1, k2⟩ := hx g h
      exact ⟨by omega, k2⟩
    · refine ⟨h2, fun h => ?_, fun h => ?_, .inl (Nat.le_trans hs.grow h1)⟩
      · have := hs.dlt g h; omega
      · have := (hs.blkOld h).1; omega
theorem ofA_rep {D : Nat → Prop} {w : World} {β : Nat → Option Loc} (x : Value) : Rep D w β (SV.ofA x) x := by
  unfold SV.ofA
  split
  · rename_i cs
    simp only [Rep]
    refine ⟨cs.toList, by simp, ?_⟩
    have := Reps.map (D := D) (w := w) (β := β) SV.v id (fun x => by simp only [Rep, id]) cs.toList
    simpa using this
  · simp only [Rep]
theorem St.bind {E : Env} {D : Nat → Prop} {β : Nat → Option Loc} {w : World} : ∀ (ps : List Nat) (xs : List Value) {S : Sst} {a : Act}, (ps.all fun p => Nat.blt p S.n) = true → St E D β S a w →
    St E D β (bindT ps xs S) { a with tmps := (ps.zip xs).foldl (fun t (p, v) => t.setIfInBounds p v) a.tmps } w
  | [], xs, S, a, _, h => by simpa [bindT, bindS] using h
  | p :: ps, [], S, a, _, h => by simpa [bindT, bindS] using h
  | p :: ps, x :: xs, S, a, hp, h => by
    simp only [List.all_cons, Bool.and_eq_true] at hp
    have h1 := h.put (dst := some p) (x := SV.ofA x) (u := x) (by simpa using hp.1) (ofA_rep x)
    exact St.bind ps xs (S := S.put (some p) (SV.ofA x)) (a := a.put (some p) x) (by simpa [Sst.put] using hp.2) h1
theorem callFunc_of {P : Program} {f : FuncId} (hc : callable P f = true) (args : Array Value) (w : World) : (callFunc f args).run P w = .ok (.enter f args) w := by
  unfold callable at hc
  split at hc
  · rename_i fn hfn
    simp only [Bool.and_eq_true, Bool.not_eq_true'] at hc
    have hbody : fn.body.isNone = false := by
      cases hb : fn.body with
      | none => rw [hb] at hc; simp at hc
      | some _ => rfl
    simp only [callFunc, Sem.run_bind, run_program, Result.andThen_ok, hfn, hc.1, hbody, Bool.false_eq_true, if_false, Sem.run_pure]
  · cases hc
theorem hasAll_of {H : Nat → Option SBlk} {l : List Nat} (h : hasAll H l = true) {k : Nat} (hk : k ∈ l) : ∃ b, H k = some b := by
  have := List.all_eq_true.1 h k hk
  split at this
  · exact ⟨_, by assumption⟩
  · cases this
theorem lookupL_app {α : Type} : ∀ (A B : List (Nat × α)) (k : Nat), lookupL (A ++ B) k = match lookupL A k with
    | some x => some x
    | none => lookupL B k
  | [], _, _ => rfl
  | (i, x) :: r, B, k => by
    simp only [List.cons_append, lookupL]
    cases Nat.beq k i
    · exact lookupL_app r B k
    · rfl
theorem over_some {H : Nat → Option SBlk} {h : List (Nat × SBlk)} {l : Nat} {b : SBlk} (hb : over H h l = some b) : (l, b) ∈ h ∨ H l = some b := by
  unfold over at hb
  split at hb
  · rename_i b0 e; cases hb; exact .inl (lookupL_mem e)
  · exact .inr hb
theorem hasAll_over {H : Nat → Option SBlk} {h : List (Nat × SBlk)} {l : List Nat} (ha : hasAll H l = true) : hasAll (over H h) l = true := by
  refine List.all_eq_true.2 fun k hk => ?_
  obtain ⟨b, hb⟩ := hasAll_of ha hk
  unfold over
  split
  · rfl
  · rename_i e1 e2
    split at e2
    · cases e2
    · rw [hb] at e2; cases e2
theorem St.addE {E : Env} {D' : Nat → Prop} {β' : Nat → Option Loc} {S : Sst} {a : Act} {W : World} (h : St E D' β' S a W) (hT : ∀ t, S.T t = .any) {hE hpI : List (Nat × SBlk)} {tmE : List (Nat × SV)} {βI : Nat → Option Loc} {D X : Nat → Prop}
    (hX : ∀ g, X g → g < W.heap.size ∧ ¬ D' g ∧ ¬ Blks S.H β' g ∧ (E.w0.heap.size ≤ g ∨ E.Wr g)) (hD : ∀ g, D g → D' g) (he : EndAt βI D X W hE) (hk : okEnd hpI tmE S.U hE = true) (hG : ∀ l, E.G l → l < 2000)
    (hinj : ∀ l l' L L', l ∈ hpI.map (·.1) → l' ∈ hpI.map (·.1) → βI l = some L → βI l' = some L' → L.nil = false → L'.nil = false → L.g = L'.g → l = l') :
    ∃ D2 β2, St E D2 β2 { n := S.n, T := S.T, H := over S.H hE, U := overU S.U hE } a W ∧ (∀ g, D2 g → D' g ∨ X g) ∧ (∀ g, D' g → D2 g) ∧ ∀ l, l ∈ hE.map (·.1) → β2 l = βI l := by
  obtain ⟨D0, hd0, hb⟩ := he
  unfold okEnd at hk
  simp only [Bool.and_eq_true] at hk
  have hkx : ∀ l, l ∈ hE.map (·.1) → l ∈ hpI.map (·.1) ∧ 2000 ≤ l ∧ S.U l = false := fun l hl => by
    obtain ⟨x, hx, rfl⟩ := List.mem_map.1 hl
    have := List.all_eq_true.1 hk.2 x hx
    simp only [Bool.and_eq_true, Bool.not_eq_true'] at this
    refine ⟨hasN_iff.1 this.1.1.2, ?_, this.2⟩
    refine Nat.le_of_not_lt fun h => ?_
    have h2 : Nat.blt x.1 2000 = true := Nat.ble_eq_true_of_le h
    rw [this.1.2] at h2
    cases h2
  have hnone : ∀ l, l ∈ hE.map (·.1) → β' l = none := fun l hl => h.dom l (hkx l hl).2.2
  have hHn : ∀ l b, S.H l = some b → l ∉ hE.map (·.1) := fun l b hl hm => by
    obtain ⟨L, h1, _⟩ := h.hp l b hl
    rw [hnone l hm] at h1
    cases h1
  obtain ⟨β2, hβ2⟩ : ∃ β2 : Nat → Option Loc, β2 = fun l => if l ∈ hE.map (·.1) then βI l else β' l := ⟨_, rfl⟩
  have b_in : ∀ l, l ∈ hE.map (·.1) → β2 l = βI l := fun l hl => by rw [hβ2]; exact if_pos hl
  have b_out : ∀ l, l ∉ hE.map (·.1) → β2 l = β' l := fun l hl => by rw [hβ2]; exact if_neg hl
  have keys : ∀ {l b}, (l, b) ∈ hE → l ∈ hE.map (·.1) := fun hl => List.mem_map.2 ⟨_, hl, rfl⟩
  have G : Grows D' W β' (fun g => D' g ∨ D0 g) W β2 := ⟨fun _ h => .inl h, fun _ _ => rfl, fun l L hL => by
    rw [b_out l fun hm => by rw [hnone l hm] at hL; cases hL]; exact hL⟩
  have G0 : Grows D0 W (fun _ => none) (fun g => D' g ∨ D0 g) W β2 := ⟨fun _ h => .inr h, fun _ _ => rfl, fun l L hL => by cases hL⟩
  have eat : ∀ l b, (l, b) ∈ hE → ∃ L, β2 l = some L ∧ BlkRep (fun g => D' g ∨ D0 g) W β2 L b ∧ (L.nil = false → ¬ D0 L.g ∧ X L.g) := fun l b hl => by
    obtain ⟨L, h1, h2, h3⟩ := hb l b hl
    exact ⟨L, by rw [b_in l (keys hl)]; exact h1, h2.mono G0 b fun _ => rfl, fun hn => ⟨(h3 hn).1, (h3 hn).2.1⟩⟩
  refine ⟨fun g => D' g ∨ D0 g, β2, ?_, fun g hg => ?_, fun g hg => .inl hg, b_in⟩
  · exact {
      size := h.size
      tm := fun t => by simp only [hT, Rep]
      hp := fun l b hl => by
        rcases over_some hl with hl | hl
        · obtain ⟨L, h1, h2, _⟩ := eat l b hl
          exact ⟨L, h1, h2⟩
        · obtain ⟨L, h1, h2⟩ := h.hp l b hl
          exact ⟨L, G.b _ _ h1, h2.mono G b fun _ => rfl⟩
      dis := fun l b L hl hL hn => by
        rcases over_some hl with hl | hl
        · obtain ⟨L', h1, _, h3⟩ := eat l b hl
          rw [hL] at h1; cases h1
          obtain ⟨k1, k2⟩ := h3 hn
          obtain ⟨m1, m2, _, m4⟩ := hX _ k2
          exact ⟨m1, fun h => h.elim m2 k1, m4⟩
        · rw [b_out l (hHn l b hl)] at hL
          obtain ⟨k1, k2, k3⟩ := h.dis l b L hl hL hn
          refine ⟨k1, fun h0 => h0.elim k2 fun h1 => ?_, k3⟩
          rcases (hd0 _ h1).1 with h2 | h2
          · exact k2 (hD _ h2)
          · exact (hX _ h2).2.2.1 ⟨l, b, L, hl, hL, hn, rfl⟩
      inj := fun l l' b b' L L' hl hl' hL hL' n1 n2 hg => by
        rcases over_some hl with hl | hl <;> rcases over_some hl' with hl' | hl'
        · rw [b_in l (keys hl)] at hL
          rw [b_in l' (keys hl')] at hL'
          exact hinj l l' L L' (hkx l (keys hl)).1 (hkx l' (keys hl')).1 hL hL' n1 n2 hg
        · obtain ⟨L0, h1, _, h3⟩ := eat l b hl
          rw [hL] at h1; cases h1
          rw [b_out l' (hHn l' b' hl')] at hL'
          exact absurd ⟨l', b', L', hl', hL', n2, hg.symm⟩ (hX _ (h3 n1).2).2.2.1
        · obtain ⟨L0, h1, _, h3⟩ := eat l' b' hl'
          rw [hL'] at h1; cases h1
          rw [b_out l (hHn l b hl)] at hL
          exact absurd ⟨l, b, L, hl, hL, n1, hg⟩ (hX _ (h3 n2).2).2.2.1
        · rw [b_out l (hHn l b hl)] at hL
          rw [b_out l' (hHn l' b' hl')] at hL'
          exact h.inj l l' b b' L L' hl hl' hL hL' n1 n2 hg
      dlt := fun g hg => hg.elim (h.dlt g) fun h => (hd0 g h).2
      d0 := fun g hg => .inl (h.d0 g hg)
      d1 := fun g hg => by
        rcases hg with hg | hg
        · exact h.d1 g hg
        · rcases (hd0 g hg).1 with h2 | h2
          · exact h.d1 g (hD g h2)
          · exact .inr (hX g h2).2.2.2
      dom := fun l hl => by
        simp only [overU, Bool.or_eq_false_iff] at hl
        rw [b_out l fun hm => by rw [hasN_iff.2 hm] at hl; cases hl.2]
        exact h.dom l hl.1
      os := h.os, tape := h.tape, output := h.output, grow := h.grow, block := h.block, df := h.df
      low := fun l hl => by simp only [overU, h.low l hl, Bool.true_or]
      giv := fun l L hl hL => by
        rw [b_out l fun hm => by have := (hkx l hm).2.1; have := hG l hl; omega] at hL
        exact h.giv l L hl hL }
  · rcases hg with hg | hg
    · exact .inl hg
    · exact (hd0 g hg).1.imp (hD g) id
end Go.Proofs.YtbfdchahapajaaaGreatDoor
namespace Go.Proofs.YtbfdchahapajaaaGreatDoor
open Go.RowKit
set_option linter.unusedVariables false
set_option linter.unusedSimpArgs false
set_option maxHeartbeats 1000000
section
variable {P : Program}
theorem with_tm {E E1 : Env} {D D' : Nat → Prop} {β β1 β' : Nat → Option Loc} {S S0 S' : Sst} {a a' : Act} {w W : World} {tm : List (Nat × SV)} {n : Nat}
    (hs : St E D β S a w) (hs1 : St E D β1 S0 a w) (hT : S0.T = fun t => (lookupL tm t).getD .any) (hn : S.n = n) (e0 : E1.w0 = w) (hW : ∀ g, E1.Wr g → Blks S.H β g) (hD : ∀ g, E1.D0 g ↔ D g) (hG : ∀ l, l < 2000 → E1.G l) (hβ : E1.β0 = β1)
    (h2 : (idsT tm).all (fun l => Nat.blt l 2000) = true) (hall : hasAll S'.H (idsT tm) = true) (h : St E1 D' β' S' a' W) :
    St { E1 with df := a.defers } D' β' { n := n, T := fun t => (lookupL tm t).getD .any, H := S'.H, U := S'.U } a W := by
  have G : Grows D w (cutβ β1 (idsT tm)) D' W β' := by
    refine ⟨fun g hg => h.d0 g ((hD g).2 hg), fun g hg => ?_, fun l L hL => ?_⟩
    · have := h.block g (by rw [e0]; exact hs.dlt g hg) fun k => (hs.blkOld (hW g k)).2.1 hg
      rw [this, e0]
    · unfold cutβ at hL
      split at hL
      · rename_i hl
        obtain ⟨b, hb⟩ := hasAll_of hall hl
        obtain ⟨L', hL', _⟩ := h.hp l b hb
        have hlt : l < 2000 := Nat.le_of_ble_eq_true (List.all_eq_true.1 h2 l hl)
        have := h.giv l L' (hG l hlt) hL'
        rw [hβ, hL] at this
        cases this
        exact hL'
      · cases hL
  exact { h with
    size := by rw [← hn]; exact hs.size
    df := rfl
    tm := fun t => by
      simp only
      have ht := hs1.tm t
      rw [hT] at ht
      simp only at ht
      cases hx : lookupL tm t with
      | none => simp only [Option.getD_none, Rep]
      | some x =>
        rw [hx] at ht
        simp only [Option.getD_some] at ht ⊢
        exact Rep.mono G x (Rep.cut x (fun k hk => idsT_mem hx k hk) ht) }
def RunIH (r : Option Nat) (P : Program) (c : Code) (v : Sst → (XE → Sst → Prop) → Prop) : Prop :=
  ∀ (E : Env) (S : Sst) (K : XE → Sst → Prop) (D : Nat → Prop) (β : Nat → Option Loc) (a : Act) (w : World) (Q : Exit → Act → World → Prop), (∀ l, E.G l → l < 2000) →
    v S K → St E D β S a w → (∀ E' e S D β a w, Desc E E' → K e S → St E' D β S a w → Q e.ex a w) → c.wpIn (FR r) 0 P Q a w
theorem rng_ok {E : Env} (hG : ∀ l, E.G l → l < 1000) {b : Nat} {R : RngInv} {S : Sst} {gop : Operand} {ps : Array Tmp} {az bd : Code} {vas vbd : Sst → (XE → Sst → Prop) → Prop} {K : XE → Sst → Prop} {D : Nat → Prop} {β : Nat → Option Loc} {a : Act} {w : World} {Q : Exit → Act → World → Prop}
    (h : rngV P b R S (S.ev gop) ps.toList vas vbd K) (hs : St E D β S a w) (ihas : ∀ l, RunIH (some l) P az vas) (ihbd : ∀ l, RunIH (some l) P bd vbd)
    (hq : ∀ E' e S D β a w, Desc E E' → K e S → St E' D β S a w → Q e.ex a w) : (Code.rangeFunc gop ps az bd).wpIn (FR none) 0 P Q a w := by
  unfold rngV at h
  have hgv := hs.ev gop
  split at h
  rotate_left
  · exact h.elim
  rename_i f cap e
  rw [e] at hgv
  simp only [Rep] at hgv
  obtain ⟨us, vs, hgv, hus, hvs⟩ := hgv
  simp only [Reps] at hus
  subst hus
  cases hc : Nat.beq f R.f && Nat.beq b 1000 && nodupB (R.hpI.map (·.1)) && inL (R.hpI.map (·.1)) (idsL R.cap) && inL (R.hpI.map (·.1)) (R.hpI.flatMap fun x => idsB x.2) && (ps.toList.all fun p => Nat.blt p S.n) && hasAll (lookupL (R.hp 0)) (idsT R.tm) && (idsT R.tm).all fun l => Nat.blt l 2000
  · rw [hc] at h; exact h.elim
  rw [hc] at h
  simp only [cond_true] at h
  simp only [Bool.and_eq_true] at hc
  obtain ⟨⟨⟨⟨⟨⟨⟨c1, c2⟩, c3⟩, c4⟩, c5⟩, c6⟩, c7⟩, c8⟩ := hc
  have c1 := Nat.eq_of_beq_eq_true c1
  have c2 := Nat.eq_of_beq_eq_true c2
  subst c1 c2
  have c4 := inL_iff.1 c4
  have c5 := inL_iff.1 c5
  obtain ⟨hI, hle, hp0, hsle, hround, hdone⟩ := h
  have hle := andL_all hle
  simp only [List.mem_append] at hle
  obtain ⟨β1, hs1, himg, hdom1⟩ := Sle_ok hG hs hsle
  obtain ⟨E1, hE1⟩ : ∃ E1 : Env, E1 = ⟨w, Blks S.H β, D, β1, fun l => l < 2000, a.defers⟩ := ⟨_, rfl⟩
  have B01 : ∀ g, Blks (lookupL (R.hp 0)) β1 g → Blks S.H β g := by
    rintro g ⟨l, b, L, k1, k2, k3, rfl⟩
    obtain ⟨a', b', _, k5, k6⟩ := himg l L k2 k3
    exact ⟨a', b', L, k5, k6, k3, rfl⟩
  have st0 : St E D β1 (sstOf 2000 S.n R.tm (R.hp 0)) a w := { hs1 with
    dom := fun l hl => hs1.dom l (by
      simp only [sstOf, Bool.or_eq_false_iff] at hl ⊢
      refine ⟨?_, hl.2⟩
      cases hb : Nat.blt l 1000
      · rfl
      · have : Nat.blt l 2000 = true := Nat.ble_eq_true_of_le (by have := Nat.le_of_ble_eq_true hb; omega)
        rw [this] at hl; cases hl.1)
    low := fun l hl => by
      have : Nat.blt l 2000 = true := Nat.ble_eq_true_of_le (by have := hG l hl; omega)
      simp only [sstOf, this, Bool.true_or] }
  have lowU : ∀ {n tm hp} l, l < 2000 → (sstOf 2000 n tm hp).U l = true := fun {n tm hp} l hl => by
    have : Nat.blt l 2000 = true := Nat.ble_eq_true_of_le hl
    simp only [sstOf, this, Bool.true_or]
  have st1 : St E1 D β1 (sstOf 2000 S.n R.tm (R.hp 0)) a w := by
    refine st0.re (by rw [hE1]) (by rw [hE1]; exact B01) (by rw [hE1]; exact fun _ => Iff.rfl) (by rw [hE1]; exact fun _ _ _ h => h) (by rw [hE1]; exact fun l hl => lowU l hl) rfl (by rw [hE1])
  have tmAt : ∀ {D' β' S' a' W}, hasAll S'.H (idsT R.tm) = true → St E1 D' β' S' a' W → St { E1 with df := a.defers } D' β' { n := S.n, T := fun t => (lookupL R.tm t).getD .any, H := S'.H, U := S'.U } a W :=
    fun hall h => with_tm hs st0 rfl rfl (by rw [hE1]) (by rw [hE1]; exact fun _ h => h) (by rw [hE1]; exact fun _ => Iff.rfl) (by rw [hE1]; exact fun _ h => h) (by rw [hE1]) c8 hall h
  have hE1d : { E1 with df := a.defers } = E1 := by rw [hE1]
  rw [hE1d] at tmAt
  have toE : ∀ {D' β' S' a' W}, St E1 D' β' S' a' W → St { E with df := a'.defers } D' β' S' a' W := by
    intro D' β' S' a' W h
    refine hs.back h (by rw [hE1]) (by rw [hE1]; exact fun g hg => (hs.blkOld hg).2.2) (by rw [hE1]; exact fun _ => Iff.rfl) (by rw [hE1]; exact fun l hl => by have := hG l hl; show l < 2000; omega) ?_
    rw [hE1]
    exact fun l L hl hL => st0.giv l L hl hL
  have hFn : E1.w0 = w := by rw [hE1]
  have hWr1 : ∀ g, E1.Wr g ↔ Blks S.H β g := by rw [hE1]; exact fun _ => Iff.rfl
  refine wpIn_rangeFunc (fun fn hfn => ?_)
  obtain ⟨rec, hrec⟩ : ∃ rec : LoopState → Option Code → Loop, rec = fun st pe => { state := st, pending := pe, fn, tmps := a.tmps, params := ps, assign := az, body := bd, defers := w.heap.size } := ⟨_, rfl⟩
  obtain ⟨W1, hW1⟩ : ∃ W1, (w.alloc (.deferred (some []))).alloc (.loop (rec .ready none)) = W1 := ⟨_, rfl⟩
  obtain ⟨mk, hmk⟩ : ∃ mk, w.heap.size = mk := ⟨_, rfl⟩
  have hL1 : W1.heap[mk + 1]? = some (.loop (rec .ready none)) := by
    rw [← hW1, ← hmk]; have := World.alloc_heap_new (w.alloc (.deferred (some []))) (.loop (rec .ready none)); rwa [World.size_alloc] at this
  have hK1 : W1.heap[mk]? = some (.deferred (some [])) := by
    rw [← hW1, ← hmk]; exact (Below.heap_alloc _ _ _ (by simp)).trans (World.alloc_heap_new w _)
  have hsz1 : W1.heap.size = mk + 2 := by rw [← hW1, ← hmk]; simp
  have same1 : ∀ g, g < mk → W1.heap[g]? = w.heap[g]? := fun g hg => by
    rw [← hW1]
    exact (Below.heap_alloc _ _ _ (by rw [World.size_alloc]; omega)).trans (Below.heap_alloc w _ _ (by omega))
  have stW : ∀ {E' : Env} {D' β' S' a'}, St E' D' β' S' a' w → St E' D' β' S' a' W1 := fun h => by rw [← hW1]; exact (h.allocO _).allocO _
  have hio : W1.os = w.os ∧ W1.tape = w.tape ∧ W1.output = w.output := by rw [← hW1]; exact ⟨rfl, rfl, rfl⟩
  obtain ⟨J, hJ⟩ : ∃ J : Nat → (Nat → Prop) → World → Prop, J = fun i X W => R.p i ∧ W.heap[mk + 1]? = some (.loop (rec .ready none)) ∧ W.heap[mk]? = some (.deferred (some [])) ∧ hasAll (lookupL (R.hp i)) (idsT R.tm) = true ∧ Mid E1 mk X (sstOf 2000 S.n [] (R.hp i)) W := ⟨_, rfl⟩
  obtain ⟨Jx, hJx⟩ : ∃ Jx : Nat → (Nat → Prop) → World → Prop, Jx = fun i X W => ∃ e' S', e' ≠ XE.normal ∧ W.heap[mk + 1]? = some (.loop (rec .done (some e'.code))) ∧ W.heap[mk]? = some (.deferred (some [])) ∧ (hasAll S'.H (idsT R.tm) && okEnd R.hpI R.tmE S'.U (R.hpE i)) = true ∧
      K e' (behS S.n (R.tm ++ R.tmE) S'.H S'.U (R.hpE i)) ∧ Mid E1 mk X S' W := ⟨_, rfl⟩
  obtain ⟨βI, hβI⟩ : ∃ βI, βI = renβ (keepA R.hpI) R.hpI β := ⟨_, rfl⟩
  have nnil : ∀ l, lookupL (keepA R.hpI) l = some none → ∃ t d, lookupL R.hpI l = some (.row t d) := fun l hl => by obtain ⟨h, _⟩ := lookup_keepA hl; cases h
  have hcap : Reps D w βI R.cap vs := by rw [hβI]; exact leL_ok nnil (fun c hc => hle c (.inl (.inl hc))) hvs
  have hleHp : ∀ c ∈ leHp (keepA R.hpI) S R.hpI, c := fun c hc => hle c (.inl (.inr hc))
  have G1 : Grows D w βI D W1 βI := ⟨fun _ h => h, fun g hg => same1 g (by have := hs.dlt g hg; omega), fun _ _ h => h⟩
  have hIblk : ∀ l b, (l, b) ∈ R.hpI → ∃ b' L, S.H l = some b' ∧ β l = some L ∧ βI l = some L ∧ BlkRep D w βI L b := by
    intro l b hl
    rcases leHp_of hleHp hl with ⟨a', b', e1, e2, e3⟩ | ⟨e1, _⟩
    · obtain ⟨h, hin⟩ := lookup_keepA e1
      cases h
      obtain ⟨L, k1, k2⟩ := hs.hp l b' e2
      refine ⟨b', L, e2, k1, ?_, ?_⟩
      · rw [hβI]; unfold renβ; rw [e1]; exact k1
      · rw [hβI]; exact leB_ok nnil e3 k2
    · obtain ⟨h, _⟩ := lookup_keepA e1
      cases h
  have hIok : HpOk D W1 βI R.hpI := by
    refine ⟨fun l b hl => ?_, fun l l' b b' L L' hl hl' hL hL' n1 n2 hg => ?_⟩
    · obtain ⟨b', L, k1, k2, k3, k4⟩ := hIblk l b hl
      refine ⟨L, k3, k4.mono G1 b fun hn => same1 _ ?_, fun hn => ?_⟩
      · have := (hs.dis l b' L k1 k2 hn).1; omega
      · obtain ⟨j1, j2, _⟩ := hs.dis l b' L k1 k2 hn
        exact ⟨j2, by omega⟩
    · obtain ⟨b1, L1, k1, k2, k3, _⟩ := hIblk l b hl
      obtain ⟨b2, L2, j1, j2, j3, _⟩ := hIblk l' b' hl'
      rw [hL] at k3; cases k3
      rw [hL'] at j3; cases j3
      exact hs.inj l l' b1 b2 _ _ k1 j1 k2 j2 n1 n2 hg
  have hX0 : ∀ g, Given βI R.hpI g → Blks S.H β g ∧ ¬ Blks (lookupL (R.hp 0)) β1 g := by
    rintro g ⟨l, b, L, k1, k2, k3, rfl⟩
    obtain ⟨b', L', i1, i2, i3, _⟩ := hIblk l b k1
    rw [k2] at i3; cases i3
    refine ⟨⟨l, b', L, i1, i2, k3, rfl⟩, ?_⟩
    rintro ⟨l2, b2, L2, j1, j2, j3, j4⟩
    obtain ⟨a', c', m1, m2, m3⟩ := himg l2 L2 j2 j3
    have := hs.inj a' l c' b' L2 L m2 i1 m3 i2 j3 k3 j4
    subst this
    exact m1 (List.mem_map.2 ⟨(a', b), k1, rfl⟩)
  have hJ0 : J 0 (Given βI R.hpI) W1 := by
    rw [hJ]
    refine ⟨hp0, hL1, hK1, c7, D, β1, a, ?_, fun h => ?_, fun h => ?_, by omega, fun h => ?_, fun h => ?_, fun g hg => ?_⟩
    · have h1 := stW st1
      exact { h1 with tm := fun t => by simp only [sstOf, lookupL, Option.getD_none, Rep] }
    · have := hs.dlt _ h; omega
    · have := hs.dlt _ h; omega
    · have := (hs.blkOld (hX0 _ h).1).1; omega
    · have := (hs.blkOld (hX0 _ h).1).1; omega
    · obtain ⟨k1, k2⟩ := hX0 g hg
      have := hs.blkOld k1
      exact ⟨by omega, this.2.1, k2, .inr ((hWr1 g).2 k1)⟩
  have hcall := hI.2 (mk + 1) D βI W1 vs (Reps.mono G1 _ hcap) hIok (fun g hg => by have := hs.dlt g hg; omega) (fun l hl => by
      rw [hβI] at hl
      cases hx : renβ (keepA R.hpI) R.hpI β l with
      | none => exact absurd hx hl
      | some L => exact (ren_keepA hx).2) J Jx
    (fun i X V1 V2 h t => by
      rw [hJ] at h ⊢
      obtain ⟨k1, k2, k3, k4, k5⟩ := h
      obtain ⟨m1, m2, m3⟩ := mid_tame k5 t
      exact ⟨k1, m3.trans k2, m2.trans k3, k4, m1⟩)
    (fun i X V1 V2 h t => by
      rw [hJx] at h ⊢
      obtain ⟨e', S', k0, k1, k2, k3, k4, k5⟩ := h
      obtain ⟨m1, m2, m3⟩ := mid_tame k5 t
      exact ⟨e', S', k0, m3.trans k1, m2.trans k2, k3, k4, m1⟩)
    (fun i X V x hx hj => by
      rw [hJ] at hj
      obtain ⟨j1, j2, j3, j4, D', β', a', hst, d1, d2, hlt, x1, x2, hX⟩ := hj
      have hi : i < R.xs.length := (List.getElem?_eq_some_iff.1 hx).1
      obtain ⟨hxe, hlen, hv⟩ := hround i hi j1
      rw [hx] at hxe
      cases hxe
      have hy := run_yield (P := P) (args := (R.it i).toArray) j2 (by rw [hrec]; simpa using hlen)
      rw [hrec] at hy
      refine ⟨fn, _, az, bd, hy, roundIn_of_wpIn (by trivial) ?_⟩
      rw [FR_some]
      have stm := tmAt j4 hst
      have hnoB : ∀ g, (∃ o : Obj, V.heap[g]? = some o ∧ markObj o = true) → ¬ Blks (lookupL (R.hp i)) β' g := by
        rintro g ⟨o, ho, hne⟩ hb
        obtain ⟨o2, hc, hm2⟩ := hst.blkCells hb
        rw [ho] at hc; cases hc
        rw [hne] at hm2
        cases hm2
      have nb1 := hnoB (mk + 1) ⟨_, j2, rfl⟩
      have nb0 := hnoB mk ⟨_, j3, rfl⟩
      obtain ⟨Ea, hEa⟩ : ∃ Ea : Env, Ea = ⟨V, Blks (lookupL (R.hp i)) β', D', β', fun l => l < 2000, []⟩ := ⟨_, rfl⟩
      have sta : St Ea D' β' (sstOf 2000 S.n R.tm (R.hp i)) { a with defers := [] } V :=
        stm.re (by rw [hEa]) (by rw [hEa]; exact fun _ h => h) (by rw [hEa]; exact fun _ => Iff.rfl) (by rw [hEa]; exact fun _ _ _ h => h) (by rw [hEa]; exact fun l hl => lowU l hl) rfl (by rw [hEa])
      have stb := St.bind ps.toList (R.it i) (S := sstOf 2000 S.n R.tm (R.hp i)) (by simpa [sstOf] using c6) sta
      have hfold : (ps.zip (R.it i).toArray).foldl (fun tmps (t, u) => tmps.setIfInBounds t u) a.tmps = (ps.toList.zip (R.it i)).foldl (fun t (p, v) => t.setIfInBounds p v) a.tmps := by
        rw [← Array.foldl_toList, Array.toList_zip]
      simp only [hfold]
      refine ihas (mk + 1) Ea _ _ D' β' _ V _ (by rw [hEa]; exact fun l h => h) hv stb fun E2 e2 S1 D2 β2 a2 V2 hd2 hk2 hs2 => ?_
      cases e2 with
      | exit id => exact hk2.elim
      | ret => exact hk2.elim
      | normal =>
      simp only at hk2
      have hs2a := hd2.st hs2
      have lega := fun {g} => leg (E' := { Ea with df := a2.defers }) (g := g) stm (by rw [hEa]) (by rw [hEa]; exact fun g h => h) (by rw [hEa]; exact fun g h => h) hs2a
      have hs2b : St { E1 with df := a2.defers } D2 β2 S1 a2 V2 := stm.back hs2a (by rw [hEa]) (by
          rw [hEa]
          exact fun g hg => (stm.blkOld hg).2.2) (by rw [hEa]; exact fun _ => Iff.rfl) (by rw [hEa, hE1]; exact fun _ h => h) (by rw [hEa]; exact fun l L hl hL => hst.giv l L hl hL)
      obtain ⟨r1, r2, r3⟩ := lega (g := mk + 1) hlt nb1
      obtain ⟨q1, q2, q3⟩ := lega (g := mk) (by omega) nb0
      have hsz2 : V.heap.size ≤ V2.heap.size := by have := hs2a.grow; rw [hEa] at this; exact this
      have hio2 : V2.os = V.os ∧ V2.tape = V.tape ∧ V2.output = V.output := by
        have k1 := hs2a.os; have k2 := hs2a.tape; have k3 := hs2a.output
        rw [hEa] at k1 k2 k3
        exact ⟨k1, k2, k3⟩
      have hrec2 := r1.trans j2
      refine ⟨_, run_beginRound hrec2 (by rw [hrec]), ?_⟩
      obtain ⟨V3, hV3⟩ : ∃ V3, V2.putObj (mk + 1) (.loop { rec .ready none with state := .busy }) = V3 := ⟨_, rfl⟩
      rw [hV3]
      have hs3 : St { E1 with df := a2.defers } D2 β2 S1 a2 V3 := by
        rw [← hV3]
        exact hs2b.putObj _ hrec2 rfl (fun h => d2 (r2 h)) (by show E1.w0.heap.size ≤ mk + 1; rw [hFn]; omega)
      have h3r : V3.heap[mk + 1]? = some (.loop (rec .busy none)) := by
        rw [← hV3, World.putObj_heap_same (by omega), hrec]
      have h3o : ∀ {g}, g ≠ mk + 1 → V3.heap[g]? = V2.heap[g]? := fun hg => by rw [← hV3]; exact World.putObj_heap_other hg
      have hsz3 : V3.heap.size = V2.heap.size := by rw [← hV3]; simp
      have hio3 : V3.os = V2.os ∧ V3.tape = V2.tape ∧ V3.output = V2.output := by rw [← hV3]; exact ⟨rfl, rfl, rfl⟩
      obtain ⟨Eb, hEb⟩ : ∃ Eb : Env, Eb = ⟨V3, Blks S1.H β2, D2, β2, fun l => l < 2000, a2.defers⟩ := ⟨_, rfl⟩
      have stc : St Eb D2 β2 S1 a2 V3 := hs3.re (by rw [hEb]) (by rw [hEb]; exact fun _ h => h) (by rw [hEb]; exact fun _ => Iff.rfl) (by rw [hEb]; exact fun _ _ _ h => h) (by rw [hEb]; exact fun l hl => hs2a.low l (by rw [hEa]; exact hl)) rfl (by rw [hEb])
      refine ihbd (mk + 1) Eb S1 _ D2 β2 a2 V3 _ (by rw [hEb]; exact fun l h => h) hk2 stc fun E3 e3 S' D3 β3 a3 V4 hd3 hk3 hs4 => ?_
      have hs4a := hd3.st hs4
      have legb := fun {g} => leg (E' := { Eb with df := a3.defers }) (g := g) hs3 (by rw [hEb]) (by rw [hEb]; exact fun g h => h) (by rw [hEb]; exact fun g h => h) hs4a
      have hs4b : St { E1 with df := a3.defers } D3 β3 S' a3 V4 := hs3.back hs4a (by rw [hEb]) (by
          rw [hEb]
          exact fun g hg => (hs3.blkOld hg).2.2) (by rw [hEb]; exact fun _ => Iff.rfl) (by rw [hEb, hE1]; exact fun _ h => h) (by rw [hEb]; exact fun l L hl hL => hs3.giv l L hl hL)
      have hsz4 : V3.heap.size ≤ V4.heap.size := by have := hs4a.grow; rw [hEb] at this; exact this
      have hio4 : V4.os = V3.os ∧ V4.tape = V3.tape ∧ V4.output = V3.output := by
        have k1 := hs4a.os; have k2 := hs4a.tape; have k3 := hs4a.output
        rw [hEb] at k1 k2 k3
        exact ⟨k1, k2, k3⟩
      obtain ⟨u1, u2, u3⟩ := legb (g := mk + 1) (by omega) r3
      obtain ⟨t1, t2, t3⟩ := legb (g := mk) (by omega) q3
      have h4r : V4.heap[mk + 1]? = some (.loop (rec .busy none)) := u1.trans h3r
      have h4d : V4.heap[mk]? = some (.deferred (some [])) := by rw [t1, h3o (by omega), q1, j3]
      have aside : ∀ g, g < V.heap.size → g ≠ mk + 1 → ¬ Blks (lookupL (R.hp i)) β' g → V4.heap[g]? = V.heap[g]? ∧ (D3 g → D' g) ∧ ¬ Blks S'.H β3 g := by
        intro g hg hne hb
        obtain ⟨k1, k2, k3⟩ := lega (g := g) hg hb
        obtain ⟨m1, m2, m3⟩ := legb (g := g) (by omega) k3
        exact ⟨by rw [m1, h3o hne, k1], fun h => k2 (m2 h), m3⟩
      have ending : ∀ (o : Obj), Tame (fun g => ¬ (X g ∨ D g)) V (V4.putObj (mk + 1) o) := by
        intro o
        refine ⟨by simp; omega, ?_, ?_, ?_, fun g hg hn => ?_⟩
        · show V4.os = V.os; rw [hio4.1, hio3.1, hio2.1]
        · show V4.tape = V.tape; rw [hio4.2.1, hio3.2.1, hio2.2.1]
        · show V4.output = V.output; rw [hio4.2.2, hio3.2.2, hio2.2.2]
        · have hn : X g ∨ D g := Classical.byContradiction fun h => hn h
          have hD1 : D g → D' g := fun h => hst.d0 g (by rw [hE1]; exact h)
          have hne : g ≠ mk + 1 := by
            rintro rfl
            rcases hn with h | h
            · exact x2 h
            · exact d2 (hD1 h)
          have hb : ¬ Blks (lookupL (R.hp i)) β' g := by
            rcases hn with h | h
            · exact (hX g h).2.2.1
            · exact fun hb => (hst.blkOld hb).2.1 (hD1 h)
          rw [World.putObj_heap_other hne]
          exact (aside g hg hne hb).1
      have mid : ∀ (o : Obj) {S2 : Sst} {β4 : Nat → Option Loc} {a4 : Act}, St { E1 with df := a4.defers } D3 β4 S2 a4 V4 → (∀ g, Blks S2.H β4 g → Blks S'.H β3 g) → Mid E1 mk X S2 (V4.putObj (mk + 1) o) := by
        intro o S2 β4 a4 hS2 hB2
        have n2 : ¬ D3 (mk + 1) := fun h => d2 (r2 (u2 h))
        have h5 := (hS2.putObj o h4r rfl n2 (by show E1.w0.heap.size ≤ mk + 1; rw [hFn]; omega)).act (a' := { a4 with defers := a.defers }) rfl
        have e1 : ({ ({ E1 with df := a4.defers } : Env) with df := a.defers } : Env) = E1 := by rw [hE1]
        refine ⟨D3, β4, { a4 with defers := a.defers }, e1 ▸ h5, fun h => d1 (q2 (t2 h)), n2, by simp; omega, x1, x2, fun g hg => ?_⟩
        obtain ⟨k1, k2, k3, k4⟩ := hX g hg
        have hne : g ≠ mk + 1 := fun e => x2 (e ▸ hg)
        obtain ⟨m1, m2, m3⟩ := aside g k1 hne k3
        exact ⟨by simp; omega, fun h => k2 (m2 h), fun h => m3 (hB2 g h), k4⟩
      cases e3 with
      | normal =>
        simp only at hk3
        obtain ⟨hpn, hk3⟩ := hk3
        cases hh : hasAll (lookupL (R.hp (i + 1))) (idsT R.tm)
        · rw [hh] at hk3; exact hk3.elim
        rw [hh] at hk3
        simp only [cond_true] at hk3
        obtain ⟨β4, hs5, himg5, _⟩ := Sle_ok (E := { E1 with df := a3.defers }) (by rw [hE1]; exact fun l h => h) hs4b hk3
        refine ⟨_, _, run_endRound none h4r, ending _, .inl ⟨rfl, ?_⟩⟩
        rw [hJ]
        refine ⟨hpn, ?_, ?_, hh, mid _ (S2 := sstOf 2000 S.n [] (R.hp (i + 1))) (β4 := β4) (a4 := { a with defers := a3.defers }) ?_ ?_⟩
        · rw [World.putObj_heap_same (by omega), hrec]; rfl
        · rw [World.putObj_heap_other (by omega)]; exact h4d
        · exact { hs5 with size := hs.size, df := rfl, tm := fun t => by simp only [sstOf, lookupL, Option.getD_none, Rep] }
        · rintro g ⟨l, b, L, k1, k2, k3, rfl⟩
          obtain ⟨a', b', _, k5, k6⟩ := himg5 l L k2 k3
          exact ⟨a', b', L, k5, k6, k3, rfl⟩
      | exit id =>
        simp only at hk3
        cases hh : hasAll S'.H (idsT R.tm) && okEnd R.hpI R.tmE S'.U (R.hpE i)
        · rw [hh] at hk3; exact hk3.elim
        rw [hh] at hk3
        simp only [cond_true] at hk3
        refine ⟨_, _, run_endRound (some (.exit id)) h4r, ending _, .inr ⟨rfl, ?_⟩⟩
        rw [hJx]
        refine ⟨.exit id, S', by simp, ?_, ?_, hh, hk3, mid _ hs4b fun g h => h⟩
        · rw [World.putObj_heap_same (by omega), hrec]; rfl
        · rw [World.putObj_heap_other (by omega)]; exact h4d
      | ret =>
        simp only at hk3
        cases hh : hasAll S'.H (idsT R.tm) && okEnd R.hpI R.tmE S'.U (R.hpE i)
        · rw [hh] at hk3; exact hk3.elim
        rw [hh] at hk3
        simp only [cond_true] at hk3
        refine ⟨_, _, run_endRound (some .ret) h4r, ending _, .inr ⟨rfl, ?_⟩⟩
        rw [hJx]
        refine ⟨.ret, S', by simp, ?_, ?_, hh, hk3, mid _ hs4b fun g h => h⟩
        · rw [World.putObj_heap_same (by omega), hrec]; rfl
        · rw [World.putObj_heap_other (by omega)]; exact h4d)
    hJ0
  have fin : ∀ {D' β' S' a' W} (st : LoopState) (pe : Option Code), hasAll S'.H (idsT R.tm) = true → ¬ D' mk → ¬ D' (mk + 1) → mk + 1 < W.heap.size → W.heap[mk + 1]? = some (.loop (rec st pe)) → W.heap[mk]? = some (.deferred (some [])) → St E1 D' β' S' a' W →
      ∃ E2, Desc E E2 ∧ St E2 D' β' { n := S.n, T := fun t => (lookupL R.tm t).getD .any, H := S'.H, U := S'.U } { a with defers := [{ target := .collected mk, args := #[] }] ++ a.defers } (W.putObj (mk + 1) (.loop (rec .exhausted pe))) := by
    intro D' β' S' a' W st pe hall n0 n1 hlt hr hd hst
    have h1 := tmAt hall hst
    have h2 := h1.putObj (.loop (rec .exhausted pe)) hr rfl n1 (by rw [hFn]; omega)
    have h3 := toE h2
    have eE : ({ E with df := a.defers } : Env) = E := by rw [hs.df]
    have h3 : St E D' β' _ a _ := eE ▸ h3
    obtain ⟨W4, hW4⟩ : ∃ W4, W.putObj (mk + 1) (.loop (rec .exhausted pe)) = W4 := ⟨_, rfl⟩
    rw [hW4] at h3 ⊢
    have hd4 : W4.heap[mk]? = some (.deferred (some [])) := by rw [← hW4, World.putObj_heap_other (by omega)]; exact hd
    have hsz4 : W4.heap.size = W.heap.size := by rw [← hW4]; simp
    obtain ⟨E2, hE2⟩ : ∃ E2 : Env, E2 = ⟨W4, Blks S'.H β', D', β', E.G, [{ target := .collected mk, args := #[] }] ++ a.defers⟩ := ⟨_, rfl⟩
    refine ⟨E2, ⟨?_, ?_, by rw [hE2]; exact fun _ h => h⟩, ?_⟩
    · intro df D5 β5 S5 a5 w5 h5
      have h0 : St { E with df := a.defers } D' β' { n := S.n, T := fun t => (lookupL R.tm t).getD .any, H := S'.H, U := S'.U } a W4 := eE.symm ▸ h3
      have := h0.back h5 (by rw [hE2]) (by rw [hE2]; exact fun g hg => (h3.blkOld hg).2.2) (by rw [hE2]; exact fun _ => Iff.rfl) (by rw [hE2]; exact fun _ h => h) (by rw [hE2]; exact fun l L hl hL => h3.giv l L hl hL)
      rw [h5.df] at this
      exact this
    · rintro z bs ⟨hz, ms, hdf, hnd, hms⟩
      have hgr := hs.grow
      refine ⟨by rw [hE2]; show z ≤ W4.heap.size; omega, mk :: ms, ?_, List.nodup_cons.2 ⟨fun hm => ?_, hnd⟩, ?_⟩
      · rw [hE2]
        simp only [List.map_cons, List.singleton_append, List.cons_append, List.nil_append, List.cons.injEq, true_and]
        rw [hs.df, hdf]
      · have := (hms mk hm).2.1; omega
      · intro m hm
        rw [hE2]
        simp only [List.mem_cons] at hm
        have nob : ∀ {m}, W4.heap[m]? = some (.deferred (some [])) → ¬ Blks S'.H β' m := fun hm hb => by
          obtain ⟨o2, k, hm2⟩ := h3.blkCells hb
          rw [hm] at k; cases k
          cases hm2
        rcases hm with rfl | hm
        · refine ⟨by omega, by show m < W4.heap.size; omega, hd4, n0, nob hd4⟩
        · obtain ⟨k1, k2, k3, k4, k5⟩ := hms m hm
          have hm4 : W4.heap[m]? = some (.deferred (some [])) := by rw [h3.block m k2 k5, k3]
          refine ⟨k1, by show m < W4.heap.size; omega, hm4, fun h => ?_, nob hm4⟩
          rcases h3.d1 m h with j | j | j
          · exact k4 j
          · omega
          · exact k5 j
    · exact h3.re (by rw [hE2]) (by rw [hE2]; exact fun _ h => h) (by rw [hE2]; exact fun _ => Iff.rfl) (by rw [hE2]; exact fun _ _ _ h => h) (by rw [hE2]; exact fun l hl => h3.low l hl) rfl (by rw [hE2])
  have finE : ∀ {D' β' S' a' W X hE} (st : LoopState) (pe : Option Code), (hasAll S'.H (idsT R.tm) && okEnd R.hpI R.tmE S'.U hE) = true → ¬ D' mk → ¬ D' (mk + 1) → mk + 1 < W.heap.size → ¬ X mk → ¬ X (mk + 1) →
      (∀ g, X g → g < W.heap.size ∧ ¬ D' g ∧ ¬ Blks S'.H β' g ∧ (E1.w0.heap.size ≤ g ∨ E1.Wr g)) → EndAt βI D X W hE → W.heap[mk + 1]? = some (.loop (rec st pe)) → W.heap[mk]? = some (.deferred (some [])) → St E1 D' β' S' a' W →
      ∃ E2 D2 β2, Desc E E2 ∧ St E2 D2 β2 (behS S.n (R.tm ++ R.tmE) S'.H S'.U hE) { a with defers := [{ target := .collected mk, args := #[] }] ++ a.defers } (W.putObj (mk + 1) (.loop (rec .exhausted pe))) := by
    intro D' β' S' a' W X hE st pe hall n0 n1 hlt x0 x1 hX hEnd hr hd hst
    rw [Bool.and_eq_true] at hall
    obtain ⟨hall, hk⟩ := hall
    have hst0 : St E1 D' β' { S' with T := fun _ => .any } a' W := { hst with tm := fun t => by simp only [Rep] }
    have hDD : ∀ g, D g → D' g := fun g hg => hst.d0 g (by rw [hE1]; exact hg)
    obtain ⟨D2, β2, hs2, k1, k2, k3⟩ := hst0.addE (fun _ => rfl) hX hDD hEnd hk (by rw [hE1]; exact fun l h => h) (fun l l' L L' hl hl' hL hL' m1 m2 hg => by
      obtain ⟨b, hb⟩ := List.mem_map.1 hl
      obtain ⟨b', hb'⟩ := List.mem_map.1 hl'
      obtain ⟨hb, rfl⟩ := hb
      obtain ⟨hb', rfl⟩ := hb'
      exact hIok.2 _ _ _ _ L L' hb hb' hL hL' m1 m2 hg)
    obtain ⟨E2, hd2, hs3⟩ := fin st pe (hasAll_over hall) (fun h => (k1 _ h).elim n0 x0) (fun h => (k1 _ h).elim n1 x1) hlt hr hd hs2
    refine ⟨E2, D2, β2, hd2, { hs3 with tm := fun t => ?_ }⟩
    simp only [behS]
    rw [lookupL_app]
    have ht := hs3.tm t
    simp only at ht
    cases hx : lookupL R.tm t with
    | some x => rw [hx] at ht; exact ht
    | none =>
      simp only
      cases hy : lookupL R.tmE t with
      | none => simp only [Option.getD_none, Rep]
      | some x =>
        simp only [Option.getD_some]
        have hm := lookupL_mem hy
        have hr0 : Rep D w βI x (a.tmps.getD t undef) := by
          rw [hβI]
          exact le1_ok nnil (leTm_of (fun c hc => hle c (.inr hc)) hm) (hs.tm t)
        have hin : ∀ k ∈ ids x, k ∈ hE.map (·.1) := fun k hk' => by
          unfold okEnd at hk
          simp only [Bool.and_eq_true] at hk
          exact inL_iff.1 hk.1.2 k (idsT_mem hy k hk')
        refine Rep.mono (?_ : Grows D w (cutβ βI (hE.map (·.1))) D2 _ β2) x (Rep.cut x hin hr0)
        refine ⟨fun g hg => k2 g (hDD g hg), fun g hg => ?_, fun l L hL => ?_⟩
        · have hlt2 := hs.dlt g hg
          rw [World.putObj_heap_other (by omega)]
          have := hst.block g (by rw [hFn]; exact hlt2) (fun hw => (hs.blkOld ((hWr1 g).1 hw)).2.1 hg)
          rw [this, hFn]
        · unfold cutβ at hL
          split at hL
          · rename_i hm2
            rw [k3 l hm2]; exact hL
          · cases hL
  refine ⟨mk + 1, [{ target := .collected mk, args := #[] }], W1, { target := .fn (.func R.f) vs.toArray, args := #[.func (.yield (mk + 1)) #[] #[]] }, W1, R.f,
    (Value.func (.yield (mk + 1)) #[] #[] :: vs).toArray, W1, ?_, ?_, fun _ _ => trivial, ?_, fun h => by simp [FR, Fence.wide] at h, ?_⟩
  · rw [← hW1, hrec, ← hmk]; exact run_enterLoop_outer _ _ _ _ _
  · simp only [resolve, hgv]
    simp [go_sem]
  · have := callFunc_of (P := P) hI.1 (Value.func (.yield (mk + 1)) #[] #[] :: vs).toArray W1
    simp [invoke, go_sem, this]
  · refine callsIn_FR (hcall.mono ?_)
    rintro e W2 ⟨⟨v, rfl⟩, ⟨X, hj, hE⟩ | ⟨X, i, hj, hE⟩⟩
    · rw [hJ] at hj
      obtain ⟨k1, k2, k3, k4, D', β', a', hst, d1, d2, hlt, x1, x2, hX⟩ := hj
      have hdone := hdone k1
      cases hk : okEnd R.hpI R.tmE (sstOf 2000 S.n [] (R.hp R.xs.length)).U (R.hpE R.xs.length)
      · rw [hk] at hdone; exact hdone.elim
      rw [hk, cond_true] at hdone
      obtain ⟨E2, D2, β2, hd2, hs2⟩ := finE .ready none (by rw [Bool.and_eq_true]; exact ⟨k4, hk⟩) d1 d2 hlt x1 x2 hX hE k2 k3 hst
      refine ⟨none, _, by have := run_endLoop (P := P) k2 (by rw [hrec]; simp); rw [hrec] at this; exact this, ?_⟩
      rw [hrec] at hs2
      exact hq E2 .normal _ D2 β2 _ _ hd2 hdone hs2
    · rw [hJx] at hj
      obtain ⟨e', S', k0, k1, k2, k3, k4, D', β', a', hst, d1, d2, hlt, x1, x2, hX⟩ := hj
      obtain ⟨E2, D2, β2, hd2, hs2⟩ := finE .done (some e'.code) k3 d1 d2 hlt x1 x2 hX hE k1 k2 hst
      refine ⟨some e'.code, _, by have := run_endLoop (P := P) k1 (by rw [hrec]; simp); rw [hrec] at this; exact this, ?_⟩
      rw [hrec] at hs2
      cases e' with
      | normal => exact absurd rfl k0
      | exit id => exact wpIn_exit (hq E2 (.exit id) _ D2 β2 _ _ hd2 k4 hs2)
      | ret => exact wpIn_ret (hq E2 .ret _ D2 β2 _ _ hd2 k4 hs2)
end
end Go.Proofs.YtbfdchahapajaaaGreatDoor
namespace Go.Proofs.YtbfdchahapajaaaGreatDoor
open Go.RowKit
set_option linter.unusedVariables false
set_option linter.unusedSimpArgs false
section
variable {P : Program} {Γ : FuncId → Option Ctr}
def At (r : Option Nat) (b : Nat) : Prop := (r = none ∧ b = 1000) ∨ (∃ l, r = some l ∧ b = 2000)
theorem At.bd {r : Option Nat} {b : Nat} (h : At r b) : r = none ∨ Nat.beq b 1000 = false := by
  rcases h with ⟨h, _⟩ | ⟨l, _, rfl⟩
  · exact .inl h
  · exact .inr rfl
theorem vc_ok (hΓ : ∀ f c, Γ f = some c → Sound P f c) (hm : P.follows .mixedOrders = true) {Ω : Nat → Option LoopFam} (c : Code) : ∀ (r : Option Nat) (b : Nat) (k : Nat) (E : Env) (S : Sst) (K : XE → Sst → Prop) (D : Nat → Prop) (β : Nat → Option Loc) (a : Act) (w : World) (Q : Exit → Act → World → Prop),
    At r b → (∀ l, E.G l → l < b) → vc P Γ Ω b k c S K → St E D β S a w → (∀ E' e S D β a w, Desc E E' → K e S → St E' D β S a w → Q e.ex a w) → c.wpIn (FR r) 0 P Q a w := by
  have gd : ∀ {E E' : Env} {b : Nat}, (∀ l, E.G l → l < b) → Desc E E' → ∀ l, E'.G l → l < b := fun h d l hl => h l (d.g l hl)
  induction c with
  | skip => intro r b k E S K D β a w Q hr hG h hs hq; simp only [vc] at h; exact wpIn_skip (hq E .normal S D β a w (Desc.refl E) h hs)
  | label l => intro r b k E S K D β a w Q hr hG h hs hq; simp only [vc] at h; exact wpIn_label (hq E .normal S D β a w (Desc.refl E) h hs)
  | exit id => intro r b k E S K D β a w Q hr hG h hs hq; simp only [vc] at h; exact wpIn_exit (hq E (.exit id) S D β a w (Desc.refl E) h hs)
  | ret => intro r b k E S K D β a w Q hr hG h hs hq; simp only [vc] at h; exact wpIn_ret (hq E .ret S D β a w (Desc.refl E) h hs)
  | region id ops draw =>
    intro r b k E S K D β a w Q hr hG h hs hq
    simp only [vc] at h
    cases hnd : noDefer ops
    · rw [hnd] at h; exact h.elim
    rw [hnd] at h
    simp only [cond_true] at h
    obtain ⟨Q', hQ'⟩ : ∃ Q' : Exit → Act → World → Prop, Q' = fun e a w => e ≠ .outgrown ∧ Q e a w := ⟨_, rfl⟩
    have hL : ¬ LetsOut Q' := by
      rintro ⟨a, w, h⟩
      rw [hQ'] at h
      exact h.1 rfl
    have hq' : ∀ D β S a w, K .normal S → St E D β S a w → Q' .normal a w := fun D β S a w hk h => by
      rw [hQ']
      exact ⟨by simp, hq E .normal S D β a w (Desc.refl E) hk h⟩
    refine wpIn_mono (Q := Q') ?_ (fun e a w h => by rw [hQ'] at h; exact h.2)
    cases draw
    · obtain ⟨fs, Sn, h1, h2, h3⟩ := chain_of_runOps _ _ _ _ h
      exact wpIn_region_list (list_in hL _ hnd _ _ (chain_list hΓ (fun D β a w h => hq' D β Sn a w h3 h) _ _ _ _ _ _ _ _ h1 h2 hs))
    · obtain ⟨fs, Sn, h1, h2, h3⟩ := chain_of_runOps _ _ _ _ h
      rw [List.nil_append] at h3
      cases hi : indep ops fs
      · rw [hi] at h3; exact h3.elim
      rw [hi] at h3
      exact wpIn_region_any hm (any_in hL hnd _ _ _ _ (region_any hΓ h1 h2 hi hs fun D β a w h => hq' D β Sn a w h3 h))
  | seq x y ihx ihy =>
    intro r b k E S K D β a w Q hr hG h hs hq
    simp only [vc] at h
    have cut : ∀ I : LoopInv, cutV b I S (vc P Γ Ω b k x) (vc P Γ Ω b (k + nloops x) y) K → Code.wpIn (FR r) 0 P (.seq x y) Q a w := by
      rintro I ⟨h1, h2⟩
      refine wpIn_seq (ihx r b k E S _ D β a w _ hr hG h1 hs fun E' e S' D' β' a' w' hd he hs' => ?_)
      cases e with
      | normal =>
        simp only at he
        cases hb : Nat.beq S'.n S.n
        · rw [hb] at he; exact he.elim
        · rw [hb] at he
          obtain ⟨z, hz, hsle⟩ := he
          obtain ⟨β2, hs2, _⟩ := Sle_ok (gd hG hd) hs' hsle
          rw [Nat.eq_of_beq_eq_true hb] at hs2
          exact ihy r b _ E' _ K D' β2 a' w' Q hr (gd hG hd) (h2 z hz) hs2 fun E2 e S D β a w h2 => hq E2 e S D β a w (hd.trans h2)
      | exit id => exact hq E' (.exit id) S' D' β' a' w' hd he hs'
      | ret => exact hq E' .ret S' D' β' a' w' hd he hs'
    cases hI : cutOf Ω y with
    | none =>
      rw [hI] at h
      refine wpIn_seq (ihx r b k E S _ D β a w _ hr hG h hs fun E' e S' D' β' a' w' hd he hs' => ?_)
      cases e with
      | normal => exact ihy r b _ E' S' K D' β' a' w' Q hr (gd hG hd) he hs' fun E2 e S D β a w h2 => hq E2 e S D β a w (hd.trans h2)
      | exit id => exact hq E' (.exit id) S' D' β' a' w' hd he hs'
      | ret => exact hq E' .ret S' D' β' a' w' hd he hs'
    | some F =>
      rw [hI] at h
      cases F with
      | one I => exact cut I h
      | fam G I => exact h.elim fun g hg => cut (I g) hg
      | rng G R => exact h.elim
      | unr n => exact h.elim
      | unf n ds => exact h.elim
  | cond c x y ihx ihy =>
    intro r b k E S K D β a w Q hr hG h hs hq
    simp only [vc] at h
    have hc := hs.ev c
    split at h
    · rename_i e
      rw [e] at hc
      exact wpIn_cond_true hc (ihx _ _ _ _ _ _ _ _ _ _ _ hr hG h hs hq)
    · rename_i e
      rw [e] at hc
      exact wpIn_cond_false hc (ihy _ _ _ _ _ _ _ _ _ _ _ hr hG h hs hq)
    · rename_i v e
      rw [e] at hc
      exact wpIn_cond_split hc (fun hb => ihx _ _ _ _ _ _ _ _ _ _ _ hr hG (h.1 hb) hs hq) (fun hb => ihy _ _ _ _ _ _ _ _ _ _ _ hr hG (h.2 hb) hs hq)
    · exact h.elim
  | block id c ih =>
    intro r b k E S K D β a w Q hr hG h hs hq
    simp only [vc] at h
    refine wpIn_block (ih r b k E S _ D β a w _ hr hG h hs fun E' e S' D' β' a' w' hd he hs' => ?_)
    cases e with
    | normal => exact hq E' .normal S' D' β' a' w' hd he hs'
    | exit id' =>
      simp only [XE.ex, Exit.inBlock]
      by_cases hid : id' = id
      · subst hid
        simp only [Nat.beq_refl, cond_true] at he
        rw [if_pos rfl]
        exact hq E' .normal S' D' β' a' w' hd he hs'
      · have : Nat.beq id' id = false := by
          cases hb : Nat.beq id' id
          · rfl
          · exact absurd (Nat.eq_of_beq_eq_true hb) hid
        simp only [this, cond_false] at he
        rw [if_neg hid]
        exact hq E' (.exit id') S' D' β' a' w' hd he hs'
    | ret => exact hq E' .ret S' D' β' a' w' hd he hs'
  | loop c ih =>
    intro r b k E S K D β a w Q hr hG h hs hq
    simp only [vc] at h
    have main : ∀ I : LoopInv, loopV b I S (vc P Γ Ω b (k + 1) c) K → Code.wpIn (FR r) 0 P (.loop c) Q a w := by
      intro I h
      unfold loopV at h
      obtain ⟨⟨x, hx, hsle⟩, hround⟩ := h
      obtain ⟨β', hs', _⟩ := Sle_ok hG hs hsle
      refine wpIn_loop_ghost (fun n a w => ∃ E' x D β, Desc E E' ∧ I.p x ∧ I.μ x = n ∧ St E' D β (sstOf b S.n (I.tm x) (I.hp x)) a w) (I.μ x) ⟨E, x, D, β', Desc.refl E, hx, rfl, hs'⟩ ?_
      rintro n a w ⟨E0, x, D, β, hd0, hx, rfl, hs⟩
      refine ih r b (k + 1) E0 _ _ D β a w _ hr (gd hG hd0) (hround x hx) hs fun E' e S' D' β' a' w' hd he hs' => ?_
      cases e with
      | normal =>
        simp only [XE.ex, Exit.then]
        simp only at he
        cases hb : Nat.beq S'.n S.n
        · rw [hb] at he; exact he.elim
        · rw [hb] at he
          obtain ⟨y, hy, hlt, hsle⟩ := he
          obtain ⟨β2, hs2, _⟩ := Sle_ok (gd hG (hd0.trans hd)) hs' hsle
          rw [Nat.eq_of_beq_eq_true hb] at hs2
          exact ⟨I.μ y, hlt, E', y, D', β2, hd0.trans hd, hy, rfl, hs2⟩
      | exit id => exact hq E' (.exit id) S' D' β' a' w' (hd0.trans hd) he hs'
      | ret => exact hq E' .ret S' D' β' a' w' (hd0.trans hd) he hs'
    cases hI : Ω k with
    | none => rw [hI] at h; exact h.elim
    | some F =>
      rw [hI] at h
      cases F with
      | one I => exact main I h
      | fam G I => exact h.elim fun g hg => main (I g) hg
      | rng G R => exact h.elim
      | unr n =>
        refine wpIn_loop_ghost (fun n a w => ∃ E' S' D β, Desc E E' ∧ St E' D β S' a w ∧ unrV (vc P Γ Ω b (k + 1) c) K n S') n ⟨E, S, D, β, Desc.refl E, hs, h⟩ ?_
        rintro n a w ⟨E0, S0, D, β, hd0, hs, h⟩
        cases n with
        | zero => exact h.elim
        | succ m =>
          refine ih r b (k + 1) E0 _ _ D β a w _ hr (gd hG hd0) h hs fun E' e S' D' β' a' w' hd he hs' => ?_
          cases e with
          | normal => exact ⟨m, Nat.lt_succ_self m, E', S', D', β', hd0.trans hd, hs', he⟩
          | exit id => exact hq E' (.exit id) S' D' β' a' w' (hd0.trans hd) he hs'
          | ret => exact hq E' .ret S' D' β' a' w' (hd0.trans hd) he hs'
      | unf n ds =>
        simp only at h
        cases hds : ds.all fun l => !Nat.blt l b
        · rw [hds] at h; exact h.elim
        rw [hds] at h
        have hlow : ∀ l ∈ ds, ¬ l < b := fun l hl hlt => by
          have := List.all_eq_true.1 hds l hl
          rw [show Nat.blt l b = true from Nat.ble_eq_true_of_le hlt] at this
          cases this
        refine wpIn_loop_ghost (fun n a w => ∃ E' S' D β, Desc E E' ∧ St E' D β S' a w ∧ unfV ds (vc P Γ Ω b (k + 1) c) K n S') n ⟨E, S, D, β, Desc.refl E, hs, h⟩ ?_
        rintro n a w ⟨E0, S0, D, β, hd0, hs, h⟩
        cases n with
        | zero => exact h.elim
        | succ m =>
          refine ih r b (k + 1) E0 _ _ D β a w _ hr (gd hG hd0) h hs fun E' e S' D' β' a' w' hd he hs' => ?_
          cases e with
          | normal => exact ⟨m, Nat.lt_succ_self m, E', _, D', _, hd0.trans hd, hs'.forget ds (fun l hl hd' => hlow l hd' (gd hG (hd0.trans hd) l hl)), he⟩
          | exit id => exact hq E' (.exit id) S' D' β' a' w' (hd0.trans hd) he hs'
          | ret => exact hq E' .ret S' D' β' a' w' (hd0.trans hd) he hs'
  | rangeFunc g ps az c ihas ihc =>
    intro r b k E S K D β a w Q hr hG h hs hq
    simp only [vc] at h
    cases hI : Ω k with
    | none => rw [hI] at h; exact h.elim
    | some F =>
      rw [hI] at h
      cases F with
      | one I => exact h.elim
      | fam G I => exact h.elim
      | unr n => exact h.elim
      | unf n ds => exact h.elim
      | rng G R =>
        obtain ⟨y, h⟩ := h
        have hb : b = 1000 := by
          unfold rngV at h
          split at h
          · cases hb : Nat.beq b 1000
            · rw [hb] at h; simp at h
            · exact Nat.eq_of_beq_eq_true hb
          · exact h.elim
        subst hb
        have hr0 : r = none := by
          rcases hr with ⟨h, _⟩ | ⟨_, _, h⟩
          · exact h
          · cases h
        subst hr0
        exact rng_ok hG h hs (fun l E S K D β a w Q hG' hv hs hq => ihas (some l) 2000 0 E S K D β a w Q (.inr ⟨l, rfl, rfl⟩) hG' hv hs hq)
          (fun l E S K D β a w Q hG' hv hs hq => ihc (some l) 2000 (k + 1) E S K D β a w Q (.inr ⟨l, rfl, rfl⟩) hG' hv hs hq) hq
  | scope c ih =>
    intro r b k E S K D β a w Q hr hG h hs hq
    simp only [vc] at h
    cases hb : Nat.beq b 1000
    · rw [hb] at h; exact h.elim
    rw [hb] at h
    simp only [cond_true] at h
    have hr0 : r = none := by
      rcases hr.bd with h | h
      · exact h
      · rw [h] at hb; cases hb
    subst hr0
    rw [FR_none]
    refine wpIn_wide.2 (wp_scope_straight ((wpIn_wide (n := 0)).1 ?_))
    refine ih none b k E S K D β a w _ hr hG h hs fun E' e S' D' β' a' w' hd he hs' => ?_
    have := hq E' e S' D' β' a' w' hd he hs'
    cases e <;> exact this
  | _ => intro r b k E S K D β a w Q hr hG h; simp only [vc] at h
theorem calls_of_vc (hΓ : ∀ f c, Γ f = some c → Sound P f c) (hm : P.follows .mixedOrders = true) {Ω : Nat → Option LoopFam} {f : FuncId} {fn : Func} {c : Code} (hf : P.funcs[f]? = some fn) (hb : fn.body = some c)
    {E : Env} (hG : ∀ l, E.G l → l < 1000) (hE : E.df = []) {S : Sst} {K : XE → Sst → Prop} {D : Nat → Prop} {β : Nat → Option Loc} {us : Array Value} {w : World} {R : Ending → World → Prop}
    (h : vc P Γ Ω 1000 0 c S K) (hs : St E D β S { tmps := us ++ Array.replicate (fn.ntmps - us.size) undef, defers := [] } w)
    (hK : ∀ e S D β a w', K e S → St E D β S a w' → (∀ id, e ≠ .exit id) ∧ ((∀ id, e ≠ .exit id) → ∃ v, (results fn a.tmps).run P w' = .ok v w' ∧ R (.returned v) w')) : Calls P f us w R := by
  refine callsIn_wide.1 (callsIn_of_wp_marks (n := 0) hf hb trivial ?_)
  refine vc_ok hΓ hm c none 1000 0 E S K D β _ w _ (.inl ⟨rfl, rfl⟩) hG h hs fun E' e S' D' β' a' w' hd he hs' => ?_
  have eE : ({ E with df := [] } : Env) = E := by rw [← hE]
  have ok : EnvOk E.w0.heap.size [] E := ⟨Nat.le_refl _, [], by rw [hE]; rfl, by simp, by simp⟩
  have post : (∀ id, e ≠ .exit id) → LeavesInM Fence.wide 0 P fn a'.tmps R a'.defers .returning w' := fun hne =>
    post_marks ok hd hs' fun w2 hs2 => (hK e S' D' β' { a' with defers := [] } w2 he (eE ▸ hs2)).2 hne
  cases e with
  | normal => exact post (by simp)
  | ret => exact post (by simp)
  | exit id =>
    obtain ⟨_, ms, hdf, hnd, hms⟩ := hd.marks _ _ ok
    exact absurd rfl ((hK (.exit id) S' D' β' { a' with defers := [] } w' he (by
      have := (hd.st hs').act (a' := { a' with defers := [] }) rfl
      exact eE ▸ this)).1 id)
def tupV : List Value → Value
  | [u] => u
  | l => .tuple l.toArray
def resM (tmps : Array Value) : ResultVar → Sem Value
  | .tmp t => pure (tmps.getD t undef)
  | .cell x t => do loadVar t (← asAddr (tmps.getD x undef))
theorem results_eq (fn : Func) (tmps : Array Value) : results fn tmps = (do
    let vs ← fn.results.mapM (resM tmps)
    pure (if h : vs.size = 1 then vs[0] else .tuple vs)) := by
  unfold results
  congr
theorem resS_ok {E : Env} {D : Nat → Prop} {β : Nat → Option Loc} {S : Sst} {a : Act} {w : World} (h : St E D β S a w) (r : ResultVar) (hc : ∀ c ∈ (resS P S r).vc, c.p) :
    ∃ u, (resM a.tmps r).run P w = .ok u w ∧ Rep D w β (resS P S r).val u := by
  cases r with
  | tmp t => exact ⟨a.tmps.getD t undef, rfl, h.tm t⟩
  | cell x t =>
    simp only [resS, resM] at hc ⊢
    cases hok : tyOk P t
    · rw [hok] at hc; exact (hc (⟨False, inferInstance⟩) (by simp [Res.fail])).elim
    · rw [hok] at hc
      simp only [cond_true] at hc ⊢
      have hx := h.tm x
      split at hc
      · rename_i l i j e
        rw [e] at hx
        simp only [Rep] at hx
        obtain ⟨L, hL, hnil, hu⟩ := hx
        split at hc
        · rename_i b hb
          obtain ⟨L', hL', hB⟩ := h.hp l b hb
          rw [hL] at hL'
          cases hL'
          obtain ⟨u, hrun, hR⟩ := loadS_ok (P := P) hok hB (t := t) (i := i) (j := j) hc
          refine ⟨u, ?_, hR⟩
          rw [hu]
          simpa [asAddr, Instr.loadAt, Instr.sureAddr] using hrun
        · exact (hc (⟨False, inferInstance⟩) (by simp [Res.fail])).elim
      · exact (hc (⟨False, inferInstance⟩) (by simp [Res.fail])).elim
theorem results_run {fn : Func} {tmps : Array Value} {us : List Value} {w : World} (h : (fn.results.toList.mapM (resM tmps)).run P w = .ok us w) : (results fn tmps).run P w = .ok (tupV us) w := by
  rw [results_eq]
  have e : fn.results.mapM (resM tmps) = List.toArray <$> fn.results.toList.mapM (resM tmps) := Array.mapM_eq_mapM_toList ..
  rw [e]
  simp only [Sem.run_bind, Sem.run_map, h, Result.andThen_ok, Sem.run_pure]
  rcases us with _ | ⟨u, _ | ⟨v, l⟩⟩
  · rfl
  · rfl
  · simp [tupV]
theorem tupS_rep {D : Nat → Prop} {w : World} {β : Nat → Option Loc} : ∀ {vs : List SV} {us : List Value}, Reps D w β vs us → Rep D w β (tupS vs) (tupV us)
  | [], us, h => by
    simp only [Reps] at h
    subst h
    simp only [tupS, Rep]
    exact ⟨[], rfl, by simp [Reps]⟩
  | [x], us, h => by
    simp only [Reps] at h
    obtain ⟨u, _, rfl, h1, rfl⟩ := h
    exact h1
  | x :: y :: l, us, h => by
    have h' := h
    simp only [Reps] at h
    obtain ⟨u, _, rfl, h1, v, l', rfl, h2, h3⟩ := h
    simp only [tupS, Rep]
    exact ⟨_, rfl, h'⟩
end
end Go.Proofs.YtbfdchahapajaaaGreatDoor
namespace Go.Proofs.YtbfdchahapajaaaGreatDoor
open Go.RowKit
set_option linter.unusedVariables false
section force
variable {α : Type}
def fN (n : Nat) (k : Nat → α) : α := match n with
  | 0 => k 0
  | m + 1 => k (Nat.succ m)
def fZ (x : Int) (k : Int → α) : α := match x with
  | .ofNat n => fN n fun n => k (.ofNat n)
  | .negSucc n => fN n fun n => k (.negSucc n)
def fB (b : Bool) (k : Bool → α) : α := cond b (k true) (k false)
def fK (x : IntKind) (k : IntKind → α) : α := match x with
  | .i8 => k .i8 | .i16 => k .i16 | .i32 => k .i32 | .i64 => k .i64
  | .u8 => k .u8 | .u16 => k .u16 | .u32 => k .u32 | .u64 => k .u64
def fL {β : Type} (f : β → (β → α) → α) : List β → (List β → α) → α
  | [], k => k []
  | x :: l, k => f x fun x => fL f l fun l => k (x :: l)
def fU8 (b : UInt8) (k : UInt8 → α) : α := fN b.toNat fun n => k (UInt8.ofNat n)
def fS (s : ByteArray) (k : ByteArray → α) : α := fL fU8 s.data.toList fun l => k ⟨⟨l⟩⟩
def fO (c : Option Nat) (k : Option Nat → α) : α := match c with
  | none => k none
  | some n => fN n fun n => k (some n)
def fD (d : Dat) (k : Dat → α) : α := match d with
  | .ints t xs => fK t fun t => fL fZ xs fun xs => k (.ints t xs)
  | .recs w xs => fN w fun w => fL (fL fZ) xs fun xs => k (.recs w xs)
  | .lists xs => fL (fL fZ) xs fun xs => k (.lists xs)
  | .strs xs => fL fS xs fun xs => k (.strs xs)
  | .bools xs => fL fB xs fun xs => k (.bools xs)
  | .mix sh xs => fL (fL (fL fZ)) xs fun xs => k (.mix sh xs)
def fVal (x : Value) (k : SV → α) : α := match x with
  | .int t n => fK t fun t => fZ n fun n => k (.v (.int t n))
  | .string s => fS s fun s => k (.v (.string s))
  | .bool b => fB b fun b => k (.v (.bool b))
  | x => k (.v x)
def f0 (x : SV) (k : SV → α) : α := match x with
  | .v x => fVal x k
  | .bl b => fB b fun b => k (.bl b)
  | .p l i j => fN l fun l => fN i fun i => fN j fun j => k (.p l i j)
  | .o l => fN l fun l => k (.o l)
  | .s l a n c => fN l fun l => fN a fun a => fN n fun n => fO c fun c => k (.s l a n c)
  | .dat d => fD d fun d => k (.dat d)
  | .dc d => fD d fun d => k (.dc d)
  | .m l => fN l fun l => k (.m l)
  | .dp d i j => fD d fun d => fN i fun i => fN j fun j => k (.dp d i j)
  | .av d => fD d fun d => k (.av d)
  | x => k x
def f1 (x : SV) (k : SV → α) : α := match x with
  | .ag cs => fL f0 cs fun cs => k (.ag cs)
  | .fn f a c => fL f0 a fun a => fL f0 c fun c => k (.fn f a c)
  | x => f0 x k
def f2 (x : SV) (k : SV → α) : α := match x with
  | .ifc t x => f1 x fun x => k (.ifc t x)
  | .ag cs => fL f1 cs fun cs => k (.ag cs)
  | .fn f a c => fL f1 a fun a => fL f1 c fun c => k (.fn f a c)
  | x => f1 x k
def f3 (x : SV) (k : SV → α) : α := match x with
  | .tu vs => fL f2 vs fun vs => k (.tu vs)
  | .ag cs => fL f2 cs fun cs => k (.ag cs)
  | .ifc t x => f2 x fun x => k (.ifc t x)
  | .fn f a c => fL f2 a fun a => fL f2 c fun c => k (.fn f a c)
  | x => f1 x k
def stl (x : SV) (k : SV → α) : α := match x with
  | .v (.bool b) => k (.bl b)
  | x => k x
def fPr (p : List Int × List Int) (k : List Int × List Int → α) : α := fL fZ p.1 fun a => fL fZ p.2 fun b => k (a, b)
def fBlk (b : SBlk) (k : SBlk → α) : α := match b with
  | .cells t cs => fL f3 cs fun cs => k (.cells t cs)
  | .arr t d => fD d fun d => k (.arr t d)
  | .row t d => fD d fun d => k (.row t d)
  | .mp kk vk es => fL fPr es fun es => k (.mp kk vk es)
  | .rc t wd n cs => fN wd fun wd => fN n fun n => fL f3 cs fun cs => k (.rc t wd n cs)
end force
def lget : List SV → Nat → SV
  | [], _ => .any
  | x :: _, 0 => x
  | _ :: l, t + 1 => lget l t
def hdel : List (Nat × SBlk) → Nat → List (Nat × SBlk)
  | [], _ => []
  | (k, b) :: r, l => cond (Nat.beq l k) (hdel r l) ((k, b) :: hdel r l)
def hset : List (Nat × SBlk) → List (Nat × Option SBlk) → List (Nat × SBlk)
  | h, [] => h
  | h, (l, none) :: r => hset (hdel h l) r
  | h, (l, some b) :: r => hset ((l, b) :: hdel h l) r
section force
variable {α : Type}
def lsetK : List SV → Nat → SV → (List SV → α) → α
  | [], 0, v, K => K [v]
  | [], d + 1, v, K => lsetK [] d v fun l => K (.any :: l)
  | _ :: l, 0, v, K => K (v :: l)
  | x :: l, d + 1, v, K => lsetK l d v fun l => K (x :: l)
def hdelK : List (Nat × SBlk) → Nat → (List (Nat × SBlk) → α) → α
  | [], _, K => K []
  | (k, b) :: r, l, K => cond (Nat.beq l k) (hdelK r l K) (hdelK r l fun r => K ((k, b) :: r))
def hsetK : List (Nat × SBlk) → List (Nat × Option SBlk) → (List (Nat × SBlk) → α) → α
  | h, [], K => K h
  | h, (l, none) :: r, K => fN l fun l => hdelK h l fun h => hsetK h r K
  | h, (l, some b) :: r, K => fN l fun l => fBlk b fun b => hdelK h l fun h => hsetK ((l, b) :: h) r K
def osetK (l : List SV) (d : Option Nat) (v : SV) (K : List SV → α) : α := match d with
  | some d => lsetK l d v K
  | none => K l
end force
structure RS where
  n : Nat
  T : List SV
  H : List (Nat × SBlk)
  cnt : Nat
def RS.st (r : RS) (U : Nat → Bool) : Sst := { n := r.n, T := lget r.T, H := lookupL r.H, U := U }
def at3 (a b c : Nat) : SV := .tu [.v (.int .i64 a), .v (.int .i64 b), .v (.int .i64 c)]
inductive Rn (α : Type) where
  | ok (x : α)
  | bad (info : SV)
def decAll (l : List Cnd) : Bool := l.all fun c => @decide c.p c.d
section
variable (P : Program) (Γ : FuncId → Option Ctr)
def runB (ops : Array Oper) (base : Nat → Nat) (lim : Nat) : List Oper → Nat → RS → (Nat → Bool) → List FP → Rn (RS × List FP)
  | [], _, r, _, acc => .ok (r, acc)
  | o :: rest, i, r, U, acc =>
    match gd ops o (r.st U) with
    | .yes => match step P Γ o (r.st U).ev (lookupL r.H) (base i) with
      | ⟨vc, val, _, ups, news⟩ =>
        cond ((o.dst.all fun d => Nat.blt d r.n) && (news.all fun k => !U k && Nat.blt k lim) && decAll vc)
          (f3 val fun val => stl val fun val => osetK r.T o.dst val fun T => hsetK r.H ups fun H =>
            runB ops base lim rest (i + 1) ⟨r.n, T, H, r.cnt⟩ (upds U (news.map fun k => (k, true))) (acc ++ [FP.of ops o (readsOf o (r.st U).ev (lookupL r.H)) ups])) (.bad (.tu [at3 (base 0) i 0, val]))
    | .no => cond (o.dst.all fun d => Nat.blt d r.n) (osetK r.T o.dst (.v undef) fun T => runB ops base lim rest (i + 1) ⟨r.n, T, r.H, r.cnt⟩ U (acc ++ [.skip ops o])) (.bad (at3 (base 0) i 1))
    | .bad => .bad (at3 (base 0) i 2)
def runLoop (f : RS → Rn (XE × RS)) : Nat → RS → Rn (XE × RS)
  | 0, _ => .bad .any
  | k + 1, s => match f s with
    | .ok (.normal, s') => runLoop f k s'
    | r => r
def run (wd lim : Nat) : Code → RS → Rn (XE × RS)
  | .skip, s => .ok (.normal, s)
  | .label _, s => .ok (.normal, s)
  | .region id ops draw, s =>
    fN (s.cnt + ops.size * wd) fun c' =>
    match runB P Γ ops (fun i => s.cnt + i * wd) c' ops.toList 0 s (fun l => Nat.blt l s.cnt) [] with
    | .ok (s', acc) => cond (!draw || indep ops acc) (.ok (.normal, ⟨s'.n, s'.T, s'.H, c'⟩)) (.bad (at3 id 0 3))
    | .bad x => .bad (.tu [at3 id 0 0, x])
  | .seq x y, s => match run wd lim x s with
    | .ok (.normal, s') => run wd lim y s'
    | r => r
  | .cond c x y, s => match (s.st fun _ => true).ev c with
    | .bl true => run wd lim x s
    | .bl false => run wd lim y s
    | .v (.bool true) => run wd lim x s
    | .v (.bool false) => run wd lim y s
    | x => .bad (.tu [at3 0 0 4, x])
  | .block id c, s => match run wd lim c s with
    | .ok (.exit id', s') => cond (Nat.beq id' id) (.ok (.normal, s')) (.ok (.exit id', s'))
    | r => r
  | .loop c, s => runLoop (run wd lim c) lim s
  | .scope c, s => run wd lim c s
  | .exit id, s => .ok (.exit id, s)
  | .ret, s => .ok (.ret, s)
  | _, _ => .bad (at3 0 0 5)
end
end Go.Proofs.YtbfdchahapajaaaGreatDoor
namespace Go.Proofs.YtbfdchahapajaaaGreatDoor
open Go.RowKit
set_option linter.unusedVariables false
set_option linter.unusedSimpArgs false
section
variable {α : Type}
end
section
variable {P : Program} {Γ : FuncId → Option Ctr}
theorem St.more {E : Env} {D : Nat → Prop} {β : Nat → Option Loc} {S : Sst} {a : Act} {w : World} (h : St E D β S a w) (U : Nat → Bool) (hU : ∀ k, S.U k = true → U k = true) : St E D β { S with U := U } a w :=
  { h with
    dom := fun l hl => h.dom l (by
      cases hq : S.U l
      · rfl
      · have := hU l hq
        simp only at hl
        rw [this] at hl; cases hl)
    low := fun l hl => hU l (h.low l hl) }
def RS.cur (s : RS) : Sst := s.st fun l => Nat.blt l s.cnt
end
end Go.Proofs.YtbfdchahapajaaaGreatDoor
namespace Go.Proofs.YtbfdchahapajaaaGreatDoor
open Go.RowKit
set_option linter.unusedVariables false
set_option linter.unusedSimpArgs false
section
variable (P : Program) (Γ : FuncId → Option Ctr)
def ressR (S : Sst) : List ResultVar → List Cnd × List SV
  | [] => ([], [])
  | r :: rs => match resS P S r, ressR S rs with
    | ⟨c, v, _, _, _⟩, (c', vs) => (c ++ c', v :: vs)
def convE1 (H : Nat → Option SBlk) (x : SV) : SV → SV × List Nat
  | .dat _ => convL H x
  | _ => (x, [])
def convEL (H : Nat → Option SBlk) : List SV → List SV → List SV × List Nat
  | x :: xs, y :: ys => match convE1 H x y, convEL H xs ys with
    | (a, b), (la, lb) => (a :: la, b ++ lb)
  | xs, _ => (xs, [])
def convE2 (H : Nat → Option SBlk) : SV → SV → SV × List Nat
  | .ag a, .ag b => match convEL H a b with
    | (l, br) => (.ag l, br)
  | x, y => convE1 H x y
def convET (H : Nat → Option SBlk) : List SV → List SV → List SV × List Nat
  | x :: xs, y :: ys => match convE2 H x y, convET H xs ys with
    | (a, b), (la, lb) => (a :: la, b ++ lb)
  | xs, _ => (xs, [])
def retsOf : List SV → SV → List SV
  | [_], r => [r]
  | _, .tu l => l
  | _, _ => []
def unT2 : List SV → List SV → List (Nat × Option Nat)
  | x :: xs, y :: ys => un1 x y ++ unT2 xs ys
  | _, _ => []
def un2 : SV → SV → List (Nat × Option Nat)
  | .tu a, .tu b => unT2 a b
  | x, y => un1 x y
def brOk (m : List (Nat × Option Nat)) (br : List Nat) : Bool := m.all fun x => match x.2 with
  | some a => !hasN br a
  | none => true
def keep0 (hp : List (Nat × SBlk)) : List (Nat × Option Nat) := hp.filterMap fun x => cond (Nat.blt x.1 1000) (some (x.1, some x.1)) none
def endG (fn : Func) (ret : SV) (hp : List (Nat × SBlk)) (S : Sst) : Prop :=
  match ressR P S fn.results.toList with
  | (c, vs) => match convET S.H vs (retsOf vs ret) with
    | (vs', br) => match onlyIds hp (unH S hp (keep0 hp ++ un2 ret (tupS vs'))) with
      | m => andL (c.map Cnd.p ++ okB (idsOk 1000 m hp && brOk m br && inL (hp.map (·.1)) (ids ret)) ++ le2 m (tupS vs') ret ++ leHp m S hp)
inductive Out where
  | leaf (ret : SV) (hp : List (Nat × SBlk))
  | ite (c : Cnd) (a b : Out)
def Out.get : Out → SV × List (Nat × SBlk)
  | .leaf r h => (r, h)
  | .ite c a b => cond (@decide c.p c.d) a.get b.get
def endT (fn : Func) (S : Sst) : Out → Prop
  | .leaf ret hp => endG P fn ret hp S
  | .ite c a b => (c.p → endT fn S a) ∧ (¬ c.p → endT fn S b)
def vcG (Ω : Nat → Option LoopFam) (fn : Func) (args : List SV) (hp : List (Nat × SBlk)) (out : Out) : Prop :=
  match fn.body with
  | none => False
  | some c => cond (Nat.ble args.length fn.ntmps && nodupB (hp.map (·.1)) && (hp.all fun x => Nat.blt x.1 1000)) (vc P Γ Ω 1000 0 c (initS fn args hp) fun e S => match e with
    | .exit _ => False
    | _ => endT P fn S out) False
end
section
variable {P : Program} {Γ : FuncId → Option Ctr}
theorem ressR_ok {E : Env} {D : Nat → Prop} {β : Nat → Option Loc} {S : Sst} {a : Act} {w : World} (h : St E D β S a w) : ∀ (rs : List ResultVar), (∀ c ∈ (ressR P S rs).1, c.p) →
    ∃ us : List Value, (rs.mapM (resM a.tmps)).run P w = .ok us w ∧ Reps D w β (ressR P S rs).2 us
  | [], _ => ⟨[], by simp, by simp [ressR, Reps]⟩
  | r :: rs, hc => by
    simp only [ressR] at hc ⊢
    obtain ⟨u, h1, h2⟩ := resS_ok (P := P) h r (fun c hcc => hc c (by simp [hcc]))
    obtain ⟨us, h3, h4⟩ := ressR_ok h rs (fun c hcc => hc c (by simp [hcc]))
    refine ⟨u :: us, ?_, ?_⟩
    · rw [List.mapM_cons]
      simp only [Sem.run_bind, h1, Result.andThen_ok, h3, Sem.run_pure]
    · simp only [Reps]
      exact ⟨u, us, rfl, h2, h4⟩
section
variable {E : Env} {D : Nat → Prop} {β : Nat → Option Loc} {S : Sst} {a : Act} {w : World}
theorem convE1_ok (P : Program) (h : St E D β S a w) {br : List Nat} {x : SV} (y : SV) {u : Value} (hx : Rep D w β x u) (hbr : ∀ k ∈ (convE1 S.H x y).2, k ∈ br) : Rep (fun g => D g ∨ Bor β S.H br g) w β (convE1 S.H x y).1 u := by
  unfold convE1 at hbr ⊢
  split at hbr
  · exact convL_ok P h hx hbr
  · exact Rep.mono (grows_more (fun g h => .inl h)) x hx
theorem convEL_ok (P : Program) (h : St E D β S a w) {br : List Nat} : ∀ (xs ys : List SV) {us : List Value}, Reps D w β xs us → (∀ k ∈ (convEL S.H xs ys).2, k ∈ br) → Reps (fun g => D g ∨ Bor β S.H br g) w β (convEL S.H xs ys).1 us
  | x :: xs, y :: ys, us, hr, hbr => by
    simp only [Reps] at hr
    obtain ⟨u, us', rfl, h1, h2⟩ := hr
    simp only [convEL, List.mem_append] at hbr ⊢
    exact ⟨u, us', rfl, convE1_ok P h y h1 (fun k hk => hbr k (.inl hk)), convEL_ok P h xs ys h2 (fun k hk => hbr k (.inr hk))⟩
  | [], _, us, hr, hbr => by simpa [convEL, Reps] using hr
  | x :: xs, [], us, hr, hbr => by
    simp only [convEL]
    exact Reps.mono (grows_more (fun g h => .inl h)) _ hr
theorem convE2_ok (P : Program) (h : St E D β S a w) {br : List Nat} {x : SV} (y : SV) {u : Value} (hx : Rep D w β x u) (hbr : ∀ k ∈ (convE2 S.H x y).2, k ∈ br) : Rep (fun g => D g ∨ Bor β S.H br g) w β (convE2 S.H x y).1 u := by
  unfold convE2 at hbr ⊢
  split
  · rename_i cs ds
    simp only [Rep] at hx ⊢
    obtain ⟨us, rfl, hus⟩ := hx
    exact ⟨us, rfl, convEL_ok P h cs ds hus hbr⟩
  · rename_i e
    refine convE1_ok P h _ hx ?_
    split at hbr
    all_goals first | exact hbr | exact (e _ _ rfl rfl).elim
theorem convET_ok (P : Program) (h : St E D β S a w) {br : List Nat} : ∀ (xs ys : List SV) {us : List Value}, Reps D w β xs us → (∀ k ∈ (convET S.H xs ys).2, k ∈ br) → Reps (fun g => D g ∨ Bor β S.H br g) w β (convET S.H xs ys).1 us
  | x :: xs, y :: ys, us, hr, hbr => by
    simp only [Reps] at hr
    obtain ⟨u, us', rfl, h1, h2⟩ := hr
    simp only [convET, List.mem_append] at hbr ⊢
    exact ⟨u, us', rfl, convE2_ok P h y h1 (fun k hk => hbr k (.inl hk)), convET_ok P h xs ys h2 (fun k hk => hbr k (.inr hk))⟩
  | [], _, us, hr, hbr => by simpa [convET, Reps] using hr
  | x :: xs, [], us, hr, hbr => by
    simp only [convET]
    exact Reps.mono (grows_more (fun g h => .inl h)) _ hr
end
theorem endT_get {fn : Func} {S : Sst} : ∀ o : Out, endT P fn S o → endG P fn o.get.1 o.get.2 S
  | .leaf r h, he => he
  | .ite c a b, he => by
    simp only [Out.get]
    by_cases hc : c.p
    · have hd : @decide c.p c.d = true := @decide_eq_true c.p c.d hc
      rw [hd]
      exact endT_get a (he.1 hc)
    · have hd : @decide c.p c.d = false := @decide_eq_false c.p c.d hc
      rw [hd]
      exact endT_get b (he.2 hc)
theorem init_ok {fn : Func} {args : List SV} {hp : List (Nat × SBlk)} {D : Nat → Prop} {β : Nat → Option Loc} {w : World} {us : List Value} {lim : Nat} (hlim : lim ≤ 1000) (q1 : args.length ≤ fn.ntmps) (hargs : Reps D w β args us) (hhp : HpOk D w β hp) (hD : ∀ g, D g → g < w.heap.size) (hβ : ∀ l, β l ≠ none → l ∈ hp.map (·.1)) :
    St ⟨w, Given β hp, D, β, fun l => l < lim, []⟩ D β (initS fn args hp) { tmps := us.toArray ++ Array.replicate (fn.ntmps - us.toArray.size) undef, defers := [] } w := by
  have hlen := Reps.len args hargs
  exact {
    size := by simp [initS]; omega
    tm := fun t => by
      simp only [initS]
      rw [Array.getD_eq_getD_getElem?]
      rcases Nat.lt_or_ge t args.length with ht | ht
      · obtain ⟨u, h1, h2⟩ := Reps.get args t args[t] hargs (by simp [ht])
        have h3 : (us.toArray ++ Array.replicate (fn.ntmps - us.toArray.size) undef)[t]? = some u := by
          rw [Array.getElem?_append_left (by simpa using hlen ▸ ht)]
          simpa using h1
        rw [h3]
        simp only [Option.getD_some, List.getD_eq_getElem?_getD, List.getElem?_eq_getElem ht]
        exact h2
      · have h3 : ((us.toArray ++ Array.replicate (fn.ntmps - us.toArray.size) undef)[t]?).getD undef = undef := by
          rw [Array.getElem?_append_right (by simpa using hlen ▸ ht), Array.getElem?_replicate]
          split <;> rfl
        rw [h3, List.getD_eq_getElem?_getD, List.getElem?_eq_none ht]
        simp only [Option.getD_none, Rep]
    hp := fun l b hl => by
      obtain ⟨L, h1, h2, _⟩ := hhp.1 l b (lookupL_mem hl)
      exact ⟨L, h1, h2⟩
    dis := fun l b L hl hL hni => by
      obtain ⟨L', h1, h2, h3⟩ := hhp.1 l b (lookupL_mem hl)
      rw [hL] at h1
      cases h1
      exact ⟨(h3 hni).2, (h3 hni).1, .inr ⟨l, b, L, lookupL_mem hl, hL, hni, rfl⟩⟩
    inj := fun l l' b b' L L' hl hl' => hhp.2 l l' b b' L L' (lookupL_mem hl) (lookupL_mem hl')
    dlt := hD, d0 := fun g h => h, d1 := fun g h => .inl h
    dom := fun l hl => by
      simp only [initS, Bool.or_eq_false_iff] at hl
      cases hx : β l with
      | none => rfl
      | some L =>
        have := hasN_iff.2 (hβ l (by rw [hx]; simp))
        rw [this] at hl
        cases hl.2
    os := rfl, tape := rfl, output := rfl, grow := Nat.le_refl _, block := fun _ _ _ => rfl, df := rfl
    low := fun l hl => by
      simp only [initS]
      have : Nat.blt l 1000 = true := Nat.ble_eq_true_of_le (Nat.lt_of_lt_of_le hl hlim)
      rw [this]; rfl
    giv := fun l L _ hL => hL }
theorem end_ok {fn : Func} {hp : List (Nat × SBlk)} {ret : SV} {hp' : List (Nat × SBlk)} {D D1 : Nat → Prop} {β β1 : Nat → Option Loc} {w w' : World} {E : Env} {S : Sst} {a : Act} {lim : Nat} (hlim : lim ≤ 1000) (hhp : HpOk D w β hp) (hD : ∀ g, D g → g < w.heap.size) (hβ : ∀ l, β l ≠ none → l ∈ hp.map (·.1)) (q3 : (hp.all fun x => Nat.blt x.1 lim) = true)
    (hE : E = ⟨w, Given β hp, D, β, fun l => l < lim, []⟩) (hs : St E D1 β1 S a w') (he : endG P fn ret hp' S) :
    ∃ v, (results fn a.tmps).run P w' = .ok v w' ∧ ∃ v' D' β', (Ending.returned v) = .returned v' ∧ After D β w hp ret hp' v' D' β' w' := by
  unfold endG at he
  generalize hr : ressR P S fn.results.toList = r at he
  obtain ⟨c, vs⟩ := r
  simp only at he
  generalize hcv : convET S.H vs (retsOf vs ret) = cv at he
  obtain ⟨vs', br⟩ := cv
  simp only at he
  generalize hmm : onlyIds hp' (unH S hp' (keep0 hp' ++ un2 ret (tupS vs'))) = m at he
  have hall := andL_all he
  simp only [List.mem_append] at hall
  obtain ⟨us', h1, h2'⟩ := ressR_ok (P := P) hs fn.results.toList (by rw [hr]; exact fun c hc => hall c.p (.inl (.inl (.inl (List.mem_map.2 ⟨c, hc, rfl⟩)))))
  rw [hr] at h2'
  have h2 := convET_ok P hs (br := br) vs (retsOf vs ret) h2' (by rw [hcv]; exact fun k hk => hk)
  rw [hcv] at h2
  simp only at h2
  have hok := okB_of (fun c hc => hall c (.inl (.inl (.inr hc))))
  have hle2 : ∀ c ∈ le2 m (tupS vs') ret, c := fun c hc => hall c (.inl (.inr hc))
  have hleHp : ∀ c ∈ leHp m S hp', c := fun c hc => hall c (.inr hc)
  simp only [idsOk, Bool.and_eq_true] at hok
  obtain ⟨⟨⟨n1, n2, n3⟩, n4⟩, n5⟩ := hok
  have hin : ∀ l x, lookupL m l = some x → l ∈ hp'.map (·.1) := fun l x hx => lookup_only (hmm ▸ hx)
  have hnil : ∀ l, lookupL m l = some none → ∃ t d, lookupL hp' l = some (.row t d) := by
    intro l hl
    obtain ⟨⟨l', b⟩, hb, rfl⟩ := List.mem_map.1 (hin l _ hl)
    rcases leHp_of hleHp hb with ⟨a, b', e, _⟩ | ⟨_, t, d, rfl, _⟩
    · rw [e] at hl; cases hl
    · exact ⟨t, d, mem_lookupL n1 hb⟩
  have cases_ : ∀ {l b L}, (l, b) ∈ hp' → renβ m hp' β1 l = some L → L.nil = false → ∃ a' b', lookupL m l = some (some a') ∧ S.H a' = some b' ∧ β1 a' = some L := by
    intro l b L hb hL hni
    rcases leHp_of hleHp hb with ⟨a', b', e, hb', _⟩ | ⟨e, t, d, rfl, _⟩
    · refine ⟨a', b', e, hb', ?_⟩
      unfold renβ at hL; rw [e] at hL; exact hL
    · unfold renβ at hL
      rw [e] at hL
      simp only [mem_lookupL n1 hb] at hL
      cases hL
      cases hni
  have hrenout : ∀ {l}, l ∉ hp'.map (·.1) → renβ m hp' β1 l = none := fun {l} hl => by
    unfold renβ
    cases e : lookupL m l with
    | none => rfl
    | some x => exact absurd (hin l x e) hl
  obtain ⟨D2, hD2⟩ : ∃ D2 : Nat → Prop, D2 = fun g => D1 g ∨ Bor β1 S.H br g := ⟨_, rfl⟩
  rw [← hD2] at h2
  obtain ⟨β2, hβ2⟩ : ∃ β2 : Nat → Option Loc, β2 = fun l => if l ∈ hp'.map (·.1) then renβ m hp' β1 l else β l := ⟨_, rfl⟩
  have b2in : ∀ {l}, l ∈ hp'.map (·.1) → β2 l = renβ m hp' β1 l := fun hl => by rw [hβ2]; exact if_pos hl
  have b2out : ∀ {l}, l ∉ hp'.map (·.1) → β2 l = β l := fun hl => by rw [hβ2]; exact if_neg hl
  have G12 : ∀ (D : Nat → Prop), (∀ g, D g → D2 g) → Grows D w' (renβ m hp' β1) D2 w' β2 := fun D hDD => ⟨hDD, fun _ _ => rfl, fun l L hL => by
    by_cases hl : l ∈ hp'.map (·.1)
    · rw [b2in hl]; exact hL
    · rw [hrenout hl] at hL; cases hL⟩
  have blk : ∀ l b, (l, b) ∈ hp' → ∃ L, renβ m hp' β1 l = some L ∧ BlkRep D2 w' β2 L b := by
    intro l b hl
    rcases leHp_of hleHp hl with ⟨a', b', e, hb', hle⟩ | ⟨e, t, d, rfl, h0⟩
    · obtain ⟨L, k1, k2⟩ := hs.hp a' b' hb'
      exact ⟨L, by unfold renβ; rw [e]; exact k1, (leB_ok hnil hle k2).mono (G12 D1 fun g hg => by rw [hD2]; exact .inl hg) b (fun _ => rfl)⟩
    · exact ⟨⟨0, d.wd, 0, 0, true⟩, by unfold renβ; rw [e]; simp only [mem_lookupL n1 hl], rfl, h0.symm, .inl ⟨rfl, h0⟩⟩
  have hD12 : ∀ g, D1 g → D2 g := fun g hg => by rw [hD2]; exact .inl hg
  have hE0 : E.w0 = w := by rw [hE]
  have hEW : E.Wr = Given β hp := by rw [hE]
  have hrow := hs.d1
  rw [hE] at hrow
  simp only at hrow
  have same : ∀ g, D g → w'.heap[g]? = w.heap[g]? := by
    intro g hg
    have := hs.block g (by rw [hE0]; exact hD g hg) (by
      rw [hEW]
      rintro ⟨l, b, L, k1, k2, k3, k4⟩
      obtain ⟨L', j1, _, j3⟩ := hhp.1 l b k1
      rw [k2] at j1
      cases j1
      exact (j3 k3).1 (k4 ▸ hg))
    rw [this, hE0]
  have old : ∀ l L, β l = some L → β2 l = some L := by
    intro l L hL
    by_cases hin' : l ∈ hp'.map (·.1)
    · rw [b2in hin']
      obtain ⟨⟨l', b⟩, hb, rfl⟩ := List.mem_map.1 hin'
      have hmem := hβ l' (by rw [hL]; simp)
      obtain ⟨x, hx, hxe⟩ := List.mem_map.1 hmem
      have hlt : l' < lim := by
        rw [← hxe]
        exact Nat.le_of_ble_eq_true (List.all_eq_true.1 q3 x hx)
      have hk := List.all_eq_true.1 n3 (l', b) hb
      have hlt' : Nat.blt l' 1000 = true := Nat.ble_eq_true_of_le (Nat.lt_of_lt_of_le hlt hlim)
      simp only [hlt', Bool.not_true, Bool.false_or] at hk
      have e := optN_of hk
      obtain ⟨L1, k2, _⟩ := blk l' b hb
      have k3 : β1 l' = some L1 := by
        unfold renβ at k2; rw [e] at k2; exact k2
      have := hs.giv l' L1 (by rw [hE]; exact hlt) k3
      rw [hE] at this
      simp only at this
      rw [hL] at this
      cases this
      exact k2
    · rw [b2out hin']; exact hL
  refine ⟨_, results_run h1, _, D2, β2, rfl, ?_⟩
  exact {
    grows := ⟨fun g hg => hD12 g (hs.d0 g (by rw [hE]; exact hg)), same, old⟩
    ret := (le2_ok hnil hle2 (tupS_rep h2)).mono (G12 D2 fun _ h => h) ret
    hps := by
      refine ⟨fun l b hl => ?_, fun l l' b b' L L' hl hl' hL hL' m1 m2 hg => ?_⟩
      · obtain ⟨L, k1, k2⟩ := blk l b hl
        refine ⟨L, by rw [b2in (List.mem_map.2 ⟨(l, b), hl, rfl⟩)]; exact k1, k2, fun hni => ?_⟩
        obtain ⟨a', b', e, k0, k3⟩ := cases_ hl k1 hni
        obtain ⟨j1, j2, _⟩ := hs.dis a' b' L k0 k3 hni
        refine ⟨fun hg => ?_, j1⟩
        rw [hD2] at hg
        rcases hg with hg | ⟨l2, b2, L2, i1, i2, i3, i4, i5⟩
        · exact j2 hg
        · have := hs.inj a' l2 b' b2 L L2 k0 i2 k3 i3 hni i4 i5.symm
          subst this
          have hk := List.all_eq_true.1 n4 _ (lookupL_mem e)
          simp only [Bool.not_eq_true'] at hk
          rw [hasN_iff.2 i1] at hk
          cases hk
      · rw [b2in (List.mem_map.2 ⟨(l, b), hl, rfl⟩)] at hL
        rw [b2in (List.mem_map.2 ⟨(l', b'), hl', rfl⟩)] at hL'
        obtain ⟨a1, c1, e1, hc1, hL1⟩ := cases_ hl hL m1
        obtain ⟨a2, c2, e2, hc2, hL2⟩ := cases_ hl' hL' m2
        have := hs.inj a1 a2 c1 c2 L L' hc1 hc2 hL1 hL2 m1 m2 hg
        subst this
        have := nodup_filterMap n2 hl hl' (a := a1) (by simp [e1]) (by simp [e2])
        exact congrArg (·.1) this
    d := fun g hg => by
      rw [hD2] at hg
      rcases hg with hg | ⟨l2, b2, L2, i1, i2, i3, i4, i5⟩
      · exact ⟨hrow g hg, hs.dlt g hg⟩
      · obtain ⟨j1, _, j3⟩ := hs.dis l2 b2 L2 i2 i3 i4
        rw [i5] at j1 j3
        rw [hE] at j3
        exact ⟨.inr j3, j1⟩
    dom := fun l L hL => by
      by_cases hin : l ∈ hp'.map (·.1)
      · exact .inr hin
      · rw [b2out hin] at hL; exact .inl hL
    own := fun l b L hl hL hni => by
      rw [b2in (List.mem_map.2 ⟨(l, b), hl, rfl⟩)] at hL
      obtain ⟨a', b', e, k0, k1⟩ := cases_ hl hL hni
      have := (hs.dis a' b' L k0 k1 hni).2.2
      rw [hE] at this
      exact this
    os := by rw [hs.os, hE0]
    tape := by rw [hs.tape, hE0]
    output := by rw [hs.output, hE0]
    size := by have := hs.grow; rw [hE0] at this; exact this
    block := fun g hg hn => by
      have := hs.block g (by rw [hE0]; exact hg) (by rw [hEW]; exact hn)
      rw [this, hE0] }
theorem sat_of_vcG (hΓ : ∀ f c, Γ f = some c → Sound P f c) (hm : P.follows .mixedOrders = true) {Ω : Nat → Option LoopFam} {f : FuncId} {fn : Func} (hf : P.funcs[f]? = some fn) {args : List SV} {hp : List (Nat × SBlk)} {out : Out} {ret : SV} {hp' : List (Nat × SBlk)}
    (ho : out.get = (ret, hp')) (h : vcG P Γ Ω fn args hp out) : Sat P f args hp ret hp' := by
  intro D β w us hargs hhp hD hβ
  unfold vcG at h
  cases hb : fn.body with
  | none => rw [hb] at h; exact h.elim
  | some c =>
  rw [hb] at h
  simp only at h
  cases hq : Nat.ble args.length fn.ntmps && nodupB (hp.map (·.1)) && hp.all fun x => Nat.blt x.1 1000
  · rw [hq] at h; exact h.elim
  rw [hq] at h
  simp only [cond_true] at h
  simp only [Bool.and_eq_true] at hq
  obtain ⟨⟨q1, q2⟩, q3⟩ := hq
  have q1 := Nat.le_of_ble_eq_true q1
  have hlen := Reps.len args hargs
  obtain ⟨E, hE⟩ : ∃ E : Env, E = ⟨w, Given β hp, D, β, fun l => l < 1000, []⟩ := ⟨_, rfl⟩
  have hst : St E D β (initS fn args hp) { tmps := us.toArray ++ Array.replicate (fn.ntmps - us.toArray.size) undef, defers := [] } w := by
    subst hE
    exact init_ok (Nat.le_refl _) q1 hargs hhp hD hβ
  refine calls_of_vc hΓ hm hf hb (by rw [hE]; exact fun l h => h) (by rw [hE]) h hst fun e S D1 β1 a w' he hs => ?_
  have post : endG P fn ret hp' S → ∃ v, (results fn a.tmps).run P w' = .ok v w' ∧ ∃ v' D' β', (Ending.returned v) = .returned v' ∧ After D β w hp ret hp' v' D' β' w' := end_ok (Nat.le_refl _) hhp hD hβ q3 hE hs
  have post' : endT P fn S out → _ := fun he => post (by have := endT_get out he; rw [ho] at this; exact this)
  cases e with
  | normal => exact ⟨fun id h => (by cases h), fun _ => post' he⟩
  | ret => exact ⟨fun id h => (by cases h), fun _ => post' he⟩
  | exit id => exact he.elim
end
end Go.Proofs.YtbfdchahapajaaaGreatDoor
namespace Go.Proofs.YtbfdchahapajaaaGreatDoor
open Go.RowKit
set_option linter.unusedVariables false
set_option linter.unusedSimpArgs false
mutual
def ren (ρ : Nat → Nat) : SV → SV
  | .p l i j => .p (ρ l) i j
  | .o l => .o (ρ l)
  | .s l a n c => .s (ρ l) a n c
  | .m l => .m (ρ l)
  | .fn f a c => .fn f (renL ρ a) (renL ρ c)
  | .ag cs => .ag (renL ρ cs)
  | .tu cs => .tu (renL ρ cs)
  | .ifc t x => .ifc t (ren ρ x)
  | x => x
def renL (ρ : Nat → Nat) : List SV → List SV
  | [] => []
  | c :: cs => ren ρ c :: renL ρ cs
end
def renB (ρ : Nat → Nat) : SBlk → SBlk
  | .cells t cs => .cells t (renL ρ cs)
  | .rc t wd n cs => .rc t wd n (renL ρ cs)
  | b => b
def renH (ρ : Nat → Nat) : List (Nat × SBlk) → List (Nat × SBlk)
  | [] => []
  | (l, b) :: r => (ρ l, renB ρ b) :: renH ρ r
section
variable {D : Nat → Prop} {w : World} {β : Nat → Option Loc} {ρ : Nat → Nat}
mutual
theorem Rep.ren : ∀ (x : SV) {u : Value}, Rep D w β (ren ρ x) u ↔ Rep D w (fun l => β (ρ l)) x u
  | .v _, _ => by simp only [Proofs.YtbfdchahapajaaaGreatDoor.ren, Rep]
  | .bl _, _ => by simp only [Proofs.YtbfdchahapajaaaGreatDoor.ren, Rep]
  | .p _ _ _, _ => by simp only [Proofs.YtbfdchahapajaaaGreatDoor.ren, Rep]
  | .o _, _ => by simp only [Proofs.YtbfdchahapajaaaGreatDoor.ren, Rep]
  | .s _ _ _ _, _ => by simp only [Proofs.YtbfdchahapajaaaGreatDoor.ren, Rep]
  | .dat _, _ => by simp only [Proofs.YtbfdchahapajaaaGreatDoor.ren, Rep]
  | .dc _, _ => by simp only [Proofs.YtbfdchahapajaaaGreatDoor.ren, Rep]
  | .m _, _ => by simp only [Proofs.YtbfdchahapajaaaGreatDoor.ren, Rep]
  | .dp _ _ _, _ => by simp only [Proofs.YtbfdchahapajaaaGreatDoor.ren, Rep]
  | .av d, _ => by cases d <;> simp only [Proofs.YtbfdchahapajaaaGreatDoor.ren, Rep]
  | .fn f a c, _ => by
    simp only [Proofs.YtbfdchahapajaaaGreatDoor.ren, Rep]
    constructor
    · rintro ⟨us, vs, h1, h2, h3⟩; exact ⟨us, vs, h1, (Reps.ren a).1 h2, (Reps.ren c).1 h3⟩
    · rintro ⟨us, vs, h1, h2, h3⟩; exact ⟨us, vs, h1, (Reps.ren a).2 h2, (Reps.ren c).2 h3⟩
  | .ag cs, _ => by
    simp only [Proofs.YtbfdchahapajaaaGreatDoor.ren, Rep]
    constructor
    · rintro ⟨us, h1, h2⟩; exact ⟨us, h1, (Reps.ren cs).1 h2⟩
    · rintro ⟨us, h1, h2⟩; exact ⟨us, h1, (Reps.ren cs).2 h2⟩
  | .tu cs, _ => by
    simp only [Proofs.YtbfdchahapajaaaGreatDoor.ren, Rep]
    constructor
    · rintro ⟨us, h1, h2⟩; exact ⟨us, h1, (Reps.ren cs).1 h2⟩
    · rintro ⟨us, h1, h2⟩; exact ⟨us, h1, (Reps.ren cs).2 h2⟩
  | .ifc t x, _ => by
    simp only [Proofs.YtbfdchahapajaaaGreatDoor.ren, Rep]
    constructor
    · rintro ⟨y, h1, h2⟩; exact ⟨y, h1, (Rep.ren x).1 h2⟩
    · rintro ⟨y, h1, h2⟩; exact ⟨y, h1, (Rep.ren x).2 h2⟩
  | .any, _ => by simp only [Proofs.YtbfdchahapajaaaGreatDoor.ren, Rep]
theorem Reps.ren : ∀ (cs : List SV) {us : List Value}, Reps D w β (renL ρ cs) us ↔ Reps D w (fun l => β (ρ l)) cs us
  | [], _ => by simp only [renL, Reps]
  | c :: cs, _ => by
    simp only [renL, Reps]
    constructor
    · rintro ⟨x, xs, h1, h2, h3⟩; exact ⟨x, xs, h1, (Rep.ren c).1 h2, (Reps.ren cs).1 h3⟩
    · rintro ⟨x, xs, h1, h2, h3⟩; exact ⟨x, xs, h1, (Rep.ren c).2 h2, (Reps.ren cs).2 h3⟩
end
theorem BlkRep.ren {L : Loc} (b : SBlk) : BlkRep D w β L (renB ρ b) ↔ BlkRep D w (fun l => β (ρ l)) L b := by
  cases b with
  | cells ty cs =>
    simp only [renB, BlkRep]
    constructor
    · rintro ⟨h1, us, h2, h3, h4⟩; exact ⟨h1, us, h2, (Reps.ren cs).1 h3, h4⟩
    · rintro ⟨h1, us, h2, h3, h4⟩; exact ⟨h1, us, h2, (Reps.ren cs).2 h3, h4⟩
  | rc ty wd n cs =>
    simp only [renB, BlkRep]
    constructor
    · rintro ⟨h1, h2, xs, h3, h4, h5⟩; exact ⟨h1, h2, xs, h3, (Reps.ren cs).1 h4, h5⟩
    · rintro ⟨h1, h2, xs, h3, h4, h5⟩; exact ⟨h1, h2, xs, h3, (Reps.ren cs).2 h4, h5⟩
  | _ => exact Iff.rfl
end
theorem renH_mem {ρ : Nat → Nat} : ∀ {hp : List (Nat × SBlk)} {l : Nat} {b : SBlk}, (l, b) ∈ renH ρ hp ↔ ∃ k c, (k, c) ∈ hp ∧ l = ρ k ∧ b = renB ρ c
  | [], l, b => by simp [renH]
  | (i, c) :: r, l, b => by
    simp only [renH, List.mem_cons, Prod.mk.injEq, renH_mem]
    constructor
    · rintro (⟨rfl, rfl⟩ | ⟨k, c', h1, h2, h3⟩)
      · exact ⟨i, c, .inl ⟨rfl, rfl⟩, rfl, rfl⟩
      · exact ⟨k, c', .inr h1, h2, h3⟩
    · rintro ⟨k, c', ⟨rfl, rfl⟩ | h1, h2, h3⟩
      · exact .inl ⟨h2, h3⟩
      · exact .inr ⟨k, c', h1, h2, h3⟩
theorem mem_keys {hp : List (Nat × SBlk)} {l : Nat} : l ∈ hp.map (·.1) ↔ ∃ b, (l, b) ∈ hp := by
  simp only [List.mem_map]
  exact ⟨fun ⟨x, h1, h2⟩ => ⟨x.2, h2 ▸ h1⟩, fun ⟨b, h⟩ => ⟨_, h, rfl⟩⟩
theorem SatC.ren {C : (Ending → World → Prop) → Prop} (hC : ∀ {R R' : Ending → World → Prop}, C R → (∀ e w, R e w → R' e w) → C R') {en : Value → Ending} {w : World} {us : List Value} {args : List SV} {hp : List (Nat × SBlk)} {ret : SV} {hp' : List (Nat × SBlk)} (h : SatC C en w us args hp ret hp') (ρ : Nat → Nat)
    (hi : ∀ a b, a ∈ hp.map (·.1) ++ hp'.map (·.1) → b ∈ hp.map (·.1) ++ hp'.map (·.1) → ρ a = ρ b → a = b)
    (hc : inL (hp.map (·.1)) (idsL args) = true) (hb : hp.all (fun x => inL (hp.map (·.1)) (idsB x.2)) = true) :
    SatC C en w us (renL ρ args) (renH ρ hp) (ren ρ ret) (renH ρ hp') := by
  intro D β hargs hhp hD hβ
  obtain ⟨β0, hβ0⟩ : ∃ β0 : Nat → Option Loc, β0 = cutβ (fun l => β (ρ l)) (hp.map (·.1)) := ⟨_, rfl⟩
  have in0 : ∀ {l}, l ∈ hp.map (·.1) → β0 l = β (ρ l) := fun hl => by rw [hβ0]; exact if_pos hl
  have out0 : ∀ {l}, l ∉ hp.map (·.1) → β0 l = none := fun hl => by rw [hβ0]; exact if_neg hl
  have hc := inL_iff.1 hc
  have hb : ∀ l b, (l, b) ∈ hp → ∀ k ∈ idsB b, k ∈ hp.map (·.1) := fun l b hl => inL_iff.1 (List.all_eq_true.1 hb (l, b) hl)
  have a0 : Reps D w β0 args us := by rw [hβ0]; exact Reps.cut args hc ((Reps.ren args).1 hargs)
  have hinj : ∀ {a b}, a ∈ hp.map (·.1) → b ∈ hp.map (·.1) → ρ a = ρ b → a = b := fun ha hb' => hi _ _ (List.mem_append.2 (.inl ha)) (List.mem_append.2 (.inl hb'))
  have giv : ∀ g, Given (fun l => β l) (renH ρ hp) g ↔ Given β0 hp g := by
    intro g
    constructor
    · rintro ⟨l, b, L, h1, h2, h3, h4⟩
      obtain ⟨k, c, k1, rfl, rfl⟩ := renH_mem.1 h1
      exact ⟨k, c, L, k1, by rw [in0 (mem_keys.2 ⟨c, k1⟩)]; exact h2, h3, h4⟩
    · rintro ⟨k, c, L, h1, h2, h3, h4⟩
      rw [in0 (mem_keys.2 ⟨c, h1⟩)] at h2
      exact ⟨ρ k, renB ρ c, L, renH_mem.2 ⟨k, c, h1, rfl, rfl⟩, h2, h3, h4⟩
  have p0 : HpOk D w β0 hp := by
    refine ⟨fun l b hl => ?_, fun l l' b b' L L' hl hl' hL hL' m1 m2 hg => ?_⟩
    · obtain ⟨L, h1, h2, h3⟩ := hhp.1 (ρ l) (renB ρ b) (renH_mem.2 ⟨l, b, hl, rfl, rfl⟩)
      refine ⟨L, by rw [in0 (mem_keys.2 ⟨b, hl⟩)]; exact h1, ?_, h3⟩
      rw [hβ0]
      exact BlkRep.cut b (hb l b hl) ((BlkRep.ren b).1 h2)
    · rw [in0 (mem_keys.2 ⟨b, hl⟩)] at hL
      rw [in0 (mem_keys.2 ⟨b', hl'⟩)] at hL'
      exact hinj (mem_keys.2 ⟨b, hl⟩) (mem_keys.2 ⟨b', hl'⟩) (hhp.2 (ρ l) (ρ l') _ _ L L' (renH_mem.2 ⟨l, b, hl, rfl, rfl⟩) (renH_mem.2 ⟨l', b', hl', rfl, rfl⟩) hL hL' m1 m2 hg)
  refine hC (h D β0 a0 p0 hD (fun l hl => by
    by_cases hm : l ∈ hp.map (·.1)
    · exact hm
    · exact absurd (out0 hm) hl)) ?_
  rintro e w' ⟨v, D', β', he, ha⟩
  classical
  obtain ⟨β2, hβ2⟩ : ∃ β2 : Nat → Option Loc, β2 = fun l => if hk : ∃ k, k ∈ hp.map (·.1) ++ hp'.map (·.1) ∧ ρ k = l then β' (Classical.choose hk) else none := ⟨_, rfl⟩
  have at2 : ∀ {k}, k ∈ hp.map (·.1) ++ hp'.map (·.1) → β2 (ρ k) = β' k := by
    intro k hk
    have hx : ∃ k', k' ∈ hp.map (·.1) ++ hp'.map (·.1) ∧ ρ k' = ρ k := ⟨k, hk, rfl⟩
    rw [hβ2]
    simp only [dif_pos hx]
    have hs := Classical.choose_spec hx
    rw [hi _ _ hs.1 hk hs.2]
  have dom' : ∀ l L, β' l = some L → l ∈ hp.map (·.1) ++ hp'.map (·.1) := by
    intro l L hL
    rcases ha.dom l L hL with h1 | h1
    · by_cases hm : l ∈ hp.map (·.1)
      · exact List.mem_append.2 (.inl hm)
      · rw [out0 hm] at h1; cases h1
    · exact List.mem_append.2 (.inr h1)
  have up : Grows D' w' β' D' w' (fun l => β2 (ρ l)) := ⟨fun _ h => h, fun _ _ => rfl, fun l L hL => by rw [at2 (dom' l L hL)]; exact hL⟩
  have old : ∀ l L, β l = some L → β2 l = some L := by
    intro l L hL
    obtain ⟨b, hb'⟩ := mem_keys.1 (hβ l (by rw [hL]; simp))
    obtain ⟨k, c, k1, rfl, rfl⟩ := renH_mem.1 hb'
    have hk : k ∈ hp.map (·.1) := mem_keys.2 ⟨c, k1⟩
    rw [at2 (List.mem_append.2 (.inl hk))]
    exact ha.grows.b k L (by rw [in0 hk]; exact hL)
  refine ⟨v, D', β2, he, ?_⟩
  exact {
    grows := ⟨ha.grows.d, ha.grows.h, old⟩
    ret := (Rep.ren ret).2 (Rep.mono up ret ha.ret)
    hps := by
      refine ⟨fun l b hl => ?_, fun l l' b b' L L' hl hl' hL hL' m1 m2 hg => ?_⟩
      · obtain ⟨k, c, k1, rfl, rfl⟩ := renH_mem.1 hl
        obtain ⟨L, h1, h2, h3⟩ := ha.hps.1 k c k1
        exact ⟨L, by rw [at2 (List.mem_append.2 (.inr (mem_keys.2 ⟨c, k1⟩)))]; exact h1, (BlkRep.ren c).2 (BlkRep.mono up c (fun _ => rfl) h2), h3⟩
      · obtain ⟨k, c, k1, rfl, rfl⟩ := renH_mem.1 hl
        obtain ⟨k', c', k1', rfl, rfl⟩ := renH_mem.1 hl'
        rw [at2 (List.mem_append.2 (.inr (mem_keys.2 ⟨c, k1⟩)))] at hL
        rw [at2 (List.mem_append.2 (.inr (mem_keys.2 ⟨c', k1'⟩)))] at hL'
        rw [ha.hps.2 k k' c c' L L' k1 k1' hL hL' m1 m2 hg]
    d := fun g hg => by
      obtain ⟨h1, h2⟩ := ha.d g hg
      refine ⟨?_, h2⟩
      rcases h1 with h1 | h1 | h1
      · exact .inl h1
      · exact .inr (.inl h1)
      · exact .inr (.inr ((giv g).2 h1))
    dom := fun l L hL => by
      rw [hβ2] at hL
      simp only at hL
      split at hL
      · rename_i hk
        obtain ⟨k1, k2⟩ := Classical.choose_spec hk
        generalize Classical.choose hk = k at hL k1 k2
        subst k2
        rcases ha.dom k L hL with h1 | h1
        · by_cases hm : k ∈ hp.map (·.1)
          · rw [in0 hm] at h1; exact .inl h1
          · rw [out0 hm] at h1; cases h1
        · obtain ⟨b, hb'⟩ := mem_keys.1 h1
          exact .inr (mem_keys.2 ⟨renB ρ b, renH_mem.2 ⟨k, b, hb', rfl, rfl⟩⟩)
      · cases hL
    own := fun l b L hl hL hni => by
      obtain ⟨k, c, k1, rfl, rfl⟩ := renH_mem.1 hl
      rw [at2 (List.mem_append.2 (.inr (mem_keys.2 ⟨c, k1⟩)))] at hL
      rcases ha.own k c L k1 hL hni with h1 | h1
      · exact .inl h1
      · exact .inr ((giv _).2 h1)
    os := ha.os, tape := ha.tape, output := ha.output, size := ha.size
    block := fun g hg hn => ha.block g hg (fun h1 => hn ((giv g).2 h1)) }
theorem Sat.ren {P : Program} {f : FuncId} {args : List SV} {hp : List (Nat × SBlk)} {ret : SV} {hp' : List (Nat × SBlk)} (h : Sat P f args hp ret hp') (ρ : Nat → Nat)
    (hi : ∀ a b, a ∈ hp.map (·.1) ++ hp'.map (·.1) → b ∈ hp.map (·.1) ++ hp'.map (·.1) → ρ a = ρ b → a = b)
    (hc : inL (hp.map (·.1)) (idsL args) = true) (hb : hp.all (fun x => inL (hp.map (·.1)) (idsB x.2)) = true) :
    Sat P f (renL ρ args) (renH ρ hp) (ren ρ ret) (renH ρ hp') :=
  fun D β w us => SatC.ren (C := fun R => Calls P f us.toArray w R) (fun h k => h.mono k) (en := .returned) (fun D β => h D β w us) ρ hi hc hb D β
end Go.Proofs.YtbfdchahapajaaaGreatDoor
namespace Go.Proofs.YtbfdchahapajaaaGreatDoor
open Go.RowKit
set_option linter.unusedVariables false
set_option linter.unusedSimpArgs false
def rho (ls : List Nat) (n : Nat) (k : Nat) : Nat := cond (Nat.blt k 1000) (ls.getD k 0) (n + (k - 2000))
structure Spec where
  ι : Type
  own : Bool := false
  dec : List SV → (Nat → Option SBlk) → Option (ι × List Nat)
  args : ι → List SV
  hp : ι → List (Nat × SBlk) := fun _ => []
  pre : ι → List Cnd := fun _ => []
  out : ι → Out
def Spec.ret (S : Spec) (i : S.ι) : SV := (S.out i).get.1
def Spec.hp' (S : Spec) (i : S.ι) : List (Nat × SBlk) := (S.out i).get.2
def injFrom (ρ : Nat → Nat) (a : Nat) : List Nat → Bool
  | [] => true
  | b :: r => (!Nat.beq (ρ a) (ρ b) || Nat.beq a b) && injFrom ρ a r
def injB (ρ : Nat → Nat) (l : List Nat) : Bool := l.all fun a => injFrom ρ a l
def Out.all (p : List (Nat × SBlk) → Bool) : Out → Bool
  | .leaf _ h => p h
  | .ite _ a b => a.all p && b.all p
def Out.ct (pre : List Cnd) (ls : List Nat) (ρ : Nat → Nat) : Out → CT
  | .leaf r h => .leaf ⟨pre, ls, ren ρ r, renH ρ h⟩
  | .ite c a b => .ite c (a.ct pre ls ρ) (b.ct pre ls ρ)
def Spec.chk (S : Spec) (i : S.ι) (ls : List Nat) (n : Nat) : Bool :=
  (S.out i).all (fun h => injB (rho ls n) ((S.hp i).map (·.1) ++ h.map (·.1))) && (inL ((S.hp i).map (·.1)) (idsL (S.args i)) && (S.hp i).all fun x => inL ((S.hp i).map (·.1)) (idsB x.2))
def Spec.ctr (S : Spec) : Ctr := ⟨S.own, fun l H n => match S.dec l H with
  | none => .leaf .none
  | some (i, ls) => match S.chk i ls n with
    | true => (S.out i).ct (S.pre i) ls (rho ls n)
    | false => .leaf .none⟩
theorem Out.ct_get (pre : List Cnd) (ls : List Nat) (ρ : Nat → Nat) : ∀ o : Out, (o.ct pre ls ρ).get = ⟨pre, ls, ren ρ o.get.1, renH ρ o.get.2⟩
  | .leaf r h => rfl
  | .ite c a b => by
    simp only [Out.ct, CT.get, Out.get]
    cases @decide c.p c.d
    · exact Out.ct_get pre ls ρ b
    · exact Out.ct_get pre ls ρ a
theorem Out.all_get {p : List (Nat × SBlk) → Bool} : ∀ {o : Out}, o.all p = true → p o.get.2 = true
  | .leaf r h, ha => ha
  | .ite c a b, ha => by
    simp only [Out.all, Bool.and_eq_true] at ha
    simp only [Out.get]
    cases @decide c.p c.d
    · exact Out.all_get ha.2
    · exact Out.all_get ha.1
theorem injFrom_ok {ρ : Nat → Nat} {a : Nat} : ∀ {l : List Nat}, injFrom ρ a l = true → ∀ b ∈ l, ρ a = ρ b → a = b
  | x :: r, h, b, hb, e => by
    simp only [injFrom, Bool.and_eq_true, Bool.or_eq_true, Bool.not_eq_true'] at h
    simp only [List.mem_cons] at hb
    rcases hb with rfl | hb
    · rcases h.1 with h1 | h1
      · rw [e, Nat.beq_refl] at h1; cases h1
      · exact Nat.eq_of_beq_eq_true h1
    · exact injFrom_ok h.2 b hb e
theorem Spec.sound (S : Spec) {P : Program} {f : FuncId} (hc : callable P f = true)
    (hE : ∀ l H n i ls, S.dec l H = some (i, ls) → l = renL (rho ls n) (S.args i) ∧ givenHp H ls = renH (rho ls n) (S.hp i))
    (h : ∀ i, (∀ c ∈ S.pre i, c.p) → Sat P f (S.args i) (S.hp i) (S.ret i) (S.hp' i)) : Sound P f S.ctr := by
  refine ⟨hc, fun l H n hp => ?_⟩
  simp only [Spec.ctr, Ctr.fn] at hp ⊢
  cases hd : S.dec l H with
  | none =>
    rw [hd] at hp
    exact (hp ⟨False, inferInstance⟩ (by simp [CRes.none, CT.get])).elim
  | some x =>
    obtain ⟨i, ls⟩ := x
    rw [hd] at hp
    simp only at hp ⊢
    cases hk : S.chk i ls n
    · rw [hk] at hp
      exact (hp ⟨False, inferInstance⟩ (by simp [CRes.none, CT.get])).elim
    · rw [hk] at hp
      simp only at hp ⊢
      rw [Out.ct_get] at hp ⊢
      simp only at hp ⊢
      obtain ⟨e1, e2⟩ := hE l H n i ls hd
      rw [e2]
      rw [e1]
      simp only [Spec.chk, Bool.and_eq_true] at hk
      have h1 := Out.all_get hk.1
      refine Sat.ren (h i hp) (rho ls n) (fun a b ha hb e => injFrom_ok (List.all_eq_true.1 h1 a ha) b hb e) hk.2.1 hk.2.2
mutual
def pv : SV → Value
  | .v x => x
  | .bl b => .bool b
  | .ag cs => .agg (pvL cs).toArray
  | .tu cs => .tuple (pvL cs).toArray
  | .ifc t x => .iface t (pv x)
  | _ => .nilIface
def pvL : List SV → List Value
  | [] => []
  | c :: cs => pv c :: pvL cs
end
mutual
def plain : SV → Bool
  | .v _ => true
  | .bl _ => true
  | .ag cs => plainL cs
  | .tu cs => plainL cs
  | .ifc _ x => plain x
  | _ => false
def plainL : List SV → Bool
  | [] => true
  | c :: cs => plain c && plainL cs
end
section
variable {D : Nat → Prop} {w : World} {β : Nat → Option Loc}
mutual
theorem Rep.plain : ∀ (x : SV) {u : Value}, plain x = true → (Rep D w β x u ↔ u = pv x)
  | .v _, _, _ => by simp only [Rep, pv]
  | .bl _, _, _ => by simp only [Rep, pv]
  | .ag cs, _, h => by
    simp only [Rep, pv]
    constructor
    · rintro ⟨us, h1, h2⟩; rw [h1, (Reps.plain cs h).1 h2]
    · intro h1; exact ⟨_, h1, (Reps.plain cs h).2 rfl⟩
  | .tu cs, _, h => by
    simp only [Rep, pv]
    constructor
    · rintro ⟨us, h1, h2⟩; rw [h1, (Reps.plain cs h).1 h2]
    · intro h1; exact ⟨_, h1, (Reps.plain cs h).2 rfl⟩
  | .ifc t x, _, h => by
    simp only [Rep, pv]
    constructor
    · rintro ⟨us, h1, h2⟩; rw [h1, (Rep.plain x h).1 h2]
    · intro h1; exact ⟨_, h1, (Rep.plain x h).2 rfl⟩
theorem Reps.plain : ∀ (cs : List SV) {us : List Value}, plainL cs = true → (Reps D w β cs us ↔ us = pvL cs)
  | [], _, _ => by simp only [Reps, pvL]
  | c :: cs, _, h => by
    simp only [plainL, Bool.and_eq_true] at h
    simp only [Reps, pvL]
    constructor
    · rintro ⟨x, xs, rfl, h2, h3⟩; rw [(Rep.plain c h.1).1 h2, (Reps.plain cs h.2).1 h3]
    · intro h1; exact ⟨_, _, h1, (Rep.plain c h.1).2 rfl, (Reps.plain cs h.2).2 rfl⟩
end
end
theorem sat_of_calls {P : Program} {f : FuncId} {args : List SV} {ret : SV} (h : ∀ w, Calls P f (pvL args).toArray w fun e w' => e = .returned (pv ret) ∧ Below w.heap.size w w') (ha : plainL args = true) (hr : plain ret = true) : Sat P f args [] ret [] := by
  intro D β w us hargs hhp hD hβ
  rw [(Reps.plain args ha).1 hargs]
  refine (h w).mono ?_
  rintro e w' ⟨he, hb⟩
  refine ⟨_, D, β, he, ?_⟩
  exact {
    grows := ⟨fun _ h => h, fun g hg => hb.block g (hD g hg), fun _ _ h => h⟩
    ret := (Rep.plain ret hr).2 rfl
    hps := ⟨fun l b hl => (by cases hl), fun l l' b b' L L' hl => (by cases hl)⟩
    d := fun g hg => ⟨.inl hg, Nat.lt_of_lt_of_le (hD g hg) hb.size⟩
    dom := fun l L hL => .inl hL
    own := fun l b L hl => (by cases hl)
    os := hb.os, tape := hb.tape, output := hb.output, size := hb.size
    block := fun g hg _ => hb.block g hg }
def Gof (G : List (Nat × Ctr)) : FuncId → Option Ctr := fun f => lookupL G f
def AllOk (P : Program) (G : List (Nat × Ctr)) : Prop := ∀ f c, Gof G f = some c → Sound P f c
theorem AllOk.nil {P : Program} : AllOk P [] := fun f c h => by cases h
theorem AllOk.cons {P : Program} {f : Nat} {c : Ctr} {G : List (Nat × Ctr)} (h1 : Sound P f c) (h2 : AllOk P G) : AllOk P ((f, c) :: G) := by
  intro g c' hg
  simp only [Gof, lookupL] at hg
  cases hb : Nat.beq g f
  · rw [hb] at hg; exact h2 g c' hg
  · rw [hb] at hg
    simp only [cond_true, Option.some.injEq] at hg
    subst hg
    rw [Nat.eq_of_beq_eq_true hb]
    exact h1
theorem satG {P : Program} {G : List (Nat × Ctr)} (hG : AllOk P G) (hm : P.follows .mixedOrders = true) {Ω : Nat → Option LoopFam} {f : FuncId} {fn : Func} (hf : P.funcs[f]? = some fn) {args : List SV} {hp : List (Nat × SBlk)} {out : Out}
    {T : Prop} (e : T = vcG P (Gof G) Ω fn args hp out) (h : T) : Sat P f args hp out.get.1 out.get.2 := sat_of_vcG hG hm hf rfl (e ▸ h)
end Go.Proofs.YtbfdchahapajaaaGreatDoor
namespace Go.Proofs.YtbfdchahapajaaaGreatDoor
open Go Go.RowKit
set_option linter.unusedVariables false
set_option linter.unusedSimpArgs false
set_option maxRecDepth 100000
def orC (s1 s2 : Spec) : Ctr := ⟨s1.own, fun l H n => match s1.dec l H with
  | some _ => s1.ctr.tr l H n
  | none => s2.ctr.tr l H n⟩
theorem orC_sound {P : Program} {f : FuncId} {s1 s2 : Spec} (h1 : Sound P f s1.ctr) (h2 : Sound P f s2.ctr) : Sound P f (orC s1 s2) := by
  refine ⟨h1.1, fun args H n hp => ?_⟩
  simp only [orC, Ctr.fn] at hp ⊢
  cases hd : s1.dec args H with
  | none => rw [hd] at hp; exact h2.2 args H n hp
  | some x => rw [hd] at hp; exact h1.2 args H n hp
end Go.Proofs.YtbfdchahapajaaaGreatDoor
namespace Go.Proofs.YtbfdchahapajaaaGreatDoor
open Go.RowKit Go.WideShapes Go.ChangeShapes
set_option linter.unusedVariables false
set_option linter.unusedSimpArgs false
theorem block_of_add (a : Addr) (n : Nat) : (a.add n).block = a.block := by unfold Addr.add; split <;> rfl
theorem add_of_add (a : Addr) (i j : Nat) : (a.add i).add j = a.add (i + j) := by
  unfold Addr.add
  by_cases hi : i = 0 <;> by_cases hj : j = 0 <;> simp [hi, hj, Nat.add_assoc]
def Reads (w : World) (B size : Nat) (A : Option Addr) (n : Nat) (xs : List Value) : Prop :=
  xs.length = n * size ∧ (0 < n → ∃ ad, A = some ad ∧ ad.block < B ∧ ∀ j u, xs[j]? = some u → w.cell? (ad.add j) = some u)
section
variable {w w' : World} {B B' size n : Nat} {A : Option Addr} {xs : List Value}
theorem Reads.keep (h : Reads w B size A n xs) (hk : ∀ p : Addr, p.block < B → w'.cell? p = w.cell? p) : Reads w' B size A n xs :=
  ⟨h.1, fun hn => by
    obtain ⟨ad, e, hb, hc⟩ := h.2 hn
    exact ⟨ad, e, hb, fun j u hu => (hk _ (by rw [block_of_add]; exact hb)).trans (hc j u hu)⟩⟩
theorem Reads.more (h : Reads w B size A n xs) (hB : B ≤ B') : Reads w B' size A n xs :=
  ⟨h.1, fun hn => by
    obtain ⟨ad, e, hb, hc⟩ := h.2 hn
    exact ⟨ad, e, by omega, hc⟩⟩
theorem Reads.drew (h : Reads w B size A n xs) : Reads w.drew B size A n xs := h
theorem Reads.alloc (h : Reads w B size A n xs) (hB : B ≤ w.heap.size) (o : Obj) : Reads (w.alloc o) B size A n xs := h.keep fun p hp => World.cell?_alloc_lt w o p (by omega)
theorem Reads.setCell (h : Reads w B size A n xs) {p : Addr} (hB : B ≤ p.block) (u : Value) : Reads (w.setCell p u) B size A n xs :=
  h.keep fun q hq => World.cell?_setCell_other w p q u (fun e => by subst e; omega)
theorem Reads.grown (h : Reads w B size A n xs) {row : Option Nat} (hg : w.grownBy w' row) (hB : B ≤ w.heap.size) (hr : ∀ g, row = some g → B ≤ g) : Reads w' B size A n xs :=
  h.keep fun p hp => World.cell?_of_block (hg.block p.block (by omega) (fun e => by have := hr _ e.symm; omega))
theorem Reads.cut (h : Reads w B size A n xs) {k cap : Nat} (hk : k ≤ n) (hc : n ≤ cap) :
    Reads w B size (if cap = k then A else A.map (·.add (k * size))) (n - k) (xs.drop (k * size)) := by
  refine ⟨by rw [List.length_drop, h.1, Nat.sub_mul], fun hn => ?_⟩
  obtain ⟨ad, rfl, hb, hcell⟩ := h.2 (by omega)
  rw [if_neg (by omega)]
  refine ⟨ad.add (k * size), rfl, by rw [block_of_add]; exact hb, fun j u hu => ?_⟩
  rw [add_of_add]
  exact hcell _ u (by rw [← hu, List.getElem?_drop])
end
def Blk (w : World) (g : Nat) (t : TypeId) (cs : Array Value) : Prop := w.heap[g]? = some (.cells cs t (0, 0))
section
variable {w w' : World} {g : Nat} {t : TypeId} {cs : Array Value}
theorem Blk.lt (h : Blk w g t cs) : g < w.heap.size := by
  rcases Nat.lt_or_ge g w.heap.size with hlt | hge
  · exact hlt
  · unfold Blk at h; rw [Array.getElem?_eq_none hge] at h; cases h
theorem Blk.cell (h : Blk w g t cs) (i : Nat) : w.cell? ⟨g, i, none⟩ = cs[i]? := cell_of_row w g i cs t (0, 0) h
theorem Blk.frozen (h : Blk w g t cs) (i : Nat) : w.frozen? ⟨g, i, none⟩ = false := by
  unfold Blk at h
  simp [World.frozen?, h]
theorem Blk.new (w : World) (t : TypeId) (cs : Array Value) : Blk (w.alloc (.cells cs t)) w.heap.size t cs := heap_alloc_new w _
theorem Blk.drew (h : Blk w g t cs) : Blk w.drew g t cs := h
theorem Blk.alloc (h : Blk w g t cs) (o : Obj) : Blk (w.alloc o) g t cs := (Below.heap_alloc w o g h.lt).trans h
theorem Blk.far (h : Blk w g t cs) {p : Addr} (hp : g ≠ p.block) (u : Value) : Blk (w.setCell p u) g t cs := (Below.heap_setCell w p u g hp).trans h
theorem Blk.grown {row : Option Nat} (h : Blk w g t cs) (hb : w.grownBy w' row) (hg : some g ≠ row) : Blk w' g t cs := (hb.block g h.lt hg).trans h
end
section
variable {P : Program} (w : World)
end
section
variable {H : Type} {enc : TypeId × Value → H} {P : Program}
end
end Go.Proofs.YtbfdchahapajaaaGreatDoor
namespace Go.Proofs.YtbfdchahapajaaaGreatDoor
open Go
set_option linter.unusedVariables false
set_option linter.unusedSimpArgs false
theorem wr {n : Int} (h1 : -9223372036854775808 ≤ n) (h2 : n ≤ 9223372036854775807) : IntKind.wrap IntKind.i64 n = n := IntWalk.i64_in n ⟨h1, h2⟩
theorem wru {n : Int} (h1 : 0 ≤ n) (h2 : n ≤ 18446744073709551615) : IntKind.wrap IntKind.u64 n = n := IntWalk.u64_in n ⟨h1, h2⟩
end Go.Proofs.YtbfdchahapajaaaGreatDoor
namespace Go.Proofs.YtbfdchahapajaaaGreatDoor
open Go.RowKit
set_option linter.unusedVariables false
set_option linter.unusedSimpArgs false
def yieldOf (o : Oper) (S : Sst) : Option (Nat × List SV) := match o.op with
  | .call c => match c.callee with
    | .value g => match S.ev g with
      | .v (.func (.yield l) ⟨[]⟩ ⟨[]⟩) => some (l, c.args.toList.map S.ev)
      | _ => none
    | _ => none
  | _ => none
section
variable (P : Program) (Γ : FuncId → Option Ctr) (l0 : Nat) (xs : List (List Value))
def runOpsI (ops : Array Oper) (base : Nat → Nat) : List Oper → Nat → Sst → Nat × Bool → (Sst → Nat × Bool → Prop) → Prop
  | [], _, S, m, K => K S m
  | o :: rest, i, S, m, K =>
    match gd ops o S with
    | .yes => match yieldOf o S with
      | some (l, args) => match m with
        | (y, true) => cond (plainL args && o.dst.all fun d => Nat.blt d S.n) (l = l0 ∧ xs[y]? = some (pvL args) ∧ runOpsI ops base rest (i + 1) (S.put o.dst (.bl true)) (y + 1, true) K ∧ runOpsI ops base rest (i + 1) (S.put o.dst (.bl false)) (y, false) K) False
        | (_, false) => False
      | none => cond (isDefer o.op) False (exec1 P Γ ops i o S (base i) fun S' f => runOpsI ops base rest (i + 1) S' m K)
    | .no => cond (o.dst.all fun d => Nat.blt d S.n) (runOpsI ops base rest (i + 1) (S.put o.dst (.v undef)) m K) False
    | .bad => False
structure LoopInvI where
  ι : Type
  p : ι → Prop
  tm : ι → List (Nat × SV)
  hp : ι → List (Nat × SBlk)
  μ : ι → Nat
  y : ι → Nat
structure LoopFamI where
  G : Type
  I : G → LoopInvI
def loopVI (I : LoopInvI) (S : Sst) (m : Nat × Bool) (body : Sst → Nat × Bool → (XE → Sst → Nat × Bool → Prop) → Prop) (K : XE → Sst → Nat × Bool → Prop) : Prop :=
  ∃ x, I.p x ∧ m = (I.y x, true) ∧ andL (Sle 1000 S (I.tm x) (I.hp x) [] []) ∧
        ∀ x, I.p x → body (sstOf 1000 S.n (I.tm x) (I.hp x)) (I.y x, true) fun e S' m' => match e with
          | .normal => cond (Nat.beq S'.n S.n) (∃ y, I.p y ∧ m' = (I.y y, true) ∧ I.μ y < I.μ x ∧ andL (Sle 1000 S' (I.tm y) (I.hp y) [] [])) False
          | e => K e S' m'
def vcI (Ωi : Nat → Option LoopFamI) : Nat → Code → Sst → Nat × Bool → (XE → Sst → Nat × Bool → Prop) → Prop
  | _, .skip, S, m, K => K .normal S m
  | _, .label _, S, m, K => K .normal S m
  | _, .region id ops draw, S, m, K => cond draw (cond (noDefer ops) (runOps P Γ ops (fun i => (id + 1) * 100000 + 8 * i) ops.toList 0 S [] fun S' acc => cond (indep ops acc) (K .normal S' m) False) False) (runOpsI P Γ l0 xs ops (fun i => (id + 1) * 100000 + 8 * i) ops.toList 0 S m fun S' m' => K .normal S' m')
  | k, .seq x y, S, m, K => vcI Ωi k x S m fun e S' m' => match e with
      | .normal => vcI Ωi (k + nloops x) y S' m' K
      | e => K e S' m'
  | k, .cond c x y, S, m, K => match S.ev c with
    | .bl true => vcI Ωi k x S m K
    | .bl false => vcI Ωi (k + nloops x) y S m K
    | .v (.bool v) => (v = true → vcI Ωi k x S m K) ∧ (v = false → vcI Ωi (k + nloops x) y S m K)
    | _ => False
  | k, .block id c, S, m, K => vcI Ωi k c S m fun e S' m' => match e with
    | .exit id' => cond (Nat.beq id' id) (K .normal S' m') (K (.exit id') S' m')
    | e => K e S' m'
  | k, .loop c, S, m, K => match Ωi k with
    | none => False
    | some F => ∃ g, loopVI (F.I g) S m (vcI Ωi (k + 1) c) K
  | _, .exit id, S, m, K => K (.exit id) S m
  | _, .ret, S, m, K => K .ret S m
  | _, _, _, _, _ => False
def endEnd (hp : List (Nat × SBlk)) (S : Sst) (h : List (Nat × SBlk)) : Prop := cond (h.all (fun x => isNil (idsB x.2)) && inL (hp.map (·.1)) (h.map (·.1))) (andL (leHp (keepA h) S h)) False
def endI (hp : List (Nat × SBlk)) (hpE : Nat → List (Nat × SBlk)) (e : XE) (S : Sst) (m : Nat × Bool) : Prop := match e with
  | .exit _ => False
  | _ => match m with
    | (y, a) => match hpE y with
      | [] => match a with
        | true => y = xs.length
        | false => True
      | x :: r => match a with
        | true => y = xs.length ∧ endEnd hp S (x :: r)
        | false => endEnd hp S (x :: r)
def vcFIE (Ωi : Nat → Option LoopFamI) (fn : Func) (cap : List SV) (hp : List (Nat × SBlk)) (hpE : Nat → List (Nat × SBlk)) : Prop :=
  match fn.body with
  | none => False
  | some c => cond (Nat.ble (cap.length + 1) fn.ntmps && nodupB (hp.map (·.1)) && (hp.all fun x => Nat.blt x.1 1000) && isNil fn.results.toList)
    (vcI P Γ l0 xs Ωi 0 c (initS fn (.v (.func (.yield l0) #[] #[]) :: cap) hp) (0, true) fun e S m => endI xs hp hpE e S m) False
end
section
variable {P : Program} {Γ : FuncId → Option Ctr} {l0 : Nat} {xs : List (List Value)}
def Jm (J Jx : Nat → (Nat → Prop) → World → Prop) : Nat × Bool → (Nat → Prop) → World → Prop
  | (y, true) => J y
  | (y, false) => Jx y
structure StI (D0 : Nat → Prop) (β0 : Nat → Option Loc) (J Jx : Nat → (Nat → Prop) → World → Prop) (S : Sst) (m : Nat × Bool) (a : Act) (w : World) : Prop where
  st : ∃ E D β X, St E D β S a w ∧ E.df = [] ∧ (∀ l, E.G l ↔ l < 1000) ∧ (∀ g, Blks S.H β g → X g) ∧ (∀ g, D g → D0 g ∨ X g) ∧ (∀ l L, l < 1000 → E.β0 l = some L → β0 l = some L) ∧ Jm J Jx m X w
variable {D0 : Nat → Prop} {β0 : Nat → Option Loc} {J Jx : Nat → (Nat → Prop) → World → Prop}
structure Steady (J Jx : Nat → (Nat → Prop) → World → Prop) : Prop where
  j : ∀ i X W1 W2, J i X W1 → Tame X W1 W2 → J i (more X W1 W2) W2
  x : ∀ i X W1 W2, Jx i X W1 → Tame X W1 W2 → Jx i (more X W1 W2) W2
theorem StI.begin (hJ : Steady J Jx) {S : Sst} {m : Nat × Bool} {a : Act} {w : World} (h : StI D0 β0 J Jx S m a w) : ∃ E D β, St E D β S a w ∧ (∀ l, E.G l → l < 1000) ∧
    (∀ E' D' β' S' a' w', Desc E E' → a'.defers = [] → St E' D' β' S' a' w' → StI D0 β0 J Jx S' m a' w') ∧ E.df = [] := by
  obtain ⟨E, D, β, X, hs, hdf, hG, hX, hD, hK, hm⟩ := h.st
  obtain ⟨Er, hEr⟩ : ∃ Er : Env, Er = ⟨w, Blks S.H β, D, β, E.G, []⟩ := ⟨_, rfl⟩
  have hr : St Er D β S a w := hs.re (by rw [hEr]) (by rw [hEr]; exact fun _ h => h) (by rw [hEr]; exact fun _ => Iff.rfl) (by rw [hEr]; exact fun _ _ _ h => h) (by rw [hEr]; exact fun l hl => hs.low l hl) rfl (by rw [hEr, hs.df, hdf])
  refine ⟨Er, D, β, hr, by rw [hEr]; exact fun l h => (hG l).1 h, fun E' D' β' S' a' w' hd hda h' => ?_, by rw [hEr]⟩
  have hb := hd.st h'
  rw [hda] at hb
  have t : Tame X w w' := by
    have h1 := hb.grow; have h2 := hb.os; have h3 := hb.tape; have h4 := hb.output
    rw [hEr] at h1 h2 h3 h4
    refine ⟨h1, h2, h3, h4, fun g hg hx => ?_⟩
    have := hb.block g (by rw [hEr]; exact hg) (by rw [hEr]; exact fun h => hx (hX g h))
    rw [this, hEr]
  refine ⟨{ Er with df := [] }, D', β', more X w w', hb, rfl, by rw [hEr]; exact hG, fun g hg => ?_, fun g hg => ?_, fun l L hl hL => ?_, ?_⟩
  · obtain ⟨k1, k2, k3⟩ := hb.blkOld hg
    rw [hEr] at k3
    rcases k3 with k3 | k3
    · exact .inr ⟨k3, k1⟩
    · exact .inl (hX g k3)
  · have k := hb.d1 g hg
    rw [hEr] at k
    rcases k with k | k | k
    · exact (hD g k).imp id .inl
    · exact .inr (.inr ⟨k, hb.dlt g hg⟩)
    · exact .inr (.inl (hX g k))
  · rw [hEr] at hL
    exact hK l L hl (hs.giv l L ((hG l).2 hl) hL)
  · obtain ⟨y, b⟩ := m
    cases b with
    | true => exact hJ.j _ _ _ _ hm t
    | false => exact hJ.x _ _ _ _ hm t
def Rounds (P : Program) (l0 : Nat) (xs : List (List Value)) (D0 : Nat → Prop) (J Jx : Nat → (Nat → Prop) → World → Prop) : Prop :=
  ∀ i X W1 x, xs[i]? = some x → J i X W1 → YieldAt Fence.wide 0 P l0 x.toArray W1 fun e W2 =>
    Tame (fun g => ¬ (X g ∨ D0 g)) W1 W2 ∧ ((e = .returned (.bool true) ∧ J (i + 1) X W2) ∨ (e = .returned (.bool false) ∧ Jx i X W2))
theorem yield_ok (hR : Rounds P l0 xs D0 J Jx) {o : Oper} {S : Sst} {y : Nat} {a : Act} {w : World} {args : List SV} (h : StI D0 β0 J Jx S (y, true) a w) (hy : yieldOf o S = some (l0, args)) (hp : plainL args = true) (hd : (o.dst.all fun d => Nat.blt d S.n) = true)
    (hx : xs[y]? = some (pvL args)) {K : Act → World → Prop} {Q : Exit → Act → World → Prop}
    (h1 : ∀ a w, StI D0 β0 J Jx (S.put o.dst (.bl true)) (y + 1, true) a w → K a w) (h2 : ∀ a w, StI D0 β0 J Jx (S.put o.dst (.bl false)) (y, false) a w → K a w) : o.wpIn (FR none) 0 P a w K Q := by
  obtain ⟨E, D, β, X, hs, hdf, hG, hX, hD, hK, hm⟩ := h.st
  obtain ⟨fn, tmps, az, bd, hrun, hround⟩ := hR y X w _ hx hm
  obtain ⟨dst, op, type, pos, after, guard⟩ := o
  unfold yieldOf at hy
  cases op with
  | call c =>
    obtain ⟨callee, ops, tys⟩ := c
    cases callee with
    | value g =>
      simp only at hy
      split at hy
      · rename_i l e
        simp only [Option.some.injEq, Prod.mk.injEq] at hy
        obtain ⟨rfl, rfl⟩ := hy
        have hg := hs.ev g
        rw [e] at hg
        simp only [Rep] at hg
        have hargs := (Reps.plain _ hp).1 (reps_ops hs ops.toList)
        have hA : ops.map a.eval = (pvL (ops.toList.map S.ev)).toArray := by
          rw [← hargs]; cases ops; simp
        have hex : (execOp a.eval ⟨dst, .call { callee := .value g, args := ops, argTypes := tys }, type, pos, after, guard⟩).run P w = .ok (.round l fn tmps az bd) w := by
          simp only [execOp, resolve, hg, Deferred.ofValue, Sem.run_bind, Sem.run_pure, Result.andThen_ok, invoke]
          rw [hA]
          simpa using hrun
        refine ⟨fun _ _ => trivial, ?_⟩
        have hsem : (Oper.mk dst (.call { callee := .value g, args := ops, argTypes := tys }) type pos after guard).semAt (FR none).round a.eval = execOp a.eval ⟨dst, .call { callee := .value g, args := ops, argTypes := tys }, type, pos, after, guard⟩ := rfl
        rw [hsem, hex, Oper.uponIn_round]
        refine ⟨fun hq => by simp [FR, Fence.wide] at hq, RoundIn.mono hround ?_⟩
        have key : ∀ (b : Bool) (m' : Nat × Bool) W2, Tame (fun g => ¬ (X g ∨ D0 g)) w W2 → Jm J Jx m' X W2 → StI D0 β0 J Jx (S.put dst (.bl b)) m' (a.put dst (.bool b)) W2 := by
          intro b m' W2 ⟨t1, t2, t3, t4, t5⟩ hm'
          obtain ⟨Er, hEr⟩ : ∃ Er : Env, Er = ⟨w, Blks S.H β, D, β, E.G, []⟩ := ⟨_, rfl⟩
          obtain ⟨Ey, hEy⟩ : ∃ Ey : Env, Ey = ⟨W2, Blks S.H β, D, β, E.G, []⟩ := ⟨_, rfl⟩
          have G : Grows D w β D W2 β := ⟨fun _ h => h, fun g hg => t5 g (hs.dlt g hg) fun h => h ((hD g hg).symm), fun _ _ h => h⟩
          have hst : St Ey D β S a W2 := by
            rw [hEy]
            exact {
              size := hs.size
              tm := fun t => (hs.tm t).mono G
              hp := fun l b hb => by
                obtain ⟨L, k1, k2⟩ := hs.hp l b hb
                exact ⟨L, k1, k2.mono G b fun hn => t5 _ (hs.dis l b L hb k1 hn).1 fun h => h (.inl (hX _ ⟨l, b, L, hb, k1, hn, rfl⟩))⟩
              dis := fun l b L hb hL hn => by
                obtain ⟨k1, k2, _⟩ := hs.dis l b L hb hL hn
                exact ⟨Nat.lt_of_lt_of_le k1 t1, k2, .inr ⟨l, b, L, hb, hL, hn, rfl⟩⟩
              inj := hs.inj, dlt := fun g hg => Nat.lt_of_lt_of_le (hs.dlt g hg) t1
              d0 := fun g h => h, d1 := fun g h => .inl h
              dom := hs.dom
              os := rfl, tape := rfl, output := rfl, grow := Nat.le_refl _, block := fun _ _ _ => rfl
              df := by rw [hs.df, hdf]
              low := hs.low
              giv := fun l L _ h => h }
          have hst2 := hst.put (dst := dst) (x := .bl b) (u := .bool b) hd (by simp only [Rep])
          refine ⟨Ey, D, β, X, hst2, by rw [hEy], by rw [hEy]; exact hG, ?_, hD, fun l L hl hL => ?_, hm'⟩
          · cases dst <;> exact hX
          · rw [hEy] at hL
            exact hK l L hl (hs.giv l L ((hG l).2 hl) hL)
        rintro e' W2 ⟨t, ⟨rfl, hj⟩ | ⟨rfl, hj⟩⟩
        · exact h1 _ _ (key true (y + 1, true) W2 t hj)
        · exact h2 _ _ (key false (y, false) W2 t hj)
      · cases hy
    | _ => cases hy
  | _ => cases hy
theorem listI_ok (hΓ : ∀ f c, Γ f = some c → Sound P f c) (hJ : Steady J Jx) (hR : Rounds P l0 xs D0 J Jx) {ops : Array Oper} {base : Nat → Nat} {K : Sst → Nat × Bool → Prop} {Q : Exit → Act → World → Prop}
    (hQ : ∀ S m a w, K S m → StI D0 β0 J Jx S m a w → Q .normal a w) : ∀ (l : List Oper) (i : Nat) (S : Sst) (m : Nat × Bool) (a : Act) (w : World),
    runOpsI P Γ l0 xs ops base l i S m K → StI D0 β0 J Jx S m a w → wpListIn (FR none) 0 P ops Q l a w
  | [], i, S, m, a, w, h, hs => hQ S m a w h hs
  | o :: rest, i, S, m, a, w, h, hs => by
    unfold runOpsI at h
    unfold wpListIn
    obtain ⟨E, D, β, hst, hG, hback, hdf⟩ := hs.begin hJ
    have hg := gd_ok hst ops o
    split at h
    · rename_i eg
      rw [eg] at hg
      simp only at hg
      rw [if_pos hg]
      split at h
      · rename_i l args hy
        split at h
        · rename_i y
          cases hc : plainL args && o.dst.all fun d => Nat.blt d S.n
          · rw [hc] at h; exact h.elim
          rw [hc] at h
          simp only [cond_true] at h
          rw [Bool.and_eq_true] at hc
          obtain ⟨hl, hx, ht, hf⟩ := h
          rw [hl] at hy
          exact yield_ok hR hs hy hc.1 hc.2 hx (fun a w h' => listI_ok hΓ hJ hR hQ rest (i + 1) _ _ a w ht h') (fun a w h' => listI_ok hΓ hJ hR hQ rest (i + 1) _ _ a w hf h')
        · exact h.elim
      · cases hdn : isDefer o.op
        · rw [hdn] at h
          simp only [cond_false] at h
          obtain ⟨e, f, hx, hk⟩ := ex_of_exec1 eg h
          have := ex_ok (Q := Q) hΓ hst hx (K' := wpListIn (FR none) 0 P ops Q rest) fun D' β' a' w' h' =>
            listI_ok hΓ hJ hR hQ rest (i + 1) _ _ a' w' hk (hback E D' β' _ a' w' (Desc.refl E) (by rw [h'.df, hdf]) h')
          rw [if_pos hg] at this
          exact oper_in hdn this
        · rw [hdn] at h; exact h.elim
    · rename_i eg
      rw [eg] at hg
      simp only at hg
      rw [if_neg (by rw [hg]; simp)]
      cases hc : o.dst.all fun d => Nat.blt d S.n
      · rw [hc] at h; exact h.elim
      rw [hc] at h
      simp only [cond_true] at h
      have h' := hst.put (u := undef) hc (by simp only [Rep] : Rep D w β (.v undef) undef)
      refine ⟨fun _ _ => trivial, listI_ok hΓ hJ hR hQ rest (i + 1) _ _ _ w h (hback E D β _ _ w (Desc.refl E) (by rw [h'.df, hdf]) h')⟩
    · exact h.elim
theorem vcI_ok (hΓ : ∀ f c, Γ f = some c → Sound P f c) (hm : P.follows .mixedOrders = true) (hJ : Steady J Jx) (hR : Rounds P l0 xs D0 J Jx) {Ωi : Nat → Option LoopFamI} (c : Code) :
    ∀ (k : Nat) (S : Sst) (m : Nat × Bool) (K : XE → Sst → Nat × Bool → Prop) (a : Act) (w : World) (Q : Exit → Act → World → Prop),
    vcI P Γ l0 xs Ωi k c S m K → StI D0 β0 J Jx S m a w → (∀ e S m a w, K e S m → StI D0 β0 J Jx S m a w → Q e.ex a w) → c.wpIn (FR none) 0 P Q a w := by
  induction c with
  | skip => intro k S m K a w Q h hs hq; simp only [vcI] at h; exact wpIn_skip (hq .normal S m a w h hs)
  | label l => intro k S m K a w Q h hs hq; simp only [vcI] at h; exact wpIn_label (hq .normal S m a w h hs)
  | exit id => intro k S m K a w Q h hs hq; simp only [vcI] at h; exact wpIn_exit (hq (.exit id) S m a w h hs)
  | ret => intro k S m K a w Q h hs hq; simp only [vcI] at h; exact wpIn_ret (hq .ret S m a w h hs)
  | region id ops draw =>
    intro k S m K a w Q h hs hq
    simp only [vcI] at h
    cases draw
    · exact wpIn_region_list (listI_ok hΓ hJ hR (fun S' m' a' w' hk hs' => hq .normal S' m' a' w' hk hs') ops.toList 0 S m a w h hs)
    · simp only [cond_true] at h
      cases hnd : noDefer ops
      · rw [hnd] at h; exact h.elim
      rw [hnd] at h
      simp only [cond_true] at h
      obtain ⟨E, D, β, hst, hG, hback, hdf⟩ := hs.begin hJ
      obtain ⟨Q', hQ'⟩ : ∃ Q' : Exit → Act → World → Prop, Q' = fun e a w => e ≠ .outgrown ∧ Q e a w := ⟨_, rfl⟩
      have hL : ¬ LetsOut Q' := by
        rintro ⟨a, w, h⟩
        rw [hQ'] at h
        exact h.1 rfl
      refine wpIn_mono (Q := Q') ?_ (fun e a w h => by rw [hQ'] at h; exact h.2)
      obtain ⟨fs, Sn, h1, h2, h3⟩ := chain_of_runOps _ _ _ _ h
      rw [List.nil_append] at h3
      cases hi : indep ops fs
      · rw [hi] at h3; exact h3.elim
      rw [hi] at h3
      refine wpIn_region_any hm (any_in hL hnd _ _ _ _ (region_any hΓ h1 h2 hi hst fun D' β' a' w' h' => ?_))
      rw [hQ']
      exact ⟨by simp, hq .normal Sn m a' w' h3 (hback E D' β' Sn a' w' (Desc.refl E) (by rw [h'.df, hdf]) h')⟩
  | seq x y ihx ihy =>
    intro k S m K a w Q h hs hq
    simp only [vcI] at h
    refine wpIn_seq (ihx k S m _ a w _ h hs fun e S' m' a' w' he hs' => ?_)
    cases e with
    | normal => exact ihy _ S' m' K a' w' Q he hs' hq
    | exit id => exact hq (.exit id) S' m' a' w' he hs'
    | ret => exact hq .ret S' m' a' w' he hs'
  | cond c x y ihx ihy =>
    intro k S m K a w Q h hs hq
    simp only [vcI] at h
    obtain ⟨E, D, β, hst, _⟩ := hs.begin hJ
    have hc := hst.ev c
    split at h
    · rename_i e
      rw [e] at hc
      exact wpIn_cond_true hc (ihx _ _ _ _ _ _ _ h hs hq)
    · rename_i e
      rw [e] at hc
      exact wpIn_cond_false hc (ihy _ _ _ _ _ _ _ h hs hq)
    · rename_i v e
      rw [e] at hc
      exact wpIn_cond_split hc (fun hb => ihx _ _ _ _ _ _ _ (h.1 hb) hs hq) (fun hb => ihy _ _ _ _ _ _ _ (h.2 hb) hs hq)
    · exact h.elim
  | block id c ih =>
    intro k S m K a w Q h hs hq
    simp only [vcI] at h
    refine wpIn_block (ih k S m _ a w _ h hs fun e S' m' a' w' he hs' => ?_)
    cases e with
    | normal => exact hq .normal S' m' a' w' he hs'
    | exit id' =>
      simp only [XE.ex, Exit.inBlock]
      by_cases hid : id' = id
      · subst hid
        simp only [Nat.beq_refl, cond_true] at he
        rw [if_pos rfl]
        exact hq .normal S' m' a' w' he hs'
      · have : Nat.beq id' id = false := by
          cases hb : Nat.beq id' id
          · rfl
          · exact absurd (Nat.eq_of_beq_eq_true hb) hid
        simp only [this, cond_false] at he
        rw [if_neg hid]
        exact hq (.exit id') S' m' a' w' he hs'
    | ret => exact hq .ret S' m' a' w' he hs'
  | loop c ih =>
    intro k S m K a w Q h hs hq
    simp only [vcI] at h
    cases hI : Ωi k with
    | none => rw [hI] at h; exact h.elim
    | some F =>
      rw [hI] at h
      simp only at h
      obtain ⟨g, h⟩ := h
      obtain ⟨I, hI'⟩ : ∃ I, I = F.I g := ⟨_, rfl⟩
      rw [← hI'] at h
      unfold loopVI at h
      obtain ⟨x, hx, hm0, hsle, hround⟩ := h
      have sle : ∀ {S' : Sst} {tm hp m' a' w'}, StI D0 β0 J Jx S' m' a' w' → andL (Sle 1000 S' tm hp [] []) → StI D0 β0 J Jx (sstOf 1000 S'.n tm hp) m' a' w' := by
        intro S' tm hp m' a' w' h h'
        obtain ⟨E, D, β, X, hs, hdf, hG, hX, hD, hK, hm⟩ := h.st
        obtain ⟨β2, hs2, himg, _⟩ := Sle_ok (fun l h => (hG l).1 h) hs h'
        refine ⟨E, D, β2, X, hs2, hdf, hG, ?_, hD, hK, hm⟩
        rintro g ⟨l, b, L, k1, k2, k3, rfl⟩
        obtain ⟨a1, b1, _, k5, k6⟩ := himg l L k2 k3
        exact hX _ ⟨a1, b1, L, k5, k6, k3, rfl⟩
      refine wpIn_loop_ghost (fun n a w => ∃ x, I.p x ∧ I.μ x = n ∧ StI D0 β0 J Jx (sstOf 1000 S.n (I.tm x) (I.hp x)) (I.y x, true) a w) (I.μ x) ⟨x, hx, rfl, hm0 ▸ sle hs hsle⟩ ?_
      rintro n a w ⟨x, hx, rfl, hs⟩
      refine ih (k + 1) _ _ _ a w _ (hround x hx) hs fun e S' m' a' w' he hs' => ?_
      cases e with
      | normal =>
        simp only [XE.ex, Exit.then]
        simp only at he
        cases hb : Nat.beq S'.n S.n
        · rw [hb] at he; exact he.elim
        · rw [hb] at he
          obtain ⟨y, hy, hm1, hlt, hsle⟩ := he
          have := sle hs' hsle
          rw [Nat.eq_of_beq_eq_true hb, hm1] at this
          exact ⟨I.μ y, hlt, y, hy, rfl, this⟩
      | exit id => exact hq (.exit id) S' m' a' w' he hs'
      | ret => exact hq .ret S' m' a' w' he hs'
  | _ => intro k S m K a w Q h; simp only [vcI] at h
theorem isatE_of_vcI (hΓ : ∀ f c, Γ f = some c → Sound P f c) (hm : P.follows .mixedOrders = true) {Ωi : Nat → Nat → Option LoopFamI} {f : FuncId} {fn : Func} (hf : P.funcs[f]? = some fn) (hcb : callable P f = true) {cap : List SV} {hp : List (Nat × SBlk)} {hpE : Nat → List (Nat × SBlk)}
    (h : ∀ l0, vcFIE P Γ l0 xs (Ωi l0) fn cap hp hpE) : ISatE P f cap hp xs hpE := by
  refine ⟨hcb, fun l D β w us hargs hhp hD hβ J Jx hJ hJx hR h0 => ?_⟩
  have h := h l
  unfold vcFIE at h
  cases hb : fn.body with
  | none => rw [hb] at h; exact h.elim
  | some c =>
  rw [hb] at h
  simp only at h
  cases hq : Nat.ble (cap.length + 1) fn.ntmps && nodupB (hp.map (·.1)) && (hp.all fun x => Nat.blt x.1 1000) && isNil fn.results.toList
  · rw [hq] at h; exact h.elim
  rw [hq] at h
  simp only [cond_true] at h
  simp only [Bool.and_eq_true] at hq
  obtain ⟨⟨⟨q1, q2⟩, q3⟩, q4⟩ := hq
  have q1 := Nat.le_of_ble_eq_true q1
  have hlen := Reps.len cap hargs
  have hargs' : Reps D w β (.v (.func (.yield l) #[] #[]) :: cap) (.func (.yield l) #[] #[] :: us) := by
    simp only [Reps]
    exact ⟨_, _, rfl, by simp only [Rep], hargs⟩
  obtain ⟨args, hargsE⟩ : ∃ args, args = SV.v (.func (.yield l) #[] #[]) :: cap := ⟨_, rfl⟩
  obtain ⟨vs, hvs⟩ : ∃ vs, vs = Value.func (.yield l) #[] #[] :: us := ⟨_, rfl⟩
  rw [← hargsE, ← hvs] at hargs'
  rw [← hargsE] at h
  rw [← hvs]
  have hlen' := Reps.len args hargs'
  have hal : args.length ≤ fn.ntmps := by rw [hargsE]; simpa using q1
  obtain ⟨E, hE⟩ : ∃ E : Env, E = ⟨w, Given β hp, D, β, fun l => l < 1000, []⟩ := ⟨_, rfl⟩
  have hst : St E D β (initS fn args hp) { tmps := vs.toArray ++ Array.replicate (fn.ntmps - vs.toArray.size) undef, defers := [] } w := by
    subst hE
    exact {
      size := by simp [initS]; omega
      tm := fun t => by
        simp only [initS]
        rw [Array.getD_eq_getD_getElem?]
        rcases Nat.lt_or_ge t args.length with ht | ht
        · obtain ⟨u, h1, h2⟩ := Reps.get args t args[t] hargs' (by simp [ht])
          have h3 : (vs.toArray ++ Array.replicate (fn.ntmps - vs.toArray.size) undef)[t]? = some u := by
            rw [Array.getElem?_append_left (by simpa using hlen' ▸ ht)]
            simpa using h1
          rw [h3]
          simp only [Option.getD_some, List.getD_eq_getElem?_getD, List.getElem?_eq_getElem ht]
          exact h2
        · have h3 : ((vs.toArray ++ Array.replicate (fn.ntmps - vs.toArray.size) undef)[t]?).getD undef = undef := by
            rw [Array.getElem?_append_right (by simpa using hlen' ▸ ht), Array.getElem?_replicate]
            split <;> rfl
          rw [h3, List.getD_eq_getElem?_getD, List.getElem?_eq_none ht]
          simp only [Option.getD_none, Rep]
      hp := fun l b hl => by
        obtain ⟨L, h1, h2, _⟩ := hhp.1 l b (lookupL_mem hl)
        exact ⟨L, h1, h2⟩
      dis := fun l b L hl hL hni => by
        obtain ⟨L', h1, h2, h3⟩ := hhp.1 l b (lookupL_mem hl)
        rw [hL] at h1
        cases h1
        exact ⟨(h3 hni).2, (h3 hni).1, .inr ⟨l, b, L, lookupL_mem hl, hL, hni, rfl⟩⟩
      inj := fun l l' b b' L L' hl hl' => hhp.2 l l' b b' L L' (lookupL_mem hl) (lookupL_mem hl')
      dlt := hD, d0 := fun g h => h, d1 := fun g h => .inl h
      dom := fun l hl => by
        simp only [initS, Bool.or_eq_false_iff] at hl
        cases hx : β l with
        | none => rfl
        | some L =>
          have := hasN_iff.2 (hβ l (by rw [hx]; simp))
          rw [this] at hl
          cases hl.2
      os := rfl, tape := rfl, output := rfl, grow := Nat.le_refl _, block := fun _ _ _ => rfl, df := rfl
      low := fun l hl => by
        simp only [initS]
        have : Nat.blt l 1000 = true := Nat.ble_eq_true_of_le hl
        rw [this]; rfl
      giv := fun l L _ hL => hL }
  have hsI : StI D β J Jx (initS fn args hp) (0, true) { tmps := vs.toArray ++ Array.replicate (fn.ntmps - vs.toArray.size) undef, defers := [] } w := by
    refine ⟨E, D, β, Given β hp, hst, by rw [hE], by rw [hE]; exact fun l => Iff.rfl, ?_, fun g hg => .inl hg, by rw [hE]; exact fun l L _ h => h, h0⟩
    rintro g ⟨l, b, L, k1, k2, k3, k4⟩
    exact ⟨l, b, L, lookupL_mem k1, k2, k3, k4⟩
  refine callsIn_wide.1 (callsIn_of_wp (n := 0) hf hb trivial ?_)
  refine vcI_ok hΓ hm ⟨hJ, hJx⟩ hR c 0 _ _ _ _ w _ h hsI fun e S m a w' he hs => ?_
  obtain ⟨E', D', β', X, hs', hdf', hG', hX', hD', hK', hmm⟩ := hs.st
  have hres : (results fn a.tmps).run P w' = .ok (tupV []) w' := by
    refine results_run (us := []) ?_
    rw [isNil_iff.1 q4]
    simp
  obtain ⟨y, al⟩ := m
  have ends : ∀ {hE : List (Nat × SBlk)}, endEnd hp S hE → EndAt β D X w' hE := by
    intro hE h
    unfold endEnd at h
    cases hc : hE.all (fun x => isNil (idsB x.2)) && inL (hp.map (·.1)) (hE.map (·.1))
    · rw [hc] at h; exact h.elim
    rw [hc, cond_true] at h
    rw [Bool.and_eq_true] at hc
    have h := andL_all h
    refine ⟨D', fun g hg => ⟨hD' g hg, hs'.dlt g hg⟩, fun l b hl => ?_⟩
    have hk : l ∈ hp.map (·.1) := inL_iff.1 hc.2 l (List.mem_map.2 ⟨_, hl, rfl⟩)
    have hlt : l < 1000 := by
      obtain ⟨x, hx, rfl⟩ := List.mem_map.1 hk
      exact Nat.le_of_ble_eq_true (List.all_eq_true.1 q3 x hx)
    have nn : ∀ l, lookupL (keepA hE) l = some none → ∃ t d, lookupL hE l = some (.row t d) := fun l hl => by obtain ⟨h, _⟩ := lookup_keepA hl; cases h
    rcases leHp_of h hl with ⟨a', b', e1, e2, e3⟩ | ⟨e1, _⟩
    · obtain ⟨k1, _⟩ := lookup_keepA e1
      cases k1
      obtain ⟨L, k1, k2⟩ := hs'.hp l b' e2
      refine ⟨L, hK' l L hlt (hs'.giv l L ((hG' l).2 hlt) k1), ?_, fun hn => ?_⟩
      · have h1 := leB_ok nn e3 k2
        have hi : ∀ k ∈ idsB b, k ∈ ([] : List Nat) := fun k hk => by
          have := List.all_eq_true.1 hc.1 _ hl
          simp only at this
          rw [isNil_iff.1 this] at hk
          exact hk
        refine (BlkRep.cut b hi h1).mono ⟨fun _ h => h, fun _ _ => rfl, fun l L hL => ?_⟩ b fun _ => rfl
        unfold cutβ at hL
        rw [if_neg (by simp)] at hL
        cases hL
      · obtain ⟨j1, j2, _⟩ := hs'.dis l b' L e2 k1 hn
        exact ⟨j2, hX' _ ⟨l, b', L, e2, k1, hn, rfl⟩, j1⟩
    · obtain ⟨h, _⟩ := lookup_keepA e1
      cases h
  have nilE : EndAt β D X w' [] := ⟨fun _ => False, fun g hg => hg.elim, fun l b hl => by cases hl⟩
  have fin : endI xs hp hpE e S (y, al) → (al = true → y = xs.length) ∧ EndAt β D X w' (hpE y) := by
    intro h
    unfold endI at h
    split at h
    · exact h.elim
    · simp only at h
      cases hy : hpE y with
      | nil =>
        rw [hy] at h
        refine ⟨fun ha => ?_, nilE⟩
        rw [ha] at h
        exact h
      | cons x r =>
        rw [hy] at h
        cases al with
        | true => exact ⟨fun _ => h.1, ends h.2⟩
        | false => exact ⟨(fun ha => by cases ha), ends h⟩
  obtain ⟨f1, f2⟩ := fin he
  have post : a.defers = [] ∧ ∃ v, (results fn a.tmps).run P w' = .ok v w' ∧ (∃ v', Ending.returned v = .returned v') ∧ ((∃ X, J xs.length X w' ∧ EndAt β D X w' (hpE xs.length)) ∨ ∃ X i, Jx i X w' ∧ EndAt β D X w' (hpE i)) := by
    refine ⟨by rw [hs'.df, hdf'], _, hres, ⟨_, rfl⟩, ?_⟩
    cases al with
    | true =>
      have := f1 rfl
      subst this
      exact .inl ⟨X, hmm, f2⟩
    | false => exact .inr ⟨X, y, hmm, f2⟩
  cases e with
  | normal => exact post
  | ret => exact post
  | exit id => exact he.elim
theorem ISatE.ren {f : FuncId} {cap : List SV} {hp : List (Nat × SBlk)} {hpE : Nat → List (Nat × SBlk)} (h : ISatE P f cap hp xs hpE) (ρ : Nat → Nat)
    (hi : ∀ a b, a ∈ hp.map (·.1) → b ∈ hp.map (·.1) → ρ a = ρ b → a = b)
    (hc : inL (hp.map (·.1)) (idsL cap) = true) (hb : hp.all (fun x => inL (hp.map (·.1)) (idsB x.2)) = true) : ISatE P f (renL ρ cap) (renH ρ hp) xs (fun i => renH ρ (hpE i)) := by
  refine ⟨h.1, fun l D β w us hargs hhp hD hβ J Jx hJ hJx hR h0 => ?_⟩
  obtain ⟨β0, hβ0⟩ : ∃ β0 : Nat → Option Loc, β0 = cutβ (fun l => β (ρ l)) (hp.map (·.1)) := ⟨_, rfl⟩
  have in0 : ∀ {l}, l ∈ hp.map (·.1) → β0 l = β (ρ l) := fun hl => by rw [hβ0]; exact if_pos hl
  have out0 : ∀ {l}, l ∉ hp.map (·.1) → β0 l = none := fun hl => by rw [hβ0]; exact if_neg hl
  have hc := inL_iff.1 hc
  have hb : ∀ l b, (l, b) ∈ hp → ∀ k ∈ idsB b, k ∈ hp.map (·.1) := fun l b hl => inL_iff.1 (List.all_eq_true.1 hb (l, b) hl)
  have a0 : Reps D w β0 cap us := by rw [hβ0]; exact Reps.cut cap hc ((Reps.ren cap).1 hargs)
  have giv : Given β (renH ρ hp) = Given β0 hp := by
    funext g
    refine propext ⟨?_, ?_⟩
    · rintro ⟨l, b, L, h1, h2, h3, h4⟩
      obtain ⟨k, c, k1, rfl, rfl⟩ := renH_mem.1 h1
      exact ⟨k, c, L, k1, by rw [in0 (mem_keys.2 ⟨c, k1⟩)]; exact h2, h3, h4⟩
    · rintro ⟨k, c, L, h1, h2, h3, h4⟩
      rw [in0 (mem_keys.2 ⟨c, h1⟩)] at h2
      exact ⟨ρ k, renB ρ c, L, renH_mem.2 ⟨k, c, h1, rfl, rfl⟩, h2, h3, h4⟩
  have p0 : HpOk D w β0 hp := by
    refine ⟨fun l b hl => ?_, fun l l' b b' L L' hl hl' hL hL' m1 m2 hg => ?_⟩
    · obtain ⟨L, h1, h2, h3⟩ := hhp.1 (ρ l) (renB ρ b) (renH_mem.2 ⟨l, b, hl, rfl, rfl⟩)
      refine ⟨L, by rw [in0 (mem_keys.2 ⟨b, hl⟩)]; exact h1, ?_, h3⟩
      rw [hβ0]
      exact BlkRep.cut b (hb l b hl) ((BlkRep.ren b).1 h2)
    · rw [in0 (mem_keys.2 ⟨b, hl⟩)] at hL
      rw [in0 (mem_keys.2 ⟨b', hl'⟩)] at hL'
      exact hi _ _ (mem_keys.2 ⟨b, hl⟩) (mem_keys.2 ⟨b', hl'⟩) (hhp.2 (ρ l) (ρ l') _ _ L L' (renH_mem.2 ⟨l, b, hl, rfl, rfl⟩) (renH_mem.2 ⟨l', b', hl', rfl, rfl⟩) hL hL' m1 m2 hg)
  have en : ∀ {X W' hE}, EndAt β0 D X W' hE → EndAt β D X W' (renH ρ hE) := by
    rintro X W' hE ⟨D2, k1, k2⟩
    refine ⟨D2, k1, fun l b hl => ?_⟩
    obtain ⟨k, c, hk, rfl, rfl⟩ := renH_mem.1 hl
    obtain ⟨L, m1, m2, m3⟩ := k2 k c hk
    by_cases hm : k ∈ hp.map (·.1)
    · rw [in0 hm] at m1
      exact ⟨L, m1, (BlkRep.ren c).2 m2, m3⟩
    · rw [out0 hm] at m1
      cases m1
  refine (h.2 l D β0 w us a0 p0 hD (fun l hl => by
    by_cases hm : l ∈ hp.map (·.1)
    · exact hm
    · exact absurd (out0 hm) hl) J Jx hJ hJx hR (giv ▸ h0)).mono ?_
  rintro e W' ⟨h1, h2⟩
  exact ⟨h1, h2.imp (fun ⟨X, k1, k2⟩ => ⟨X, k1, en k2⟩) (fun ⟨X, i, k1, k2⟩ => ⟨X, i, k1, en k2⟩)⟩
theorem ISat.ren {f : FuncId} {cap : List SV} {hp : List (Nat × SBlk)} (h : ISat P f cap hp xs) (ρ : Nat → Nat)
    (hi : ∀ a b, a ∈ hp.map (·.1) → b ∈ hp.map (·.1) → ρ a = ρ b → a = b)
    (hc : inL (hp.map (·.1)) (idsL cap) = true) (hb : hp.all (fun x => inL (hp.map (·.1)) (idsB x.2)) = true) : ISat P f (renL ρ cap) (renH ρ hp) xs := ISatE.ren h ρ hi hc hb
end
end Go.Proofs.YtbfdchahapajaaaGreatDoor
namespace Go.Proofs.YtbfdchahapajaaaGreatDoor
open Go.RowKit
set_option linter.unusedVariables false
set_option linter.unusedSimpArgs false
def Old (W : World) : Nat → Prop := fun g => g < W.heap.size
def NoLoc : Nat → Option Loc := fun _ => none
theorem calls_of_sat {P : Program} {f : FuncId} {args : List SV} {us : List Value} {ret : SV} {hp' : List (Nat × SBlk)} {W : World} (h : Sat P f args [] ret hp') (ha : Reps (Old W) W NoLoc args us) :
    Calls P f us.toArray W fun e w' => ∃ v D' β', e = .returned v ∧ Rep D' w' β' ret v ∧ Below W.heap.size W w' := by
  refine (h (Old W) NoLoc W us ha ⟨fun l b hl => (by cases hl), fun l l' b b' L L' hl => (by cases hl)⟩ (fun g hg => hg) (fun l hl => absurd rfl hl)).mono ?_
  rintro e w' ⟨v, D', β', he, ha⟩
  refine ⟨v, D', β', he, ha.ret, ha.os, ha.tape, ha.output, ha.size, fun k hk => ha.block k hk ?_⟩
  rintro ⟨l, b, L, hl, _⟩
  cases hl
theorem law_true {P : Program} {f : FuncId} {args : List SV} {us : List Value} {ret : SV} {hp' : List (Nat × SBlk)} {W : World} (h : Sat P f args [] ret hp') (hr : ret = .bl true ∨ ret = .v (.bool true)) (ha : Reps (Old W) W NoLoc args us) :
    Calls P f us.toArray W fun e w' => e = .returned (.bool true) ∧ Below W.heap.size W w' := by
  refine (calls_of_sat h ha).mono ?_
  rintro e w' ⟨v, D', β', he, hv, hb⟩
  rcases hr with rfl | rfl <;> (simp only [Rep] at hv; subst hv; exact ⟨he, hb⟩)
end Go.Proofs.YtbfdchahapajaaaGreatDoor
