/-
  The law FrameReads returns true at every input and leaves its arguments as they were. Conditions: none.
-/
import Derived.Test.YtegnkfbnmepmpaaGreatDoorK12
import Derived.Test.YtegnkfbnmepmpaaGreatDoorTie
import Derived.Test.YtegnkfbnmepmpaaGreatDoorCards
import Derived.ChangeVars
import Derived.JoinedOf
import Derived.LaidLaws
import Derived.LaidHandle
import Derived.Stop.Joined
import Derived.SevenTiedAt
namespace Go.Proofs.YtegnkfbnmepmpaaGreatDoor.frameReads
open Go.ChangeShapes Go.WideShapes Go.ChangeAt Go.RowKit Go.Joins
open Go.ChangeMaps (open_string shut_string)
set_option linter.unusedVariables false
theorem own : ownKnob Tryz.prog.godebug = none := by kernel_rfl
theorem laidOut : laidOutB Tryz.prog = true := by kernel_rfl
theorem et : Tryz.prog.globalNamed "errors.errorType" = some 1 := by kernel_rfl
theorem rt : (Tryz.prog.cutTypes.find? (·.1 == "internal/reflectlite.rtype")).map (·.2) = some 360 := by kernel_rfl
theorem oneRow : ((List.range Tryz.prog.types.size).filter fun t => Tryz.prog.rowNamed t [101, 114, 114, 111, 114]) = [126] := by kernel_rfl
theorem laid_of {W : World} (h : laidMetH Tryz.prog [("errors.errorType", Rows.laid_errors_errorType)] W) : Laid (G' W) W := by
  have h' : laidMet Tryz.prog [] W ∧ handlesMet Tryz.prog [("errors.errorType", Rows.laid_errors_errorType)] W := h
  obtain ⟨name, u, ty, e1, e2, e3, e4, e5⟩ := h'.2 _ (List.mem_singleton.2 rfl)
  have en : name = [101, 114, 114, 111, 114] := (Option.some.inj e1).symm
  subst en
  obtain rfl := Option.some.inj (rt.symm.trans e2)
  have hm : ty ∈ (List.range Tryz.prog.types.size).filter fun t => Tryz.prog.rowNamed t [101, 114, 114, 111, 114] := List.mem_filter.2 ⟨List.mem_range.2 e3, e4⟩
  rw [oneRow] at hm
  obtain rfl := List.mem_singleton.1 hm
  have hh : typeHandle Tryz.prog 126 = .pointer (some ⟨2, 126, none⟩) := by kernel_rfl
  rw [hh] at e5
  have c0 : W.cell? ⟨1, 0, none⟩ = some (.iface 360 (.agg #[.pointer (some ⟨2, 126, none⟩)])) := by simpa using World.var?_cell et e5 0
  have c : W.cell? ⟨1, 0, none⟩ = some Nj := c0
  refine ⟨?_, c⟩
  rcases Nat.lt_or_ge 1 W.heap.size with k | k
  · exact k
  · have n : W.heap[1]? = none := Array.getElem?_eq_none k
    simp [World.cell?, n] at c
noncomputable def laidWorld (os : Os) (args : Array Value) : World :=
  let w0 := World.holding Tryz.prog os ⟨#[], args, []⟩
  { w0 with heap := w0.heap.modify 1 fun
      | .cells _ t frozen => .cells #[.iface 360 (.agg #[.pointer (some ⟨2, 126, none⟩)])] t frozen
      | o => o }
theorem laidWorld_met (os : Os) (args : Array Value) : laidMetH Tryz.prog [("errors.errorType", Rows.laid_errors_errorType)] ((laidWorld os args).forCall (fun _ _ => 0) ⟨#[], args, []⟩).memory :=
  laidMetH_of_parts (laidMet_nil _ _) (by kernel_rfl)
set_option maxRecDepth 100000 in
theorem lifted (os : Os) (started : os.Started) (H : Type) (enc : TypeId × Value → H) :
    ReturnsInHanded {} Tryz.checked os 3 .any (fun w args => (Rows.frameReadsSpec.pre enc Tryz.prog Tryz.f3 Rows.frameReadsRow.domain false w args ∧ laidMetH Tryz.prog [("errors.errorType", Rows.laid_errors_errorType)] w) ∧ sizedMet enc Tryz.prog Tryz.f3 (OpenSpec.ofChange Rows.frameReadsSpec) false w args) (Rows.frameReadsSpec.post enc Tryz.prog Tryz.f3 false true false false) := by
  refine returnsInHanded_of_change_and (C := Tryz.checked) (X := fun w _ => laidMetH Tryz.prog [("errors.errorType", Rows.laid_errors_errorType)] w) (fun _ _ _ hh h => h.of_heap hh) own started (by kernel_rfl) Tryz.func3
    (ChangeSpec.witness_at (enc := enc) (C := Tryz.checked) (os := os) (X := fun w _ => laidMetH Tryz.prog [("errors.errorType", Rows.laid_errors_errorType)] w) false (laidWorld os #[.string ByteArray.empty, .int .i64 0, .int .i64 0]) #[.string ByteArray.empty, .int .i64 0, .int .i64 0] 8 rfl (by kernel_rfl) (by kernel_rfl) (by kernel_rfl) (by kernel_rfl) (by kernel_rfl) (laidWorld_met os _)) ?_
  intro W base args ds gs before hval0 hW _ _ hL _
  have hval : ∀ (j : Nat) t v, Tryz.f3.params[j]? = some t → args[j]? = some v → Value.okWide Tryz.prog W .any base t v := hval0
  have hW' := hW
  obtain ⟨p, q, hA0, hV, rfl, hfz, hnd⟩ := hW
  have hA : DataW.TrodAll enc Tryz.prog W 0 (fun _ => true) true Tryz.f3.params.toList args.toList ds p := hA0
  rw [Tryz.params3] at hA hval
  obtain ⟨v0, vs0, d0, ds0, p0, q0, hargs, rfl, rfl, h0, r0⟩ := trodAll_cons hA
  obtain ⟨v1, vs1, d1, ds1, p1, q1, rfl, rfl, rfl, h1, r1⟩ := trodAll_cons r0
  obtain ⟨v2, vs2, d2, ds2, p2, q2, rfl, rfl, rfl, h2, r2⟩ := trodAll_cons r1
  obtain ⟨rfl, rfl, rfl⟩ := trodAll_nil r2
  obtain rfl : args = #[v0, v1, v2] := by cases args; simp_all
  obtain ⟨rfl, rfl⟩ := trodVars_none hV
  have k0 := h0
  have KQ : ∀ x ∈ p0, x.block < W.heap.size := by obtain ⟨m, hm⟩ := k0; exact DataW.trod_lt m _ _ _ hm
  have k1 := h1
  have KR : ∀ x ∈ p1, x.block < W.heap.size := by obtain ⟨m, hm⟩ := k1; exact DataW.trod_lt m _ _ _ hm
  have k2 := h2
  have KS : ∀ x ∈ p2, x.block < W.heap.size := by obtain ⟨m, hm⟩ := k2; exact DataW.trod_lt m _ _ _ hm
  obtain ⟨a0, rfl, rfl, rfl, w0⟩ := open_string Tryz.underlying9 (hval 0 9 v0 rfl rfl) h0
  obtain ⟨a1, rfl, rfl, rfl, w1⟩ := open_int Tryz.underlying3 (hval 1 3 v1 rfl rfl) h1
  obtain ⟨a2, rfl, rfl, rfl, w2⟩ := open_int Tryz.underlying3 (hval 2 3 v2 rfl rfl) h2
  clear hA0 hval0
  refine (aCG a0 a1 a2 W (by unfold maxLen at w0; omega) (bounds_i64 w1) (bounds_i64 w2) (laid_of hL)).mono fun e W' ⟨he, bel⟩ => ?_
  subst he
  exact ⟨_, rfl, _, _, _, [], _, [], hW', trodAll_mk1 (shut_bool Tryz.underlying4 _), (trodAll_cons_mk (Below.trod laidOut (by kernel_rfl) (of_decide_eq_true (by kernel_rfl)) k0 bel KQ) (trodAll_cons_mk (Below.trod laidOut (by kernel_rfl) (of_decide_eq_true (by kernel_rfl)) k1 bel KR) (trodAll_cons_mk (Below.trod laidOut (by kernel_rfl) (of_decide_eq_true (by kernel_rfl)) k2 bel KS) trodAll_mk0))), rfl, bel.frame _, fun h => by cases h⟩
theorem andT {a b : Bool} (h : a = true) (g : b = true) : (a && b) = true := by rw [h, g]; rfl
noncomputable abbrev PP := Tryz.pinned.checked.prog
noncomputable abbrev cL := Rows.frameReadsRow
noncomputable abbrev fL := Tryz.f3
abbrev sL := Rows.frameReadsSpec
theorem g1 : cL.wf (OpenSpec.ofChange sL) = true := by kernel_rfl
theorem g2 : laidOutB PP = true := by kernel_rfl
theorem g3 : mapsRowed PP = true := by kernel_rfl
theorem g4 : fL.params.all (PP.readableRec ·) = true := by kernel_rfl
theorem g5 : namedTie PP cL.named sL.vars = true := by kernel_rfl
theorem g6 : (cL.stops == []) = true := by kernel_rfl
theorem g7 : (PP.stops == []) = true := by kernel_rfl
theorem g8 : (cL.knobs == []) = true := by kernel_rfl
theorem g9 : (PP.stopKnobs == []) = true := by kernel_rfl
theorem g10 : (cL.inPlace == PP.inPlace 3) = true := by kernel_rfl
theorem g11 : (cL.unfollowed == PP.unfollowed 3) = true := by kernel_rfl
theorem g12 : (cL.recurses == PP.recurses 3) = true := by kernel_rfl
theorem g13 : (cL.named == PP.varsNamed 3) = true := by kernel_rfl
theorem g14 : (cL.maps == (fL.params.toList ++ sL.plain.varTypes PP).any (PP.mapsRec ·)) = true := by kernel_rfl
theorem g15 : (cL.ifaces == (fL.params.toList ++ sL.plain.varTypes PP).any (PP.ifacesRec ·)) = true := by kernel_rfl
theorem g16 : (cL.mapsOut == PP.mapsAmong fL.resultTypes.toList) = true := by kernel_rfl
theorem g17 : (cL.loops == (fL.params.toList ++ sL.plain.varTypes PP).any (PP.loopsFrom ·)) = true := by kernel_rfl
theorem g18 : (cL.wideKeys == (fL.params.toList ++ sL.plain.varTypes PP ++ fL.resultTypes.toList).any (PP.wideKeysFrom ·)) = true := by kernel_rfl
theorem g19 : sL.vars.all (PP.varReadable ·) = true := by kernel_rfl
theorem g20 : fL.resultTypes.all (fun t => PP.readableRec t && decide (t < PP.types.size)) = true := by kernel_rfl
theorem g21 : (cL.ifacesOut == fL.resultTypes.toList.any (PP.ifacesRec ·)) = true := by kernel_rfl
theorem g22 : (cL.loopsOut == fL.resultTypes.toList.any (PP.loopsFrom ·)) = true := by kernel_rfl
theorem g23 : (cL.plainKeys == PP.plainKeys) = true := by kernel_rfl
theorem g24 : cL.shortTexts.isNone = true := by kernel_rfl
theorem g25 : PP.stopsHeard = true := by kernel_rfl
theorem g26 : PP.mayEnter = true := by kernel_rfl
theorem g27 : (cL.lifted == PP.liftsFinal) = true := by kernel_rfl
theorem g28 : (PP.make == some cL.make) = true := by kernel_rfl
theorem g29 : (cL.kinds == (if cL.domain.isEmpty then [] else fL.params.toList.map fun t => match PP.underlying t with | some (.int k) => some k | _ => none)) = true := by kernel_rfl
theorem g30 : (cL.pinned == cL.pinnedBy) = true := by kernel_rfl
theorem g31 : (cL.veiled == (fL.params.toList ++ sL.plain.varTypes PP ++ fL.resultTypes.toList).any (PP.veiledRec ·)) = true := by kernel_rfl
theorem g32 : cL.veiledFits PP fL.params.toList (fL.params.toList ++ sL.plain.varTypes PP ++ fL.resultTypes.toList) = true := by kernel_rfl
set_option maxRecDepth 100000 in
theorem closedF : joinedFacts PP 3 fL sL cL = true :=
  andT (andT (andT (andT (andT (andT (andT (andT (andT (andT (andT (andT (andT (andT (andT (andT (andT (andT (andT (andT (andT (andT (andT (andT (andT (andT (andT (andT (andT (andT (andT g1 g2) g3) g4) g5) g6) g7) g8) g9) g10) g11) g12) g13) g14) g15) g16) g17) g18) g19) g20) g21) g22) g23) g24) g25) g26) g27) g28) g29) g30) g31) g32
theorem p1 : cL.wfByText (OpenSpec.ofChange sL) = true := by kernel_rfl
theorem p2 : PP.mainIs = some (Rows.frameReadsCard.stood.harness.1, Rows.frameReadsCard.stood.harness.2.toList) := by kernel_rfl
theorem p3 : true = PP.looks [] := by kernel_rfl
theorem p4 : PP.wantsStandIn 9 = false := by kernel_rfl
theorem p5 : PP.wantsStandIn 3 = false := by kernel_rfl
theorem p6 : false = cL.goesBy PP := by kernel_rfl
theorem p7 : PP.funcNamed cL.func = some 3 := by kernel_rfl
theorem over : Rows.frameReadsRow.holds Tryz.pinned (OpenSpec.ofChange Rows.frameReadsSpec) :=
  OpenClaim.holds_of_wide 3 Tryz.f3 rfl rfl rfl rfl rfl rfl rfl ⟨rfl, rfl, rfl, rfl, rfl⟩ rfl rfl rfl rfl rfl p7 Tryz.func3 closedF
    (of_decide_eq_true (by kernel_rfl)) (by unfold Func.isWrapper; first | (rw [if_pos (by decide +kernel)]; kernel_rfl) | (rw [if_neg (by decide +kernel)]; exact ⟨rfl, rfl⟩))
    (fun os started H enc _ => lifted os started H enc)
theorem proved : Rows.FrameReadsCardSaid :=
  Claim7.holds_tied_plain_at .later [] [.handle] true Rows.frameReadsCard.stood.harness true
    over (fun _ h => by cases h) p1 (fun _ h => by cases h) frameReads_row_tie rfl ⟨rfl, rfl⟩ p2 rfl
    (fun f fn hf hfn => by
      obtain rfl : f = 3 := (Option.some.inj (p7.symm.trans hf)).symm
      obtain rfl : fn = Tryz.f3 := (Option.some.inj (Tryz.func3.symm.trans hfn)).symm
      exact ⟨p3, fun j t ht => by
        rw [Tryz.params3] at ht
        rcases j with _ | _ | _ | j
        · have h3 : t = 9 := by simpa using ht.symm
          subst h3
          exact p4
        · have h3 : t = 3 := by simpa using ht.symm
          subst h3
          exact p5
        · have h3 : t = 3 := by simpa using ht.symm
          subst h3
          exact p5
        · simp at ht⟩)
    p6
#print axioms proved
end Go.Proofs.YtegnkfbnmepmpaaGreatDoor.frameReads