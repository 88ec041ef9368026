/-
  Texts joined: PnA, PnB, PnC, PnD, PnE, BitsM, CuF, Cu, Cut, Cv, HdF, Hd, Hdt, He, Av, BkF, Bk. Conditions: each theorem's own.
-/
import Derived.Test.YtbfdchahapajaaaGreatDoorK3
import Derived.RecoverIn
namespace Go.Proofs.YtbfdchahapajaaaGreatDoor
open Go Go.RowKit
set_option linter.unusedVariables false
inductive XP where
  | x (e : XE)
  | pan (v : SV)
abbrev PTab := FuncId → Option (List SV → Option SV)
section
variable (P : Program) (Γ : FuncId → Option Ctr) (Ξ : PTab)
def lastO (ops : Array Oper) : Option Oper := ops.toList.getLast?
def panS (ops : Array Oper) : Bool := match lastO ops with
  | some o => match o.op with
    | .panic _ => true
    | .call c => match c.callee with
      | .value (.func f) => (Ξ f).isSome
      | _ => false
    | _ => false
  | none => false
def panV (o : Oper) (S : Sst) : Option SV := match o.guard with
  | some _ => none
  | none => match o.op with
    | .panic x => match S.ev x with
      | .ifc t y => some (.ifc t y)
      | _ => none
    | .call c => match c.callee with
      | .value (.func f) => match Ξ f with
        | some t => match t (c.args.toList.map S.ev) with
          | some v => cond (isNil (ids v) && isNil (idsL (c.args.toList.map S.ev))) (some v) none
          | none => none
        | none => none
      | _ => none
    | _ => none
def waitsAll (ops : Array Oper) : Bool := (List.range (ops.size - 1)).all fun i => ((waits ops).getD (ops.size - 1) 0).testBit i
def panOk (ops : Array Oper) (draw : Bool) (acc : List FP) : Bool := !draw || (backOk ops && (indepAll (waits ops) acc 0 && waitsAll ops))
def cutP (I : LoopInv) (S : Sst) (bx bz : Sst → (XP → Sst → Prop) → Prop) (K : XP → Sst → Prop) : Prop :=
  (bx S fun e S' => match e with
    | .x .normal => cond (Nat.beq S'.n S.n) (∃ x, I.p x ∧ andL (Sle 1000 S' (I.tm x) (I.hp x) [] [])) False
    | e => K e S') ∧ ∀ x, I.p x → bz (sstOf 1000 S.n (I.tm x) (I.hp x)) K
def flat : Code → Bool
  | .region _ _ _ => true
  | .seq x y => flat x && flat y
  | .cond _ x y => flat x && flat y
  | .block _ c => flat c
  | .skip => true
  | .label _ => true
  | .exit _ => true
  | .ret => true
  | _ => false
def vcP (Ω : Nat → Option LoopFam) : Nat → Code → Sst → (XP → Sst → Prop) → Prop
  | k, .skip, S, K => K (.x .normal) S
  | k, .label _, S, K => K (.x .normal) S
  | k, .exit id, S, K => K (.x (.exit id)) S
  | k, .ret, S, K => K (.x .ret) S
  | k, .region id ops draw, S, K => cond (noDefer ops) (cond (panS Ξ ops)
      (runOps P Γ ops (fun i => (id + 1) * 100000 + 8 * i) ops.toList.dropLast 0 S [] fun S' acc => cond (panOk ops draw acc)
        (match lastO ops with
        | some o => match panV Ξ o S' with
          | some v => K (.pan v) S'
          | none => False
        | none => False) False)
      (runOps P Γ ops (fun i => (id + 1) * 100000 + 8 * i) ops.toList 0 S [] fun S' acc => cond draw (cond (indep ops acc) (K (.x .normal) S') False) (K (.x .normal) S'))) False
  | k, .seq x y, S, K => match cutOf Ω y with
    | none => vcP Ω k x S fun e S' => match e with
      | .x .normal => vcP Ω (k + nloops x) y S' K
      | e => K e S'
    | some (.one I) => cutP I S (vcP Ω k x) (vcP Ω (k + nloops x) y) K
    | _ => False
  | k, .cond c x y, S, K => match S.ev c with
    | .bl true => vcP Ω k x S K
    | .bl false => vcP Ω (k + nloops x) y S K
    | .v (.bool v) => (v = true → vcP Ω k x S K) ∧ (v = false → vcP Ω (k + nloops x) y S K)
    | _ => False
  | k, .block id c, S, K => vcP Ω k c S fun e S' => match e with
    | .x (.exit id') => cond (Nat.beq id' id) (K (.x .normal) S') (K (.x (.exit id')) S')
    | e => K e S'
  | k, c, S, K => vc P Γ Ω 1000 k c S fun e S' => K (.x e) S'
structure DC where
  ret : List SV → (Nat → Option SBlk) → Option CRes
  pan : SV → List SV → (Nat → Option SBlk) → Option CRes
def defS (ops : Array Oper) : Bool := match lastO ops with
  | some o => isDefer o.op
  | none => false
def defC : Code → Bool
  | .region _ ops _ => defS ops
  | _ => false
def defT (o : Oper) : Option Nat := match o.guard, o.dst, o.op with
  | none, none, .defer c => match c.callee, c.args.toList with
    | .value (.tmp t), [] => some t
    | _, _ => none
  | _, _, _ => none
def vcD (Ω : Nat → Option LoopFam) (KD : SV → XP → Sst → Prop) : Nat → Code → Sst → (XE → Sst → Prop) → Prop
  | k, .seq x y, S, K => cond (defC x) (match x with
    | .region id ops draw => cond (!draw && ops.toList.dropLast.all fun o => !isDefer o.op) (runOps P Γ ops (fun i => (id + 1) * 100000 + 8 * i) ops.toList.dropLast 0 S [] fun S1 _ =>
          match (lastO ops).bind defT with
          | some t => match S1.T t, cutOf Ω y with
            | .fn (.func f) [] cap, some (.one I) => (∃ g, I.p g ∧ andL (Sle 500 S1 (I.tm g) (I.hp g) [] [])) ∧
                ∀ g, I.p g → vcP P Γ Ξ Ω k y (sstOf 1000 S1.n (I.tm g) (I.hp g)) (KD ((lookupL (I.tm g) t).getD .any))
            | _, _ => False
          | none => False) False
    | _ => False)
    (cond (flat x) (vcP P Γ Ξ Ω k x S fun e S' => match e with
      | .x .normal => vcD Ω KD (k + nloops x) y S' K
      | .x e => K e S'
      | .pan _ => False) False)
  | _, _, _, _ => False
def capP (cap : List SV) : Bool := cap.all fun x => match x with
  | .p l _ _ => Nat.blt l 1000
  | _ => false
def doorV (Δ : FuncId → Option DC) (fn : Func) (out : Out) (x : SV) (e : XP) (S : Sst) : Prop :=
  match x with
  | .fn (.func f) [] cap => match Δ f with
    | some d => match (match e with
        | .x (.exit _) => none
        | .x _ => d.ret cap S.H
        | .pan v => cond (isNil (ids v) && dfree v) (d.pan v cap S.H) none) with
      | some r => cond (capP cap) (match resC S.H cap cap [] r with
        | ⟨c, val, _, ups, news⟩ => cond (news.all fun k => !S.U k) (conds c (endT P fn { S with H := upds S.H ups, U := upds S.U (news.map fun k => (k, true)) } out)) False) False
      | none => False
    | none => False
  | _ => False
def vcFD (Ω : Nat → Option LoopFam) (Δ : FuncId → Option DC) (fn : Func) (args : List SV) (hp : List (Nat × SBlk)) (out : Out) : Prop :=
  match fn.body with
  | none => False
  | some c => cond (Nat.ble args.length fn.ntmps && nodupB (hp.map (·.1)) && (hp.all fun x => Nat.blt x.1 500)) (vcD P Γ Ξ Ω (doorV P Δ fn out) 0 c (initS fn args hp) fun e S => match e with
    | .exit _ => False
    | _ => endT P fn S out) False
def vcGD (Ω : Nat → Option LoopFam) (fn : Func) (args : List SV) (hp : List (Nat × SBlk)) (out : Out) : Prop :=
  match fn.body with
  | none => False
  | some c => cond (Nat.ble args.length fn.ntmps && (nodupB (hp.map (·.1)) && ((hp.all fun x => Nat.blt x.1 1000) && flat c))) (vcP P Γ (fun _ => none) Ω 0 c (initS fn args hp) fun e S => match e with
    | .x (.exit _) => False
    | .x _ => endT P fn S out
    | .pan _ => False) False
def vcFP (Ω : Nat → Option LoopFam) (fn : Func) (args : List SV) (v : SV) : Prop :=
  match fn.body with
  | none => False
  | some c => cond (Nat.ble args.length fn.ntmps && (isNil (ids v) && flat c)) (vcP P Γ Ξ Ω 0 c (initS fn args []) fun e S => match e with
    | .pan u => andL (le1 [] u v)
    | _ => False) False
end
end Go.Proofs.YtbfdchahapajaaaGreatDoor
namespace Go.Proofs.YtbfdchahapajaaaGreatDoor
open Go Go.RowKit
set_option linter.unusedVariables false
set_option linter.unusedSimpArgs false
theorem last_split {α : Type} {l : List α} {o : α} (h : l.getLast? = some o) : l = l.dropLast ++ [o] := by
  obtain ⟨ys, rfl⟩ := List.getLast?_eq_some_iff.1 h
  simp
def XP.is (D : Nat → Prop) (w : World) (β : Nat → Option Loc) : XP → Exit → Prop
  | .x e, ex => ex = e.ex
  | .pan v, ex => ∃ u, Rep D w β v u ∧ ex = .panic [{ v := u, recovered := false }]
def SoundP (P : Program) (f : FuncId) (t : List SV → Option SV) : Prop :=
  callable P f = true ∧ ∀ args v, t args = some v → ∀ w us, SatC (fun R => Calls P f us.toArray w R) (fun u => .panicked [{ v := u, recovered := false }]) w us args [] v []
section
variable {P : Program} {Γ : FuncId → Option Ctr} {Ξ : PTab} {ops : Array Oper} {base : Nat → Nat}
theorem isNil_eq {α : Type} {l : List α} (h : isNil l = true) : l = [] := isNil_iff.1 h
theorem run_callV {a : Act} {w : World} {f : FuncId} {args : Array Operand} {tys : Array TypeId} {dst : Option Tmp} {type : TypeId} {pos : String} {after : Array Edge} {guard : Option (Nat × Bool)} (hcb : callable P f = true) :
    (execOp a.eval ⟨dst, .call { callee := .value (.func f), args := args, argTypes := tys }, type, pos, after, guard⟩).run P w = .ok (.enter f (args.toList.map a.eval).toArray) w := by
  unfold callable at hcb
  split at hcb
  · rename_i fn hfn
    simp only [Bool.and_eq_true, Bool.not_eq_true'] at hcb
    have hbody : fn.body.isNone = false := by
      cases hb : fn.body with
      | none => rw [hb] at hcb; simp at hcb
      | some _ => rfl
    have harr : (#[] : Array Value) ++ args.map a.eval ++ #[] = (args.toList.map a.eval).toArray := by
      apply Array.ext'
      simp
    have he : a.eval (.func f) = .func (.func f) #[] #[] := rfl
    simp only [execOp, resolve, he, Deferred.ofValue, Sem.run_bind, Sem.run_pure, Result.andThen_ok, invoke, callFunc, run_program, hfn, hcb.1, hbody, Bool.false_eq_true, if_false, harr]
  · cases hcb
theorem panV_ok (hΞ : ∀ f t, Ξ f = some t → SoundP P f t) {o : Oper} {S : Sst} {v : SV} (hv : panV Ξ o S = some v) {E : Env} {D : Nat → Prop} {β : Nat → Option Loc} {a : Act} {w : World} (h : St E D β S a w) {K' : Act → World → Prop} {Q : Exit → Act → World → Prop}
    (hQ : ∀ D' β' w' u, St E D' β' S a w' → Rep D' w' β' v u → Q (.panic [{ v := u, recovered := false }]) a w') : o.guard = none ∧ o.wp P a w K' Q := by
  obtain ⟨dst, op, type, pos, after, guard⟩ := o
  unfold panV at hv
  simp only at hv
  split at hv
  · cases hv
  refine ⟨rfl, ?_⟩
  split at hv
  · rename_i x
    split at hv
    · rename_i t y e
      have hx := h.ev x
      rw [e] at hx
      simp only [Rep] at hx
      obtain ⟨u, hu, hr⟩ := hx
      simp only [Option.some.injEq] at hv
      subst hv
      unfold Oper.wp
      have hrun : (execOp a.eval ⟨dst, .panic x, type, pos, after, none⟩).run P w = .halt (.panic (.iface t u)) w := by
        simp only [execOp, hu]
        rfl
      rw [hrun]
      exact hQ D β w _ h ⟨u, rfl, hr⟩
    · cases hv
  · rename_i c
    obtain ⟨callee, args, tys⟩ := c
    simp only at hv
    split at hv
    · rename_i f
      split at hv
      · rename_i t ht
        split at hv
        · rename_i v' hv'
          cases hn : isNil (ids v') && isNil (idsL (args.toList.map S.ev))
          · rw [hn] at hv; cases hv
          · rw [hn] at hv
            simp only [cond_true, Option.some.injEq] at hv
            subst hv
            simp only [Bool.and_eq_true] at hn
            have n1 := isNil_eq hn.1
            have n2 := isNil_eq hn.2
            obtain ⟨hcb, hs⟩ := hΞ f t ht
            have hargs := reps_ops h args.toList
            have key := call_coreG (C := fun R => Calls P f (args.toList.map a.eval).toArray w R) (fun h k => h.mono k) (en := fun u => .panicked [{ v := u, recovered := false }]) h (br := []) (uses := []) (hp := []) (ret := v') (cs := args.toList.map S.ev) (us := args.toList.map a.eval)
              (Reps.mono (grows_more fun g hg => .inl hg) _ hargs) (by rw [n2]; simp) (by simp) (by simp) rfl (by simp) (by rw [n1]; simp) rfl (hs _ _ hv' w _) (by simp)
            unfold Oper.wp
            rw [run_callV hcb, Oper.upon_enter]
            refine key.mono fun e w' => ?_
            rintro ⟨u, D', β', rfl, hr, hst⟩
            exact hQ D' β' w' u hst hr
        · cases hv
      · cases hv
    · cases hv
  · cases hv
theorem chain_listT (hΓ : ∀ f c, Γ f = some c → Sound P f c) {E : Env} {Q : Exit → Act → World → Prop} {Sn : Sst} {tl : List Oper}
    (hQ : ∀ D β a w, St E D β Sn a w → wpList P ops Q tl a w) : ∀ (l : List Oper) (i : Nat) (fs : List FP) (S : Sst) (D : Nat → Prop) (β : Nat → Option Loc) (a : Act) (w : World), fs.length = l.length →
    Chain P Γ ops base (rows i l fs) S Sn → St E D β S a w → wpList P ops Q (l ++ tl) a w
  | [], i, fs, S, D, β, a, w, hl, hc, h => by
    cases fs <;> · unfold rows at hc; cases hc; exact hQ D β a w h
  | o :: l, i, [], S, D, β, a, w, hl, hc, h => by simp at hl
  | o :: l, i, f :: fs, S, D, β, a, w, hl, hc, h => by
    unfold rows at hc
    cases hc with
    | cons hx hr =>
      have := ex_ok (Q := Q) hΓ h hx (K' := wpList P ops Q (l ++ tl)) fun D' β' a' w' h' => chain_listT hΓ hQ l (i + 1) fs _ D' β' a' w' (by simpa using hl) hr h'
      rw [List.cons_append]
      unfold wpList
      split at this
      · rename_i hw; rw [if_pos hw]; exact .inl this
      · rename_i hw; rw [if_neg hw]; exact this
theorem wanted_none {o : Oper} (h : o.guard = none) (y : Nat → Option Bool) : Region.wanted o y = true := by
  unfold Region.wanted
  rw [h]
structure LeftP (ops : Array Oper) (bf : List Nat) (n : Nat) (listed : Array Bool) (rem : List (Nat × Oper × FP)) : Prop where
  size : listed.size = ops.size
  inn : ∀ t ∈ rem, ops[t.1]? = some t.2.1 ∧ listed.getD t.1 true = false
  lt : ∀ t ∈ rem, t.1 < n
  nl : listed.getD n true = false
  all : ∀ i, listed.getD i true = false → i = n ∨ ∃ t ∈ rem, t.1 = i
  sorted : rem.Pairwise fun t u => t.1 < u.1
  clash : rem.Pairwise fun t u => t.2.2.clash u.2.2 = true → (bf.getD u.1 0).testBit t.1 = true
  closed : ∀ d k, listed.getD d false = true → (bf.getD d 0).testBit k = true → listed.getD k false = true
theorem order_okP (hΓ : ∀ f c, Γ f = some c → Sound P f c) {E : Env} {Q : Exit → Act → World → Prop} {Sn : Sst} {bf : List Nat} (hbf : WaitOk ops.toList bf) (hback : backL ops.toList 0 = true) {n : Nat} {oN : Oper} (hN : ops[n]? = some oN) (hsz : ops.size = n + 1)
    (hw : ∀ k, k < n → (bf.getD n 0).testBit k = true) (hg : oN.guard = none)
    (hQ : ∀ D β a w K', St E D β Sn a w → oN.wp P a w K' Q) : ∀ (fuel : Nat) (listed : Array Bool) (rem : List (Nat × Oper × FP)) (S : Sst) (D : Nat → Prop) (β : Nat → Option Loc) (a : Act) (w : World), rem.length < fuel →
    LeftP ops bf n listed rem → Chain P Γ ops base rem S Sn → St E D β S a w → wpAny P .any ops Q fuel listed a w := by
  have some_ : ∀ (listed : Array Bool) (rem : List (Nat × Oper × FP)), LeftP ops bf n listed rem → Region.ready .any ops listed ≠ [] := by
    intro listed rem L hr
    cases rem with
    | nil =>
      have : n ∈ Region.ready .any ops listed := by
        refine mem_ready.2 ⟨L.nl, oN, hN, fun e he hbd => ?_⟩
        have hlt := backL_ok hback n oN (by simpa using hN) e he hbd
        have hi : e.on < listed.size := by rw [L.size]; omega
        cases hq : listed.getD e.on true
        · rcases L.all e.on hq with h | ⟨u, hu, _⟩
          · omega
          · cases hu
        · exact getD_ft hi hq
      rw [hr] at this
      cases this
    | cons t r =>
      obtain ⟨ho, hun⟩ := L.inn t (List.mem_cons_self ..)
      have htn := L.lt t (List.mem_cons_self ..)
      have : t.1 ∈ Region.ready .any ops listed := by
        refine mem_ready.2 ⟨hun, t.2.1, ho, fun e he hbd => ?_⟩
        have hlt := backL_ok hback t.1 t.2.1 (by simpa using ho) e he hbd
        have hi : e.on < listed.size := by
          rw [L.size]
          have := (Array.getElem?_eq_some_iff.1 ho).1
          omega
        cases hq : listed.getD e.on true
        · rcases L.all e.on hq with h | ⟨u, hu, hue⟩
          · omega
          · simp only [List.mem_cons] at hu
            rcases hu with rfl | hu
            · omega
            · have := (List.pairwise_cons.1 L.sorted).1 u hu
              omega
        · exact getD_ft hi hq
      rw [hr] at this
      cases this
  intro fuel
  induction fuel with
  | zero => intro listed rem S D β a w hf; omega
  | succ fuel ih =>
    intro listed rem S D β a w hf L hc h
    refine ⟨fun hr => absurd hr (some_ listed rem L), fun i hi => ?_⟩
    obtain ⟨hun, o, ho, hall⟩ := mem_ready.1 hi
    have hlt : i < listed.size := by rw [L.size]; exact (Array.getElem?_eq_some_iff.1 ho).1
    have hwait : ∀ k, (bf.getD i 0).testBit k = true → listed.getD k false = true := by
      intro k hk
      obtain ⟨o2, h1, e, h2, h3, h4⟩ := hbf i k hk
      have : o2 = o := by
        have h1' : ops[i]? = some o2 := by simpa using h1
        rw [ho] at h1'
        exact (Option.some.inj h1').symm
      subst this
      have hl := hall e (by simpa using h2) h3
      rcases h4 with rfl | h4
      · exact hl
      · exact L.closed e.on k hl h4
    rcases L.all i hun with rfl | ⟨t, ht, hti⟩
    · have hrem : rem = [] := by
        cases rem with
        | nil => rfl
        | cons t r =>
          have h1 := getD_tf (hwait t.1 (hw t.1 (L.lt t (List.mem_cons_self ..))))
          have h2 := (L.inn t (List.mem_cons_self ..)).2
          rw [h1] at h2; cases h2
      subst hrem
      cases hc
      rw [hN] at ho
      cases ho
      unfold wpOp
      rw [hN]
      simp only
      rw [if_pos (wanted_none hg _)]
      exact .inl (hQ D β a w _ h)
    obtain ⟨i', o', g⟩ := t
    simp only at hti
    subst hti
    have hin : i' < n := L.lt _ ht
    obtain ⟨l, r, rfl⟩ := List.append_of_mem ht
    have hoo : o' = o := by
      have := (L.inn _ ht).1
      rw [ho] at this
      exact (Option.some.inj this).symm
    subst hoo
    have hci := List.pairwise_append.1 L.clash
    have hno : ∀ t ∈ l, t.2.2.clash g = false := by
      intro t htl
      cases hq : t.2.2.clash g
      · rfl
      · have hb := hci.2.2 t htl (i', o', g) (by simp) hq
        have h1 := getD_tf (hwait t.1 hb)
        have h2 := (L.inn t (by simp [htl])).2
        rw [h1] at h2
        cases h2
    obtain ⟨e, hx, hch⟩ := Chain.first l S hc hno
    have key := ex_ok (Q := Q) hΓ h hx (K' := wpAny P .any ops Q fuel (listed.setIfInBounds i' true)) fun D' β' a' w' h' => by
      refine ih (listed.setIfInBounds i' true) (l ++ r) _ D' β' a' w' (by simp at hf ⊢; omega) ?_ hch h'
      have hsub : (l ++ r).Sublist (l ++ (i', o', g) :: r) := List.Sublist.append_left (List.sublist_cons_self ..) l
      have hs := List.pairwise_append.1 L.sorted
      have hne : ∀ t ∈ l ++ r, t.1 ≠ i' := by
        intro t ht
        simp only [List.mem_append] at ht
        rcases ht with ht | ht
        · have := hs.2.2 t ht (i', o', g) (by simp)
          simp only at this; omega
        · have := (List.pairwise_cons.1 hs.2.1).1 t ht
          simp only at this; omega
      exact {
        size := by simpa using L.size
        inn := fun t ht => ⟨(L.inn t (hsub.subset ht)).1, by rw [getD_set_ne true (Ne.symm (hne t ht))]; exact (L.inn t (hsub.subset ht)).2⟩
        lt := fun t ht => L.lt t (hsub.subset ht)
        nl := by rw [getD_set_ne true (by omega)]; exact L.nl
        all := fun k hk => by
          by_cases e : i' = k
          · subst e; simp [Array.getD, hlt] at hk
          · rw [getD_set_ne true e] at hk
            rcases L.all k hk with hkn | ⟨t, ht, htk⟩
            · exact .inl hkn
            · refine .inr ⟨t, ?_, htk⟩
              simp only [List.mem_append, List.mem_cons] at ht ⊢
              rcases ht with ht | rfl | ht
              · exact .inl ht
              · exact absurd htk e
              · exact .inr ht
        sorted := L.sorted.sublist hsub
        clash := L.clash.sublist hsub
        closed := fun d k hd hk => by
          have base : listed.getD k false = true → (listed.setIfInBounds i' true).getD k false = true := by
            intro hl
            by_cases e : i' = k
            · subst e; simp [Array.getD, hlt]
            · rw [getD_set_ne false e]; exact hl
          by_cases e : i' = d
          · subst e; exact base (hwait k hk)
          · rw [getD_set_ne false e] at hd
            exact base (L.closed d k hd hk) }
    unfold wpOp
    rw [ho]
    simp only
    split at key
    · rename_i hw; rw [if_pos hw]; exact .inl key
    · rename_i hw; rw [if_neg hw]; exact key
theorem region_anyP (hΓ : ∀ f c, Γ f = some c → Sound P f c) {E : Env} {Q : Exit → Act → World → Prop} {S Sn : Sst} {D : Nat → Prop} {β : Nat → Option Loc} {a : Act} {w : World} {fs : List FP} {oN : Oper} (hl : lastO ops = some oN)
    (h1 : fs.length = ops.toList.dropLast.length) (h2 : Chain P Γ ops base (rows 0 ops.toList.dropLast fs) S Sn) (hq : (backOk ops && (indepAll (waits ops) fs 0 && waitsAll ops)) = true) (h : St E D β S a w) (hg : oN.guard = none)
    (hQ : ∀ D β a w K', St E D β Sn a w → oN.wp P a w K' Q) : wpAny P .any ops Q ops.size (Array.replicate ops.size false) a { w with drawn := w.drawn + 1 } := by
  simp only [Bool.and_eq_true, backOk] at hq
  have hsp := last_split hl
  obtain ⟨n, hn⟩ : ∃ n, n = ops.toList.dropLast.length := ⟨_, rfl⟩
  have hsz : ops.size = n + 1 := by
    rw [← Array.length_toList, hsp, hn]
    simp
  have hN : ops[n]? = some oN := by
    rw [← Array.getElem?_toList, hsp, hn, List.getElem?_append_right (by simp)]
    simp
  have hpre : ∀ (i : Nat) (o : Oper), ops.toList.dropLast[i]? = some o → ops[i]? = some o ∧ i < n := by
    intro i o hi
    have hlt := (List.getElem?_eq_some_iff.1 hi).1
    refine ⟨?_, by omega⟩
    rw [← Array.getElem?_toList, hsp, List.getElem?_append_left (by simpa using hlt)]
    exact hi
  have hwa : ∀ k, k < n → ((waits ops).getD n 0).testBit k = true := by
    intro k hk
    have := hq.2.2
    unfold waitsAll at this
    have := List.all_eq_true.1 this k (List.mem_range.2 (by omega))
    rwa [show ops.size - 1 = n by omega] at this
  refine order_okP (base := base) (Sn := Sn) hΓ (waits_ok ops) hq.1 hN hsz hwa hg hQ ops.size _ (rows 0 ops.toList.dropLast fs) S D β a _ (by have := rows_len ops.toList.dropLast fs 0; omega) ?_ h2 h.drew
  have hget : ∀ i, i < ops.size → (Array.replicate ops.size false).getD i true = false := fun i hi => by simp [Array.getD, hi]
  exact {
    size := by simp
    inn := fun t ht => by
      obtain ⟨_, k1, _⟩ := rows_mem ht
      have k2 := hpre t.1 t.2.1 (by simpa using k1)
      exact ⟨k2.1, hget _ (Array.getElem?_eq_some_iff.1 k2.1).1⟩
    lt := fun t ht => by
      obtain ⟨_, k1, _⟩ := rows_mem ht
      exact (hpre t.1 t.2.1 (by simpa using k1)).2
    nl := hget n (by omega)
    all := fun i hi => by
      have hlt : i < ops.size := by
        rcases Nat.lt_or_ge i ops.size with h | h
        · exact h
        · simp [Array.getD, Nat.not_lt.2 h] at hi
      by_cases e : i = n
      · exact .inl e
      · obtain ⟨t, k1, k2⟩ := rows_all (l := ops.toList.dropLast) (fs := fs) (i := 0) i h1 (by omega)
        exact .inr ⟨t, k1, by omega⟩
    sorted := rows_sorted ..
    clash := indepAll_ok hq.2.1
    closed := fun d k hd _ => by
      rcases Nat.lt_or_ge d ops.size with h | h
      · simp [Array.getD, h] at hd
      · simp [Array.getD, Nat.not_lt.2 h] at hd }
end
end Go.Proofs.YtbfdchahapajaaaGreatDoor
namespace Go.Proofs.YtbfdchahapajaaaGreatDoor
open Go Go.RowKit
set_option linter.unusedVariables false
set_option linter.unusedSimpArgs false
section
variable {P : Program} {Γ : FuncId → Option Ctr} {Ξ : PTab}
theorem vcP_ok (hΓ : ∀ f c, Γ f = some c → Sound P f c) (hm : P.follows .mixedOrders = true) (hΞ : ∀ f t, Ξ f = some t → SoundP P f t) {Ω : Nat → Option LoopFam} (c : Code) : ∀ (k : Nat) (E : Env) (S : Sst) (K : XP → Sst → Prop) (D : Nat → Prop) (β : Nat → Option Loc) (a : Act) (w : World) (Q : Exit → Act → World → Prop),
    (∀ l, E.G l → l < 1000) → vcP P Γ Ξ Ω k c S K → St E D β S a w →
    (∀ E' e S D β a w ex, Desc E E' → (flat c = true → E' = E) → K e S → St E' D β S a w → XP.is D w β e ex → Q ex a w) → c.wpIn (FR none) 0 P Q a w := by
  have gd : ∀ {E E' : Env}, (∀ l, E.G l → l < 1000) → Desc E E' → ∀ l, E'.G l → l < 1000 := fun h d l hl => h l (d.g l hl)
  have old : ∀ (c : Code), flat c = false → ∀ (k : Nat) (E : Env) (S : Sst) (K : XP → Sst → Prop) (D : Nat → Prop) (β : Nat → Option Loc) (a : Act) (w : World) (Q : Exit → Act → World → Prop),
      (∀ l, E.G l → l < 1000) → (vc P Γ Ω 1000 k c S fun e S' => K (.x e) S') → St E D β S a w →
      (∀ E' e S D β a w ex, Desc E E' → (flat c = true → E' = E) → K e S → St E' D β S a w → XP.is D w β e ex → Q ex a w) → c.wpIn (FR none) 0 P Q a w :=
    fun c hf k E S K D β a w Q hG h hs hq => vc_ok hΓ hm c none 1000 k E S _ D β a w Q (.inl ⟨rfl, rfl⟩) hG h hs fun E' e S D β a w hd he hs => hq E' (.x e) S D β a w e.ex hd (fun h => by rw [hf] at h; cases h) he hs rfl
  induction c with
  | skip => intro k E S K D β a w Q hG h hs hq; simp only [vcP] at h; exact wpIn_skip (hq E (.x .normal) S D β a w _ (Desc.refl E) (fun _ => rfl) h hs rfl)
  | label l => intro k E S K D β a w Q hG h hs hq; simp only [vcP] at h; exact wpIn_label (hq E (.x .normal) S D β a w _ (Desc.refl E) (fun _ => rfl) h hs rfl)
  | exit id => intro k E S K D β a w Q hG h hs hq; simp only [vcP] at h; exact wpIn_exit (hq E (.x (.exit id)) S D β a w _ (Desc.refl E) (fun _ => rfl) h hs rfl)
  | ret => intro k E S K D β a w Q hG h hs hq; simp only [vcP] at h; exact wpIn_ret (hq E (.x .ret) S D β a w _ (Desc.refl E) (fun _ => rfl) h hs rfl)
  | region id ops draw =>
    intro k E S K D β a w Q hG h hs hq
    simp only [vcP] at h
    cases hnd : noDefer ops
    · rw [hnd] at h; exact h.elim
    rw [hnd] at h
    simp only [cond_true] at h
    obtain ⟨Q', hQ'⟩ : ∃ Q' : Exit → Act → World → Prop, Q' = fun e a w => e ≠ .outgrown ∧ Q e a w := ⟨_, rfl⟩
    have hL : ¬ LetsOut Q' := by
      rintro ⟨a, w, h⟩
      rw [hQ'] at h
      exact h.1 rfl
    refine wpIn_mono (Q := Q') ?_ (fun e a w h => by rw [hQ'] at h; exact h.2)
    cases hp : panS Ξ ops
    · rw [hp] at h
      simp only [cond_false] at h
      have hq' : ∀ D β S a w, K (.x .normal) S → St E D β S a w → Q' .normal a w := fun D β S a w hk h => by
        rw [hQ']
        exact ⟨by simp, hq E (.x .normal) S D β a w _ (Desc.refl E) (fun _ => rfl) hk h rfl⟩
      cases draw
      · obtain ⟨fs, Sn, h1, h2, h3⟩ := chain_of_runOps _ _ _ _ h
        exact wpIn_region_list (list_in hL _ hnd _ _ (chain_list hΓ (fun D β a w h => hq' D β Sn a w h3 h) _ _ _ _ _ _ _ _ h1 h2 hs))
      · obtain ⟨fs, Sn, h1, h2, h3⟩ := chain_of_runOps _ _ _ _ h
        rw [List.nil_append] at h3
        cases hi : indep ops fs
        · rw [hi] at h3; exact h3.elim
        rw [hi] at h3
        exact wpIn_region_any hm (any_in hL hnd _ _ _ _ (region_any hΓ h1 h2 hi hs fun D β a w h => hq' D β Sn a w h3 h))
    · rw [hp] at h
      simp only [cond_true] at h
      obtain ⟨fs, Sn, h1, h2, h3⟩ := chain_of_runOps _ _ _ _ h
      rw [List.nil_append] at h3
      cases hi : panOk ops draw fs
      · rw [hi] at h3; exact h3.elim
      rw [hi] at h3
      simp only [cond_true] at h3
      cases hl : lastO ops with
      | none => rw [hl] at h3; exact h3.elim
      | some o =>
      rw [hl] at h3
      simp only at h3
      cases hv : panV Ξ o Sn with
      | none => rw [hv] at h3; exact h3.elim
      | some v =>
      rw [hv] at h3
      simp only at h3
      have fin : ∀ D β a w K', St E D β Sn a w → o.guard = none ∧ o.wp P a w K' Q' := fun D β a w K' hst => panV_ok hΞ hv hst fun D' β' w' u h' hr => by
        rw [hQ']
        exact ⟨by simp, hq E (.pan v) Sn D' β' a w' _ (Desc.refl E) (fun _ => rfl) h3 h' ⟨u, hr, rfl⟩⟩
      have hg : o.guard = none := by
        unfold panV at hv
        cases hgo : o.guard with
        | none => rfl
        | some g => rw [hgo] at hv; cases hv
      have hsp := last_split hl
      cases draw
      · have key : wpList P ops Q' ops.toList a w := by
          rw [hsp]
          refine chain_listT hΓ (fun D β a w hst => ?_) _ _ _ _ _ _ _ _ h1 h2 hs
          unfold wpList
          rw [if_pos (wanted_none hg _)]
          exact .inl (fin D β a w _ hst).2
        exact wpIn_region_list (list_in hL _ hnd _ _ key)
      · have hi' : (backOk ops && (indepAll (waits ops) fs 0 && waitsAll ops)) = true := by
          unfold panOk at hi
          simpa using hi
        exact wpIn_region_any hm (any_in hL hnd _ _ _ _ (region_anyP hΓ hl h1 h2 hi' hs hg fun D β a w K' hst => (fin D β a w K' hst).2))
  | seq x y ihx ihy =>
    intro k E S K D β a w Q hG h hs hq
    simp only [vcP] at h
    have fl : ∀ {E1 E2 : Env}, (flat x = true → E1 = E) → (flat y = true → E2 = E1) → flat (.seq x y) = true → E2 = E := fun h1 h2 hf => by
      simp only [flat, Bool.and_eq_true] at hf
      rw [h2 hf.2, h1 hf.1]
    have fx : ∀ {E1 : Env}, (flat x = true → E1 = E) → flat (.seq x y) = true → E1 = E := fun h1 hf => by
      simp only [flat, Bool.and_eq_true] at hf
      exact h1 hf.1
    split at h
    · refine wpIn_seq (ihx k E S _ D β a w _ hG h hs fun E' e S' D' β' a' w' ex hd hf he hs' hx => ?_)
      cases e with
      | pan v =>
        obtain ⟨u, hr, rfl⟩ := hx
        exact hq E' (.pan v) S' D' β' a' w' _ hd (fx hf) he hs' ⟨u, hr, rfl⟩
      | x e =>
        cases hx
        cases e with
        | normal => exact ihy _ E' S' K D' β' a' w' Q (gd hG hd) he hs' fun E2 e S D β a w ex h2 hf2 => hq E2 e S D β a w ex (hd.trans h2) (fl hf hf2)
        | exit id => exact hq E' (.x (.exit id)) S' D' β' a' w' _ hd (fx hf) he hs' rfl
        | ret => exact hq E' (.x .ret) S' D' β' a' w' _ hd (fx hf) he hs' rfl
    · rename_i I hI
      obtain ⟨h1, h2⟩ := h
      refine wpIn_seq (ihx k E S _ D β a w _ hG h1 hs fun E' e S' D' β' a' w' ex hd hf he hs' hx => ?_)
      cases e with
      | pan v =>
        obtain ⟨u, hr, rfl⟩ := hx
        exact hq E' (.pan v) S' D' β' a' w' _ hd (fx hf) he hs' ⟨u, hr, rfl⟩
      | x e =>
        cases hx
        cases e with
        | normal =>
          simp only at he
          cases hb : Nat.beq S'.n S.n
          · rw [hb] at he; exact he.elim
          · rw [hb] at he
            obtain ⟨z, hz, hsle⟩ := he
            obtain ⟨β2, hs2, _⟩ := Sle_ok (gd hG hd) hs' hsle
            rw [Nat.eq_of_beq_eq_true hb] at hs2
            exact ihy _ E' _ K D' β2 a' w' Q (gd hG hd) (h2 z hz) hs2 fun E2 e S D β a w ex h2 hf2 => hq E2 e S D β a w ex (hd.trans h2) (fl hf hf2)
        | exit id => exact hq E' (.x (.exit id)) S' D' β' a' w' _ hd (fx hf) he hs' rfl
        | ret => exact hq E' (.x .ret) S' D' β' a' w' _ hd (fx hf) he hs' rfl
    · exact h.elim
  | cond c x y ihx ihy =>
    intro k E S K D β a w Q hG h hs hq
    simp only [vcP] at h
    have hc := hs.ev c
    have fx : ∀ {E1 : Env}, (flat x = true → E1 = E) → flat (.cond c x y) = true → E1 = E := fun h1 hf => by
      simp only [flat, Bool.and_eq_true] at hf
      exact h1 hf.1
    have fy : ∀ {E1 : Env}, (flat y = true → E1 = E) → flat (.cond c x y) = true → E1 = E := fun h1 hf => by
      simp only [flat, Bool.and_eq_true] at hf
      exact h1 hf.2
    split at h
    · rename_i e
      rw [e] at hc
      exact wpIn_cond_true hc (ihx _ _ _ _ _ _ _ _ _ hG h hs fun E2 e S D β a w ex hd hf => hq E2 e S D β a w ex hd (fx hf))
    · rename_i e
      rw [e] at hc
      exact wpIn_cond_false hc (ihy _ _ _ _ _ _ _ _ _ hG h hs fun E2 e S D β a w ex hd hf => hq E2 e S D β a w ex hd (fy hf))
    · rename_i v e
      rw [e] at hc
      exact wpIn_cond_split hc (fun hb => ihx _ _ _ _ _ _ _ _ _ hG (h.1 hb) hs fun E2 e S D β a w ex hd hf => hq E2 e S D β a w ex hd (fx hf)) (fun hb => ihy _ _ _ _ _ _ _ _ _ hG (h.2 hb) hs fun E2 e S D β a w ex hd hf => hq E2 e S D β a w ex hd (fy hf))
    · exact h.elim
  | block id c ih =>
    intro k E S K D β a w Q hG h hs hq
    simp only [vcP] at h
    refine wpIn_block (ih k E S _ D β a w _ hG h hs fun E' e S' D' β' a' w' ex hd hf he hs' hx => ?_)
    cases e with
    | pan v =>
      obtain ⟨u, hr, rfl⟩ := hx
      exact hq E' (.pan v) S' D' β' a' w' _ hd hf he hs' ⟨u, hr, rfl⟩
    | x e =>
      cases hx
      cases e with
      | normal => exact hq E' (.x .normal) S' D' β' a' w' _ hd hf he hs' rfl
      | exit id' =>
        simp only [XE.ex, Exit.inBlock]
        by_cases hid : id' = id
        · subst hid
          simp only [Nat.beq_refl, cond_true] at he
          rw [if_pos rfl]
          exact hq E' (.x .normal) S' D' β' a' w' _ hd hf he hs' rfl
        · have : Nat.beq id' id = false := by
            cases hb : Nat.beq id' id
            · rfl
            · exact absurd (Nat.eq_of_beq_eq_true hb) hid
          simp only [this, cond_false] at he
          rw [if_neg hid]
          exact hq E' (.x (.exit id')) S' D' β' a' w' _ hd hf he hs' rfl
      | ret => exact hq E' (.x .ret) S' D' β' a' w' _ hd hf he hs' rfl
  | _ => intro k E S K D β a w Q hG h hs hq; simp only [vcP] at h; exact old _ rfl k E S K D β a w Q hG h hs hq
theorem soundP_of (hΓ : ∀ f c, Γ f = some c → Sound P f c) (hm : P.follows .mixedOrders = true) (hΞ : ∀ f t, Ξ f = some t → SoundP P f t) {Ω : Nat → Option LoopFam} {f : FuncId} {fn : Func} (hf : P.funcs[f]? = some fn) {args : List SV} {v : SV}
    (h : vcFP P Γ Ξ Ω fn args v) (w : World) (us : List Value) : SatC (fun R => Calls P f us.toArray w R) (fun u => .panicked [{ v := u, recovered := false }]) w us args [] v [] := by
  intro D β hargs hhp hD hβ
  unfold vcFP at h
  cases hb : fn.body with
  | none => rw [hb] at h; exact h.elim
  | some c =>
  rw [hb] at h
  simp only at h
  cases hq : Nat.ble args.length fn.ntmps && (isNil (ids v) && flat c)
  · rw [hq] at h; exact h.elim
  rw [hq] at h
  simp only [cond_true] at h
  simp only [Bool.and_eq_true] at hq
  have q1 := Nat.le_of_ble_eq_true hq.1
  have q2 := isNil_eq hq.2.1
  have q3 := hq.2.2
  obtain ⟨E, hE⟩ : ∃ E : Env, E = ⟨w, Given β [], D, β, fun l => l < 1000, []⟩ := ⟨_, rfl⟩
  have hst : St E D β (initS fn args []) { tmps := us.toArray ++ Array.replicate (fn.ntmps - us.toArray.size) undef, defers := [] } w := by
    subst hE
    exact init_ok (Nat.le_refl _) q1 hargs hhp hD hβ
  refine callsIn_wide.1 (callsIn_of_wp_marks (n := 0) hf hb trivial ?_)
  refine vcP_ok hΓ hm hΞ c 0 E _ _ D β _ w _ (by rw [hE]; exact fun l h => h) h hst fun E' e S' D' β' a' w' ex hd hfl he hs' hx => ?_
  cases e with
  | x e => exact he.elim
  | pan u0 =>
  obtain ⟨u, hr, rfl⟩ := hx
  have eE := hfl q3
  subst eE
  have hdf : a'.defers = [] := by rw [hs'.df, hE]
  show LeavesInM Fence.wide 0 P fn a'.tmps _ a'.defers (.panicking _) w'
  rw [hdf]
  have hrep : Rep D' w' (renβ [] [] β') v u := le1_ok (m := []) (hp := []) (fun l hl => by cases hl) (andL_all he) hr
  have e0 : E'.w0 = w := by rw [hE]
  have eW : E'.Wr = Given β [] := by rw [hE]
  have eD : E'.D0 = D := by rw [hE]
  show ∃ v_1 D'_1 β'_1, _
  refine ⟨u, D', β, rfl, ?_⟩
  exact {
    grows := ⟨fun g hg => hs'.d0 g (by rw [eD]; exact hg), fun g hg => by
      have := hs'.block g (by rw [e0]; exact hD g hg) (by rw [eW]; rintro ⟨l, b, L, hl, _⟩; cases hl)
      rw [this, e0], fun l L hL => hL⟩
    ret := hrep.mono ⟨fun g hg => hg, fun _ _ => rfl, fun l L hL => by
      unfold renβ at hL
      cases hL⟩ v
    hps := ⟨fun l b hl => (by cases hl), fun l l' b b' L L' hl => (by cases hl)⟩
    d := fun g hg => ⟨by have := hs'.d1 g hg; rw [e0, eW, eD] at this; exact this, hs'.dlt g hg⟩
    dom := fun l L hL => .inl hL
    own := fun l b L hl => by cases hl
    os := by rw [hs'.os, e0]
    tape := by rw [hs'.tape, e0]
    output := by rw [hs'.output, e0]
    size := by have := hs'.grow; rw [e0] at this; exact this
    block := fun g hg hn => by
      have := hs'.block g (by rw [e0]; exact hg) (by rw [eW]; exact hn)
      rw [this, e0] }
end
end Go.Proofs.YtbfdchahapajaaaGreatDoor
namespace Go.Proofs.YtbfdchahapajaaaGreatDoor
open Go Go.RowKit
set_option linter.unusedVariables false
set_option linter.unusedSimpArgs false
def SoundD (P : Program) (f : FuncId) (d : DC) : Prop :=
  callable P f = true ∧
  (∀ cap H r, d.ret cap H = some r → (∀ p ∈ r.pre, p.p) → ∀ w us, SatC (fun R => CallsDIn Fence.wide 0 P f us.toArray .returning w fun e u' w' => u' = .returning ∧ R e w') .returned w us cap (givenHp H r.uses) r.ret r.hp) ∧
  (∀ v cap H r, d.pan v cap H = some r → (∀ p ∈ r.pre, p.p) → ∀ w pv us, SatC (fun R => CallsDIn Fence.wide 0 P f us.toArray (.panicking [{ v := pv, recovered := false }]) w fun e u' w' => u' = .panicking [{ v := pv, recovered := true }] ∧ R e w') .returned w (pv :: us) (v :: cap) (givenHp H r.uses) r.ret r.hp)
section
variable {P : Program} {Γ : FuncId → Option Ctr} {Ξ : PTab}
theorem flat_region {c : Code} (h : defC c = true) : ∃ id ops draw, c = .region id ops draw ∧ defS ops = true := by
  cases c with
  | region id ops draw => exact ⟨id, ops, draw, rfl, h⟩
  | _ => simp [defC] at h
theorem run_defer {o : Oper} {t : Nat} (ho : defT o = some t) {a : Act} {w : World} {f : FuncId} {vs : List Value} (hv : a.tmps.getD t undef = .func (.func f) #[] vs.toArray) :
    o.guard = none ∧ ∀ (K : Act → World → Prop) (Q : Exit → Act → World → Prop), K { a with defers := { target := .fn (.func f) vs.toArray, args := #[] } :: a.defers } w → o.wp P a w K Q := by
  obtain ⟨dst, op, type, pos, after, guard⟩ := o
  unfold defT at ho
  simp only at ho
  split at ho
  · rename_i c
    split at ho
    · rename_i t' e1 e2
      simp only [Option.some.injEq] at ho
      subst ho
      obtain ⟨callee, args, tys⟩ := c
      simp only at e1 e2
      subst e1
      have e3 : args = #[] := by
        apply Array.ext'
        simpa using e2
      subst e3
      refine ⟨rfl, fun K Q h => ?_⟩
      unfold Oper.wp
      have he : a.eval (.tmp t') = .func (.func f) #[] vs.toArray := hv
      have hrun : (execOp a.eval ⟨none, .defer { callee := .value (.tmp t'), args := #[], argTypes := tys }, type, pos, after, none⟩).run P w = .ok (.defer { target := .fn (.func f) vs.toArray, args := #[] }) w := by
        simp [execOp, resolve, he, Deferred.ofValue, Sem.run_bind, Sem.run_pure, Result.andThen_ok]
      rw [hrun, Oper.upon_defer]
      exact h
    · cases ho
  · cases ho
theorem vcD_ok (hΓ : ∀ f c, Γ f = some c → Sound P f c) (hm : P.follows .mixedOrders = true) (hΞ : ∀ f t, Ξ f = some t → SoundP P f t) {Ω : Nat → Option LoopFam} {KD : SV → XP → Sst → Prop} {E : Env} (hE : E.df = []) (hG : ∀ l, E.G l → l < 500) {Q : Exit → Act → World → Prop}
    (hD : ∀ (f : FuncId) (vs : List Value) (x : SV) (D1 : Nat → Prop) (w1 : World) (β2 : Nat → Option Loc), Rep D1 w1 β2 x (.func (.func f) #[] vs.toArray) → (∀ l L, E.G l → β2 l = some L → E.β0 l = some L) →
      ∀ E'' e S D β a w ex, Desc { E with df := [{ target := .fn (.func f) vs.toArray, args := #[] }], G := fun l => l < 1000, β0 := β2 } E'' → KD x e S → St E'' D β S a w → XP.is D w β e ex → Q ex a w) (c : Code) :
    ∀ (k : Nat) (S : Sst) (K : XE → Sst → Prop) (D : Nat → Prop) (β : Nat → Option Loc) (a : Act) (w : World), vcD P Γ Ξ Ω KD k c S K → St E D β S a w → (∀ e S D β a w, K e S → St E D β S a w → Q e.ex a w) → c.wpIn (FR none) 0 P Q a w := by
  have hG1 : ∀ l, E.G l → l < 1000 := fun l hl => by have := hG l hl; omega
  induction c with
  | seq x y ihx ihy =>
    intro k S K D β a w h hs hK
    simp only [vcD] at h
    cases hd : defC x
    · rw [hd] at h
      simp only [cond_false] at h
      cases hf : flat x
      · rw [hf] at h; exact h.elim
      rw [hf] at h
      simp only [cond_true] at h
      refine wpIn_seq (vcP_ok hΓ hm hΞ x k E S _ D β a w _ hG1 h hs fun E' e S' D' β' a' w' ex hd hfl he hs' hx => ?_)
      have := hfl hf
      subst this
      cases e with
      | pan v => exact he.elim
      | x e =>
        cases hx
        cases e with
        | normal => exact ihy _ S' K D' β' a' w' he hs' hK
        | exit id => exact hK (.exit id) S' D' β' a' w' he hs'
        | ret => exact hK .ret S' D' β' a' w' he hs'
    · rw [hd] at h
      simp only [cond_true] at h
      obtain ⟨id, ops, draw, rfl, hds⟩ := flat_region hd
      simp only at h
      cases hq : !draw && ops.toList.dropLast.all fun o => !isDefer o.op
      · rw [hq] at h; exact h.elim
      rw [hq] at h
      simp only [cond_true] at h
      simp only [Bool.and_eq_true, Bool.not_eq_true'] at hq
      obtain ⟨hdr, _⟩ := hq
      subst hdr
      obtain ⟨fs, Sn, h1, h2, h3⟩ := chain_of_runOps _ _ _ _ h
      cases hl : lastO ops with
      | none => rw [hl] at h3; exact h3.elim
      | some o =>
      rw [hl] at h3
      simp only [Option.bind_some] at h3
      cases ht : defT o with
      | none => rw [ht] at h3; exact h3.elim
      | some t =>
      rw [ht] at h3
      simp only at h3
      split at h3
      · rename_i f cap I eT eI
        obtain ⟨⟨g, hg, hsle⟩, h4⟩ := h3
        have hsp := last_split hl
        refine wpIn_seq (wpIn_wide.2 (wp_region_list ?_))
        rw [hsp]
        refine chain_listT hΓ (fun D' β' a' w' hst => ?_) _ _ _ _ _ _ _ _ h1 h2 hs
        have hT := hst.tm t
        rw [eT] at hT
        simp only [Rep] at hT
        obtain ⟨us, vs, hu, hus, hvs⟩ := hT
        simp only [Reps] at hus
        subst hus
        obtain ⟨hgo, hop⟩ := run_defer (P := P) ht hu
        unfold wpList
        rw [if_pos (wanted_none hgo _)]
        refine .inl (hop _ _ ?_)
        unfold wpList
        show y.wpIn (FR none) 0 P Q _ w'
        obtain ⟨β2, hs2, _⟩ := Sle_ok hG hst hsle
        obtain ⟨E2, hE2⟩ : ∃ E2 : Env, E2 = { E with df := [{ target := .fn (.func f) vs.toArray, args := #[] }], G := fun l => l < 1000, β0 := β2 } := ⟨_, rfl⟩
        have hs3 : St E2 D' β2 (sstOf 1000 Sn.n (I.tm g) (I.hp g)) { a' with defers := { target := .fn (.func f) vs.toArray, args := #[] } :: a'.defers } w' := by
          subst hE2
          exact {
            size := hs2.size, tm := hs2.tm, hp := hs2.hp, dis := hs2.dis, inj := hs2.inj, dlt := hs2.dlt, d0 := hs2.d0, d1 := hs2.d1
            dom := fun l hl => hs2.dom l (by
              simp only [sstOf, Bool.or_eq_false_iff] at hl ⊢
              refine ⟨?_, hl.2⟩
              cases hb : Nat.blt l 500
              · rfl
              · have h5 : l < 500 := Nat.le_of_ble_eq_true hb
                have : Nat.blt l 1000 = true := Nat.ble_eq_true_of_le (by omega)
                rw [this] at hl
                cases hl.1)
            os := hs2.os, tape := hs2.tape, output := hs2.output, grow := hs2.grow, block := hs2.block
            df := by show _ :: a'.defers = _; rw [hst.df, hE]
            low := fun l hl => by
              simp only [sstOf]
              have : Nat.blt l 1000 = true := Nat.ble_eq_true_of_le hl
              rw [this]; rfl
            giv := fun l L _ hL => hL }
        have hx : Rep D' w' β2 ((lookupL (I.tm g) t).getD .any) (.func (.func f) #[] vs.toArray) := by
          have := hs2.tm t
          rw [hu] at this
          exact this
        refine vcP_ok hΓ hm hΞ y k E2 _ _ D' β2 _ w' Q (by rw [hE2]; exact fun l h => h) (h4 g hg) hs3 fun E'' e S D β a w ex hd _ he hs hx2 => ?_
        exact hD f vs _ D' w' β2 hx (fun l L hl hL => hs2.giv l L hl hL) E'' e S D β a w ex (by rw [hE2] at hd; exact hd) he hs hx2
      · exact h3.elim
  | _ => intro k S K D β a w h; simp only [vcD] at h
theorem cap_later {D D1 : Nat → Prop} {w w1 : World} {β β2 : Nat → Option Loc} {H : Nat → Option SBlk} (hH : ∀ l b, H l = some b → ∃ L, β l = some L) (hg : ∀ l L, l < 1000 → β l = some L → β2 l = some L) :
    ∀ (cap : List SV) {vs : List Value}, capP cap = true → (∀ l ∈ idsL cap, ∃ b, H l = some b) → Reps D1 w1 β2 cap vs → Reps D w β cap vs
  | [], vs, _, _, h => by simpa [Reps] using h
  | x :: cap, vs, hc, hi, h => by
    simp only [Reps] at h ⊢
    obtain ⟨u, us, rfl, h1, h2⟩ := h
    unfold capP at hc
    simp only [List.all_cons, Bool.and_eq_true] at hc
    refine ⟨u, us, rfl, ?_, cap_later hH hg cap hc.2 (fun l hl => hi l (by simp [idsL, hl])) h2⟩
    have hc1 := hc.1
    split at hc1
    · rename_i l i j
      have hlt : l < 1000 := Nat.le_of_ble_eq_true hc1
      simp only [Rep] at h1 ⊢
      obtain ⟨L, k1, k2, k3⟩ := h1
      obtain ⟨b, hb⟩ := hi l (by simp [idsL, ids])
      obtain ⟨L', hL'⟩ := hH l b hb
      have := hg l L' hlt hL'
      rw [k1] at this
      cases this
      exact ⟨L, hL', k2, k3⟩
    · cases hc1
theorem door_ok {Δ : FuncId → Option DC} (hΔ : ∀ f d, Δ f = some d → SoundD P f d) {fn : Func} {hp : List (Nat × SBlk)} {out : Out} {ret : SV} {hp' : List (Nat × SBlk)} (ho : out.get = (ret, hp')) {D0 : Nat → Prop} {β0 : Nat → Option Loc} {w0 : World}
    (hhp : HpOk D0 w0 β0 hp) (hD0 : ∀ g, D0 g → g < w0.heap.size) (hβ0 : ∀ l, β0 l ≠ none → l ∈ hp.map (·.1)) (q3 : (hp.all fun x => Nat.blt x.1 500) = true) {E : Env} (hE : E = ⟨w0, Given β0 hp, D0, β0, fun l => l < 500, []⟩)
    {f : FuncId} {vs : List Value} {x : SV} {D1 : Nat → Prop} {w1 : World} {β2 : Nat → Option Loc} (hx : Rep D1 w1 β2 x (.func (.func f) #[] vs.toArray)) (hg2 : ∀ l L, E.G l → β2 l = some L → E.β0 l = some L)
    {E'' : Env} {e : XP} {S : Sst} {D : Nat → Prop} {β : Nat → Option Loc} {a : Act} {w : World} {ex : Exit} (hd : Desc { E with df := [{ target := .fn (.func f) vs.toArray, args := #[] }], G := fun l => l < 1000, β0 := β2 } E'') (hk : doorV P Δ fn out x e S) (hs : St E'' D β S a w) (hex : XP.is D w β e ex) :
    bodyPostM Fence.wide 0 P fn (fun e w' => ∃ v D' β', e = .returned v ∧ After D0 β0 w0 hp ret hp' v D' β' w') ex a w := by
  obtain ⟨E2, hE2⟩ : ∃ E2 : Env, E2 = { E with df := [{ target := .fn (.func f) vs.toArray, args := #[] }], G := fun l => l < 1000, β0 := β2 } := ⟨_, rfl⟩
  rw [← hE2] at hd
  have ok : EnvOk E2.w0.heap.size [{ target := .fn (.func f) vs.toArray, args := #[] }] E2 := ⟨Nat.le_refl _, [], by rw [hE2]; rfl, by simp, by simp⟩
  unfold doorV at hk
  split at hk
  · rename_i f' cap
    simp only [Rep] at hx
    obtain ⟨us', vs', hfe, hus, hvs⟩ := hx
    simp only [Reps] at hus
    subst hus
    simp only [Value.func.injEq, Fn.func.injEq] at hfe
    obtain ⟨hff, _, hvv⟩ := hfe
    subst hff
    have hvv : vs = vs' := by simpa using congrArg Array.toList hvv
    subst hvv
    cases hdd : Δ f with
    | none => rw [hdd] at hk; exact hk.elim
    | some d =>
    rw [hdd] at hk
    simp only at hk
    obtain ⟨hcb, hret, hpan⟩ := hΔ f d hdd
    have go : ∀ (r : CRes) (u u1 : FrameMode) (args : List SV) (us : List Value), u ≠ .run → Go.settle u1 = FrameMode.returning →
        (cond (capP cap) (match resC S.H cap cap [] r with
          | ⟨c, val, _, ups, news⟩ => cond (news.all fun k => !S.U k) (conds c (endT P fn { S with H := upds S.H ups, U := upds S.U (news.map fun k => (k, true)) } out)) False) False) →
        (∀ k ∈ idsL args, k ∈ idsL cap) → (∀ w2, (Reps D w2 β cap vs) → St { E2 with df := [] } D β S { a with defers := [] } w2 → Reps D w2 β args us) →
        ((∀ p ∈ r.pre, p.p) → ∀ w2, SatC (fun R => CallsDIn Fence.wide 0 P f vs.toArray u w2 fun e u' w' => u' = u1 ∧ R e w') .returned w2 us args (givenHp S.H r.uses) r.ret r.hp) →
        LeavesInM Fence.wide 0 P fn a.tmps (fun e w' => ∃ v D' β', e = .returned v ∧ After D0 β0 w0 hp ret hp' v D' β' w') a.defers u w := by
      intro r u u1 args us hu hset hk hia hra hsat
      refine post_marksG hu ok hd hs fun w2 hs2 => ?_
      cases hcp : capP cap
      · rw [hcp] at hk; exact hk.elim
      rw [hcp] at hk
      simp only [cond_true] at hk
      obtain ⟨pre, uses, rt, hpr⟩ := r
      unfold resC at hk
      simp only at hk
      cases hq : inL (reachC S.H cap) uses && callChk S.H cap [] uses rt hpr
      · rw [hq] at hk
        simp only [cond_false] at hk
        have hk : cond (List.all [] fun k => !S.U k) _ False := hk
        simp only [List.all_nil, cond_true] at hk
        have := (conds_of hk).1 ⟨False, inferInstance⟩ (by simp [Res.fail])
        exact this.elim
      rw [hq] at hk
      simp only [cond_true] at hk
      simp only [callChk, Bool.and_eq_true, Bool.not_eq_true'] at hq
      obtain ⟨q0, q1, q2, q3', q4, q5, q6⟩ := hq
      have q1 := inL_iff.1 q1
      have q2 := usesOk_all q2
      have q5 : ∀ x ∈ hpr, ∀ k ∈ idsB x.2, k ∈ hpr.map (·.1) := fun x hx => inL_iff.1 (List.all_eq_true.1 q5 x hx)
      have q6 := inL_iff.1 q6
      cases hnw : ((hpr.map (·.1)).filter fun l => !hasN' uses l).all fun k => !S.U k
      · rw [hnw] at hk; exact hk.elim
      rw [hnw] at hk
      simp only [cond_true] at hk
      obtain ⟨hpre, hend⟩ := conds_of hk
      have hcap : Reps D w2 β cap vs := cap_later (H := S.H) (fun l b hb => let ⟨L, h1, _⟩ := hs2.hp l b hb; ⟨L, h1⟩) (fun l L hl hL => by
        have := hs2.giv l L (by rw [hE2]; exact hl) hL
        rw [hE2] at this
        exact this) cap hcp (fun l hl => let ⟨b, hb, _⟩ := q2 l (q1 l hl); ⟨b, hb⟩) hvs
      have key := call_coreG (C := fun R => CallsDIn Fence.wide 0 P f vs.toArray u w2 fun e u' w' => u' = u1 ∧ R e w') (fun h k => h.mono fun e u' w' h2 => ⟨h2.1, k e w' h2.2⟩) (en := .returned) hs2 (br := []) (uses := uses) (hp := hpr) (ret := rt) (cs := args) (us := us)
        (Reps.mono (grows_more fun g hg => .inl hg) _ (hra w2 hcap hs2)) (fun k hk => q1 k (hia k hk)) q2 (by simp) q4 q5 q6 rfl (hsat hpre w2) (fun k hk => by simpa using List.all_eq_true.1 hnw k hk)
      have hinv : (invoke (.fn (.func f) vs.toArray) #[]).run P w2 = .ok (.enter f vs.toArray) w2 := by
        have := callFunc_of hcb (#[] ++ vs.toArray) w2
        simpa [invoke] using this
      refine ⟨hu, .inr ⟨fun h => (by cases h), .func f, vs.toArray, f, vs.toArray, rfl, hinv, fun _ _ => trivial, key.mono fun e u' w' => ?_⟩⟩
      rintro ⟨rfl, v, D', β', rfl, hrep, hst⟩
      show LeavesInM Fence.wide 0 P fn a.tmps _ [] (Go.settle u') w'
      rw [hset]
      have hst0 : St E D' β' { S with H := upds S.H (uses.map (fun l => (l, none)) ++ hpr.map (fun x => (x.1, some x.2))), U := upds S.U (((hpr.map (·.1)).filter fun l => !hasN' uses l).map fun k => (k, true)) } { a with defers := [] } w' := by
        rw [hE2] at hst
        exact {
          size := hst.size, tm := hst.tm, hp := hst.hp, dis := hst.dis, inj := hst.inj, dlt := hst.dlt, d0 := hst.d0, d1 := hst.d1, dom := hst.dom
          os := hst.os, tape := hst.tape, output := hst.output, grow := hst.grow, block := hst.block
          df := by rw [hE]
          low := fun l hl => hst.low l (by rw [hE] at hl; show l < 1000; have : l < 500 := hl; omega)
          giv := fun l L hl hL => hg2 l L hl (hst.giv l L (by rw [hE] at hl; show l < 1000; have : l < 500 := hl; omega) hL) }
      have hend2 := endT_get out hend
      rw [ho] at hend2
      have hfz : frozenC [] rt hpr = [] := rfl
      rw [hfz] at hend2
      simp only [List.map_nil, List.nil_append] at hend2
      exact end_ok (fn := fn) (a := { a with defers := [] }) (by omega) hhp hD0 hβ0 q3 hE hst0 hend2
    cases e with
    | x e =>
      cases hex
      cases e with
      | exit id => exact hk.elim
      | normal =>
        cases hr : d.ret cap S.H with
        | none => rw [hr] at hk; exact hk.elim
        | some r =>
          rw [hr] at hk
          exact go r .returning .returning cap vs (by simp) rfl hk (fun k hk => hk) (fun w2 h _ => h) (fun hpre w2 => hret cap S.H r hr hpre w2 vs)
      | ret =>
        cases hr : d.ret cap S.H with
        | none => rw [hr] at hk; exact hk.elim
        | some r =>
          rw [hr] at hk
          exact go r .returning .returning cap vs (by simp) rfl hk (fun k hk => hk) (fun w2 h _ => h) (fun hpre w2 => hret cap S.H r hr hpre w2 vs)
    | pan v =>
      obtain ⟨u, hru, rfl⟩ := hex
      simp only at hk
      cases hn : isNil (ids v) && dfree v
      · rw [hn] at hk; exact hk.elim
      rw [hn] at hk
      simp only [cond_true] at hk
      simp only [Bool.and_eq_true] at hn
      have n1 := isNil_eq hn.1
      cases hr : d.pan v cap S.H with
      | none => rw [hr] at hk; exact hk.elim
      | some r =>
        rw [hr] at hk
        exact go r (.panicking [{ v := u, recovered := false }]) (.panicking [{ v := u, recovered := true }]) (v :: cap) (u :: vs) (by simp) rfl hk (fun k hk => by simpa [idsL, n1] using hk) (fun w2 h _ => by
          simp only [Reps]
          exact ⟨u, vs, rfl, Rep.free v hn.2 hru, h⟩) (fun hpre w2 => hpan v cap S.H r hr hpre w2 u vs)
  · exact hk.elim
theorem sat_of_vcFD (hΓ : ∀ f c, Γ f = some c → Sound P f c) (hm : P.follows .mixedOrders = true) (hΞ : ∀ f t, Ξ f = some t → SoundP P f t) {Δ : FuncId → Option DC} (hΔ : ∀ f d, Δ f = some d → SoundD P f d) {Ω : Nat → Option LoopFam} {f : FuncId} {fn : Func} (hf : P.funcs[f]? = some fn) {args : List SV} {hp : List (Nat × SBlk)} {out : Out} {ret : SV} {hp' : List (Nat × SBlk)}
    (ho : out.get = (ret, hp')) (h : vcFD P Γ Ξ Ω Δ fn args hp out) : Sat P f args hp ret hp' := by
  intro D β w us hargs hhp hD hβ
  unfold vcFD at h
  cases hb : fn.body with
  | none => rw [hb] at h; exact h.elim
  | some c =>
  rw [hb] at h
  simp only at h
  cases hq : Nat.ble args.length fn.ntmps && nodupB (hp.map (·.1)) && hp.all fun x => Nat.blt x.1 500
  · rw [hq] at h; exact h.elim
  rw [hq] at h
  simp only [cond_true] at h
  simp only [Bool.and_eq_true] at hq
  obtain ⟨⟨q1, q2⟩, q3⟩ := hq
  have q1 := Nat.le_of_ble_eq_true q1
  obtain ⟨E, hE⟩ : ∃ E : Env, E = ⟨w, Given β hp, D, β, fun l => l < 500, []⟩ := ⟨_, rfl⟩
  have hst : St E D β (initS fn args hp) { tmps := us.toArray ++ Array.replicate (fn.ntmps - us.toArray.size) undef, defers := [] } w := by
    subst hE
    exact init_ok (by omega) q1 hargs hhp hD hβ
  refine callsIn_wide.1 (callsIn_of_wp_marks (n := 0) hf hb trivial ?_)
  refine vcD_ok hΓ hm hΞ (E := E) (by rw [hE]) (by rw [hE]; exact fun l h => h) (fun f vs x D1 w1 β2 hx hg2 E'' e S D' β' a w' ex hd hk hs hex => door_ok hΔ ho hhp hD hβ q3 hE hx hg2 hd hk hs hex) c 0 _ _ D β _ w h hst fun e S D1 β1 a w' he hs => ?_
  have post : endT P fn S out → ∃ v, (results fn a.tmps).run P w' = .ok v w' ∧ ∃ v' D' β', (Ending.returned v) = .returned v' ∧ After D β w hp ret hp' v' D' β' w' := fun he => end_ok (by omega) hhp hD hβ q3 hE hs (by have := endT_get out he; rw [ho] at this; exact this)
  have hdf : a.defers = [] := by rw [hs.df, hE]
  cases e with
  | normal =>
    show LeavesInM Fence.wide 0 P fn a.tmps _ a.defers .returning w'
    rw [hdf]
    exact post he
  | ret =>
    show LeavesInM Fence.wide 0 P fn a.tmps _ a.defers .returning w'
    rw [hdf]
    exact post he
  | exit id => exact he.elim
theorem satD_of (hΓ : ∀ f c, Γ f = some c → Sound P f c) (hm : P.follows .mixedOrders = true) {Ω : Nat → Option LoopFam} {f : FuncId} {fn : Func} (hf : P.funcs[f]? = some fn) {args : List SV} {hp : List (Nat × SBlk)} {out : Out} {ret : SV} {hp' : List (Nat × SBlk)}
    (ho : out.get = (ret, hp')) (h : vcGD P Γ Ω fn args hp out) (u : FrameMode) (w : World) (us : List Value) : SatC (fun R => CallsDIn Fence.wide 0 P f us.toArray u w fun e u' w' => u' = u ∧ R e w') .returned w us args hp ret hp' := by
  intro D β hargs hhp hD hβ
  unfold vcGD at h
  cases hb : fn.body with
  | none => rw [hb] at h; exact h.elim
  | some c =>
  rw [hb] at h
  simp only at h
  cases hq : Nat.ble args.length fn.ntmps && (nodupB (hp.map (·.1)) && ((hp.all fun x => Nat.blt x.1 1000) && flat c))
  · rw [hq] at h; exact h.elim
  rw [hq] at h
  simp only [cond_true] at h
  simp only [Bool.and_eq_true] at hq
  obtain ⟨q1, q2, q3, q4⟩ := hq
  have q1 := Nat.le_of_ble_eq_true q1
  obtain ⟨E, hE⟩ : ∃ E : Env, E = ⟨w, Given β hp, D, β, fun l => l < 1000, []⟩ := ⟨_, rfl⟩
  have hst : St E D β (initS fn args hp) { tmps := us.toArray ++ Array.replicate (fn.ntmps - us.toArray.size) undef, defers := [] } w := by
    subst hE
    exact init_ok (Nat.le_refl _) q1 hargs hhp hD hβ
  refine callsDIn_of_wp hf hb trivial ?_
  refine vcP_ok hΓ hm (Ξ := fun _ => none) (fun f t h => by cases h) c 0 E _ _ D β _ w _ (by rw [hE]; exact fun l h => h) h hst fun E' e S' D' β' a' w' ex hd hfl he hs' hx => ?_
  have := hfl q4
  subst this
  have hdf : a'.defers = [] := by rw [hs'.df, hE]
  have post : endT P fn S' out → ∃ v, (results fn a'.tmps).run P w' = .ok v w' ∧ ∃ v' D' β', (Ending.returned v) = .returned v' ∧ After D β w hp ret hp' v' D' β' w' := fun he => end_ok (Nat.le_refl _) hhp hD hβ q3 hE hs' (by have := endT_get out he; rw [ho] at this; exact this)
  cases e with
  | pan v => exact he.elim
  | x e =>
    cases hx
    cases e with
    | normal => exact ⟨hdf, post he⟩
    | ret => exact ⟨hdf, post he⟩
    | exit id => exact he.elim
end
end Go.Proofs.YtbfdchahapajaaaGreatDoor
namespace Go.Proofs.YtbfdchahapajaaaGreatDoor
open Go Go.RowKit
set_option linter.unusedVariables false
set_option linter.unusedSimpArgs false
def recS : Code → Option (Nat × Nat × Code)
  | .seq (.region _ ops false) y => match ops.toList with
    | [⟨some t, .call c, _, _, _, none⟩, ⟨some t', .assign (.tmp t2), _, _, _, none⟩] => match c.callee with
      | .builtin .recover => cond (Nat.beq t2 t && isNil c.args.toList) (some (t, t', y)) none
      | _ => none
    | _ => none
  | _ => none
section
variable (P : Program) (Γ : FuncId → Option Ctr)
def vcRD (Ω : Nat → Option LoopFam) (fn : Func) (v : SV) (args : List SV) (hp : List (Nat × SBlk)) (out : Out) : Prop :=
  match fn.body with
  | none => False
  | some c => match recS c with
    | none => False
    | some (t, t', y) => cond (Nat.ble args.length fn.ntmps && (nodupB (hp.map (·.1)) && ((hp.all fun x => Nat.blt x.1 1000) && (flat y && (Nat.blt t fn.ntmps && Nat.blt t' fn.ntmps)))))
      (vcP P Γ (fun _ => none) Ω 0 y (((initS fn args hp).put (some t) v).put (some t') v) fun e S => match e with
        | .x (.exit _) => False
        | .x _ => endT P fn S out
        | .pan _ => False) False
end
section
variable {P : Program} {Γ : FuncId → Option Ctr}
theorem recS_of {c : Code} {t t' : Nat} {y : Code} (h : recS c = some (t, t', y)) : ∃ id ty1 ps1 af1 ty2 ps2 af2 tys, c = .seq (.region id #[⟨some t, .call { callee := .builtin .recover, args := #[], argTypes := tys }, ty1, ps1, af1, none⟩, ⟨some t', .assign (.tmp t), ty2, ps2, af2, none⟩] false) y := by
  unfold recS at h
  split at h
  · rename_i id ops y'
    split at h
    · rename_i t1 c1 ty1 ps1 af1 t1' t2 ty2 ps2 af2 e
      split at h
      · rename_i e1
        cases hq : Nat.beq t2 t1 && isNil c1.args.toList
        · rw [hq] at h; cases h
        · rw [hq] at h
          simp only [cond_true, Option.some.injEq, Prod.mk.injEq] at h
          obtain ⟨rfl, rfl, rfl⟩ := h
          simp only [Bool.and_eq_true] at hq
          have e2 := Nat.eq_of_beq_eq_true hq.1
          subst e2
          have e3 := isNil_eq hq.2
          obtain ⟨callee, args, tys⟩ := c1
          simp only at e1 e3
          subst e1
          have e4 : args = #[] := by
            apply Array.ext'
            simpa using e3
          subst e4
          refine ⟨id, ty1, ps1, af1, ty2, ps2, af2, tys, ?_⟩
          congr 2
          apply Array.ext'
          simpa using e
      · cases h
    · cases h
  · cases h
theorem satR_of (hΓ : ∀ f c, Γ f = some c → Sound P f c) (hm : P.follows .mixedOrders = true) {Ω : Nat → Option LoopFam} {f : FuncId} {fn : Func} (hf : P.funcs[f]? = some fn) {v : SV} {args : List SV} {hp : List (Nat × SBlk)} {out : Out} {ret : SV} {hp' : List (Nat × SBlk)}
    (ho : out.get = (ret, hp')) (h : vcRD P Γ Ω fn v args hp out) (w : World) (us : List Value) {u u1 : FrameMode} {pv : Value}
    (hrec : ∀ (c₀ : Frame) (cs : List Frame), c₀.mode = u → (recoverD (c₀ :: cs) = some (pv, { c₀ with mode := u1 } :: cs)) ∨ (recoverD (c₀ :: cs) = none ∧ pv = .nilIface ∧ u1 = u)) :
    SatC (fun R => CallsDIn Fence.wide 0 P f us.toArray u w fun e u' w' => u' = u1 ∧ R e w') .returned w (pv :: us) (v :: args) hp ret hp' := by
  intro D β hargs0 hhp hD hβ
  simp only [Reps] at hargs0
  obtain ⟨x, xs, hxe, hv, hargs⟩ := hargs0
  simp only [List.cons.injEq] at hxe
  obtain ⟨rfl, rfl⟩ := hxe
  unfold vcRD at h
  cases hb : fn.body with
  | none => rw [hb] at h; exact h.elim
  | some c =>
  rw [hb] at h
  simp only at h
  cases hrs : recS c with
  | none => rw [hrs] at h; exact h.elim
  | some tt =>
  obtain ⟨t, t', y⟩ := tt
  rw [hrs] at h
  simp only at h
  cases hq : Nat.ble args.length fn.ntmps && (nodupB (hp.map (·.1)) && ((hp.all fun x => Nat.blt x.1 1000) && (flat y && (Nat.blt t fn.ntmps && Nat.blt t' fn.ntmps))))
  · rw [hq] at h; exact h.elim
  rw [hq] at h
  simp only [cond_true] at h
  simp only [Bool.and_eq_true] at hq
  obtain ⟨q1, q2, q3, q4, q5, q6⟩ := hq
  have q1 := Nat.le_of_ble_eq_true q1
  obtain ⟨E, hE⟩ : ∃ E : Env, E = ⟨w, Given β hp, D, β, fun l => l < 1000, []⟩ := ⟨_, rfl⟩
  obtain ⟨a0, ha0⟩ : ∃ a0 : Act, a0 = { tmps := us.toArray ++ Array.replicate (fn.ntmps - us.toArray.size) undef, defers := [] } := ⟨_, rfl⟩
  have hst : St E D β (initS fn args hp) a0 w := by
    subst hE ha0
    exact init_ok (Nat.le_refl _) q1 hargs hhp hD hβ
  have hst1 := hst.put (dst := some t) (x := v) (u := pv) (by simpa [initS] using q5) hv
  have hst2 := hst1.put (dst := some t') (x := v) (u := pv) (by simpa [initS, Sst.put] using q6) hv
  obtain ⟨id, ty1, ps1, af1, ty2, ps2, af2, tys, rfl⟩ := recS_of hrs
  refine callsDIn_of_wpSIn hf hb trivial fun c₀ cs hu => ?_
  rw [← ha0]
  refine wpSIn_seq (wpSIn_region ?_)
  have hsz : t < a0.tmps.size := by
    rw [hst.size]
    exact Nat.le_of_ble_eq_true q5
  have hval : (a0.put (some t) pv).eval (.tmp t) = pv := by
    show ((a0.put (some t) pv).tmps).getD t undef = pv
    simp only [Act.put]
    rw [Array.getD_eq_getD_getElem?, Array.getElem?_setIfInBounds_self_of_lt hsz]
    rfl
  have fin : ∀ (cs' : List Frame), cs' = { c₀ with mode := u1 } :: cs → Code.wpSIn Fence.wide 0 P y (bodyPostS P fn c₀ cs fun e u' w' => u' = u1 ∧ ∃ v D' β', e = .returned v ∧ After D β w hp ret hp' v D' β' w') ((a0.put (some t) pv).put (some t') pv) cs' w := by
    intro cs' hcs
    subst hcs
    refine wpSIn_of_wpIn rfl ?_
    refine vcP_ok hΓ hm (Ξ := fun _ => none) (fun f t h => by cases h) y 0 E _ _ D β _ w _ (by rw [hE]; exact fun l h => h) h hst2 fun E' e S' D' β' a' w' ex hd hfl he hs' hx => ?_
    have := hfl q4
    subst this
    have hdf : a'.defers = [] := by rw [hs'.df, hE]
    have post : endT P fn S' out → ∃ v, (results fn a'.tmps).run P w' = .ok v w' ∧ ∃ v' D' β', (Ending.returned v) = .returned v' ∧ After D β w hp ret hp' v' D' β' w' := fun he => end_ok (Nat.le_refl _) hhp hD hβ q3 hE hs' (by have := endT_get out he; rw [ho] at this; exact this)
    cases e with
    | pan v => exact he.elim
    | x e =>
      cases hx
      cases e with
      | normal => obtain ⟨v1, k1, k2⟩ := post he; exact ⟨hdf, u1, rfl, v1, k1, rfl, k2⟩
      | ret => obtain ⟨v1, k1, k2⟩ := post he; exact ⟨hdf, u1, rfl, v1, k1, rfl, k2⟩
      | exit id => exact he.elim
  have hr1 : (execOp a0.eval ⟨some t, .call { callee := .builtin .recover, args := #[], argTypes := tys }, ty1, ps1, af1, none⟩).run P w = .ok .recover w := by rfl
  have hr2 : (execOp (a0.put (some t) pv).eval ⟨some t', .assign (.tmp t), ty2, ps2, af2, none⟩).run P w = .ok (.value pv) w := by
    simp only [execOp, hval]
    rfl
  show wpOpsSIn Fence.wide 0 P _ _ [0, 1] a0 (c₀ :: cs) w
  have hw : ∀ (o : Oper) (h : o.guard = none) (y : Nat → Option Bool), Region.wanted o y = true := fun o h y => wanted_none h y
  unfold wpOpsSIn
  simp only [List.getElem?_toArray, List.getElem?_cons_zero]
  refine ⟨fun _ _ => trivial, ?_⟩
  rw [if_pos (hw _ rfl _), hr1]
  simp only
  have two : ∀ (cs' : List Frame), cs' = { c₀ with mode := u1 } :: cs → wpOpsSIn Fence.wide 0 P #[⟨some t, .call { callee := .builtin .recover, args := #[], argTypes := tys }, ty1, ps1, af1, none⟩, ⟨some t', .assign (.tmp t), ty2, ps2, af2, none⟩]
      (Exit.thenS (y.wpSIn Fence.wide 0 P (bodyPostS P fn c₀ cs fun e u' w' => u' = u1 ∧ ∃ v D' β', e = .returned v ∧ After D β w hp ret hp' v D' β' w')) (bodyPostS P fn c₀ cs fun e u' w' => u' = u1 ∧ ∃ v D' β', e = .returned v ∧ After D β w hp ret hp' v D' β' w')) [1] (a0.put (some t) pv) cs' w := by
    intro cs' hcs
    unfold wpOpsSIn
    simp only [List.getElem?_toArray, List.getElem?_cons_succ, List.getElem?_cons_zero]
    refine ⟨fun _ _ => trivial, ?_⟩
    rw [if_pos (hw _ rfl _), hr2]
    simp only
    unfold wpOpsSIn
    exact fin cs' hcs
  rcases hrec c₀ cs hu with hr | ⟨hr, hp0, hu1⟩
  · rw [hr]
    exact two _ rfl
  · rw [hr]
    simp only
    rw [← hp0]
    refine two _ ?_
    rw [hu1, ← hu]
theorem rec_pan {pv : Value} : ∀ (c₀ : Frame) (cs : List Frame), c₀.mode = .panicking [{ v := pv, recovered := false }] → (recoverD (c₀ :: cs) = some (pv, { c₀ with mode := .panicking [{ v := pv, recovered := true }] } :: cs)) ∨ (recoverD (c₀ :: cs) = none ∧ pv = .nilIface ∧ FrameMode.panicking [{ v := pv, recovered := true }] = .panicking [{ v := pv, recovered := false }]) :=
  fun c₀ cs h => .inl (by simp [recoverD, h])
theorem rec_ret : ∀ (c₀ : Frame) (cs : List Frame), c₀.mode = .returning → (recoverD (c₀ :: cs) = some (.nilIface, { c₀ with mode := .returning } :: cs)) ∨ (recoverD (c₀ :: cs) = none ∧ Value.nilIface = .nilIface ∧ FrameMode.returning = .returning) :=
  fun c₀ cs h => .inr ⟨by simp [recoverD, h], rfl, rfl⟩
theorem Spec.satC (S : Spec) {C : (Ending → World → Prop) → Prop} (hC : ∀ {R R' : Ending → World → Prop}, C R → (∀ e w, R e w → R' e w) → C R') {en : Value → Ending} {w : World} {us : List Value}
    (hE : ∀ l H n i ls, S.dec l H = some (i, ls) → l = renL (rho ls n) (S.args i) ∧ givenHp H ls = renH (rho ls n) (S.hp i))
    (h : ∀ i, (∀ c ∈ S.pre i, c.p) → SatC C en w us (S.args i) (S.hp i) (S.ret i) (S.hp' i)) (l : List SV) (H : Nat → Option SBlk) (n : Nat) (hp : ∀ p ∈ (S.ctr.fn l H n).pre, p.p) :
    SatC C en w us l (givenHp H (S.ctr.fn l H n).uses) (S.ctr.fn l H n).ret (S.ctr.fn l H n).hp := by
  simp only [Spec.ctr, Ctr.fn] at hp ⊢
  cases hd : S.dec l H with
  | none =>
    rw [hd] at hp
    exact (hp ⟨False, inferInstance⟩ (by simp [CRes.none, CT.get])).elim
  | some x =>
    obtain ⟨i, ls⟩ := x
    rw [hd] at hp
    simp only at hp ⊢
    cases hk : S.chk i ls n
    · rw [hk] at hp
      exact (hp ⟨False, inferInstance⟩ (by simp [CRes.none, CT.get])).elim
    · rw [hk] at hp
      simp only at hp ⊢
      rw [Out.ct_get] at hp ⊢
      simp only at hp ⊢
      obtain ⟨e1, e2⟩ := hE l H n i ls hd
      rw [e2]
      rw [e1]
      simp only [Spec.chk, Bool.and_eq_true] at hk
      have h1 := Out.all_get hk.1
      exact SatC.ren hC (h i hp) (rho ls n) (fun a b ha hb e => injFrom_ok (List.all_eq_true.1 h1 a ha) b hb e) hk.2.1 hk.2.2
def Spec.no : Spec where
  ι := Unit
  dec := fun _ _ => none
  args := fun _ => []
  out := fun _ => .leaf .any []
theorem Spec.no_enc : ∀ l H n i ls, Spec.no.dec l H = some (i, ls) → l = renL (rho ls n) (Spec.no.args i) ∧ givenHp H ls = renH (rho ls n) (Spec.no.hp i) := fun l H n i ls h => by cases h
def DC.of (sR sP : Spec) : DC := ⟨fun cap H => some (sR.ctr.fn cap H 99000), fun v cap H => some (sP.ctr.fn (v :: cap) H 99000)⟩
theorem CD_mono {f : FuncId} {us : Array Value} {u u1 : FrameMode} {w : World} {R R' : Ending → World → Prop} (h : CallsDIn Fence.wide 0 P f us u w fun e u' w' => u' = u1 ∧ R e w') (k : ∀ e w, R e w → R' e w) : CallsDIn Fence.wide 0 P f us u w fun e u' w' => u' = u1 ∧ R' e w' :=
  h.mono fun e u' w' h2 => ⟨h2.1, k e w' h2.2⟩
theorem SoundD.of {f : FuncId} {sR sP : Spec} (hc : callable P f = true)
    (eR : ∀ l H n i ls, sR.dec l H = some (i, ls) → l = renL (rho ls n) (sR.args i) ∧ givenHp H ls = renH (rho ls n) (sR.hp i))
    (hR : ∀ i, (∀ c ∈ sR.pre i, c.p) → ∀ w us, SatC (fun R => CallsDIn Fence.wide 0 P f us.toArray .returning w fun e u' w' => u' = .returning ∧ R e w') .returned w us (sR.args i) (sR.hp i) (sR.ret i) (sR.hp' i))
    (eP : ∀ l H n i ls, sP.dec l H = some (i, ls) → l = renL (rho ls n) (sP.args i) ∧ givenHp H ls = renH (rho ls n) (sP.hp i))
    (hP : ∀ i, (∀ c ∈ sP.pre i, c.p) → ∀ w pv us, SatC (fun R => CallsDIn Fence.wide 0 P f us.toArray (.panicking [{ v := pv, recovered := false }]) w fun e u' w' => u' = .panicking [{ v := pv, recovered := true }] ∧ R e w') .returned w (pv :: us) (sP.args i) (sP.hp i) (sP.ret i) (sP.hp' i)) :
    SoundD P f (DC.of sR sP) := by
  refine ⟨hc, fun cap H r hr hp w us => ?_, fun v cap H r hr hp w pv us => ?_⟩
  · simp only [DC.of, Option.some.injEq] at hr
    subst hr
    exact sR.satC CD_mono eR (fun i hi => hR i hi w us) cap H 99000 hp
  · simp only [DC.of, Option.some.injEq] at hr
    subst hr
    exact sP.satC CD_mono eP (fun i hi => hP i hi w pv us) (v :: cap) H 99000 hp
def Pof (X : List (Nat × (List SV → Option SV))) : PTab := fun f => lookupL X f
def Dof (X : List (Nat × DC)) : FuncId → Option DC := fun f => lookupL X f
def AllP (P : Program) (X : List (Nat × (List SV → Option SV))) : Prop := ∀ f t, Pof X f = some t → SoundP P f t
def AllD (P : Program) (X : List (Nat × DC)) : Prop := ∀ f d, Dof X f = some d → SoundD P f d
theorem AllP.nil : AllP P [] := fun f c h => by cases h
theorem AllD.nil : AllD P [] := fun f c h => by cases h
theorem AllP.cons {f : Nat} {c : List SV → Option SV} {X : List (Nat × (List SV → Option SV))} (h1 : SoundP P f c) (h2 : AllP P X) : AllP P ((f, c) :: X) := by
  intro g c' hg
  simp only [Pof, lookupL] at hg
  cases hb : Nat.beq g f
  · rw [hb] at hg; exact h2 g c' hg
  · rw [hb] at hg
    simp only [cond_true, Option.some.injEq] at hg
    subst hg
    have := Nat.eq_of_beq_eq_true hb
    subst this
    exact h1
theorem AllD.cons {f : Nat} {c : DC} {X : List (Nat × DC)} (h1 : SoundD P f c) (h2 : AllD P X) : AllD P ((f, c) :: X) := by
  intro g c' hg
  simp only [Dof, lookupL] at hg
  cases hb : Nat.beq g f
  · rw [hb] at hg; exact h2 g c' hg
  · rw [hb] at hg
    simp only [cond_true, Option.some.injEq] at hg
    subst hg
    have := Nat.eq_of_beq_eq_true hb
    subst this
    exact h1
theorem satFD {G : List (Nat × Ctr)} (hG : AllOk P G) {X : List (Nat × (List SV → Option SV))} (hX : AllP P X) {Δ : List (Nat × DC)} (hD : AllD P Δ) (hm : P.follows .mixedOrders = true) {Ω : Nat → Option LoopFam} {f : FuncId} {fn : Func} (hf : P.funcs[f]? = some fn) {args : List SV} {hp : List (Nat × SBlk)} {out : Out}
    {T : Prop} (e : T = vcFD P (Gof G) (Pof X) Ω (Dof Δ) fn args hp out) (h : T) : Sat P f args hp out.get.1 out.get.2 := sat_of_vcFD hG hm hX hD hf rfl (e ▸ h)
end
end Go.Proofs.YtbfdchahapajaaaGreatDoor
namespace Go.Proofs.YtbfdchahapajaaaGreatDoor
set_option linter.unusedVariables false
def leN : List UInt8 → Nat
  | [] => 0
  | b :: l => b.toNat + 256 * leN l
theorem leN_lt (l : List UInt8) : leN l < 256 ^ l.length := by
  induction l with
  | nil => simp [leN]
  | cons b l ih =>
    have hb : b.toNat < 256 := b.toNat_lt
    simp only [leN, List.length_cons, Nat.pow_succ]
    omega
theorem leN_append (a b : List UInt8) : leN (a ++ b) = leN a + 256 ^ a.length * leN b := by
  induction a with
  | nil => simp [leN]
  | cons x a ih =>
    simp only [List.cons_append, leN, ih, List.length_cons, Nat.pow_succ]
    rw [Nat.mul_add, Nat.mul_comm (256 ^ a.length) 256, Nat.mul_assoc, Nat.add_assoc]
end Go.Proofs.YtbfdchahapajaaaGreatDoor
namespace Go.Proofs.YtbfdchahapajaaaGreatDoor
open Go
set_option linter.unusedVariables false
set_option maxRecDepth 100000
def inS (s : ByteArray) (a : Int) : Bool := decide (0 ≤ a) && decide (a ≤ (s.size : Int))
def vldC (s : ByteArray) (a e f : Int) : Bool := cond (e == 0) (inS s a && (f == 0)) (inS s a && (decide (1 ≤ e) && (decide (e ≤ 31) && inS s f)))
def nwB (s : ByteArray) (a : Int) : Bool := decide (a < 0) || decide ((s.size : Int) < a)
def nwA (s : ByteArray) (a : Int) : Int := cond (nwB s a) 0 a
def nwE (s : ByteArray) (a : Int) : Int := cond (nwB s a) 2 0
def lfC (s : ByteArray) (a e : Int) : Int := cond (e == 0) ((s.size : Int) - a) 0
def byE (s : ByteArray) (a e n : Int) : Int := cond (e == 0) (cond (decide (n < 0)) 2 (cond (decide ((s.size : Int) - a < n)) 5 0)) e
def byF (s : ByteArray) (a e f n : Int) : Int := cond (e == 0) (cond (decide (n < 0)) a (cond (decide ((s.size : Int) - a < n)) (s.size : Int) f)) f
def byA (s : ByteArray) (a e n : Int) : Int := cond (byE s a e n == 0) (a + n) a
def byO (s : ByteArray) (a e n : Int) : ByteArray := cond (byE s a e n == 0) (s.extract a.toNat (a + n).toNat) ByteArray.empty
def b1E (e fe : Int) : Int := cond (fe != 0) (cond (e != 0) e fe) e
def b1F (e f fe fa : Int) : Int := cond (fe != 0) (cond (e != 0) f fa) f
def numS (s : ByteArray) : Int := (leN s.data.toList : Nat)
def faE (e x : Int) : Int := cond (e != 0) e x
def faF (s : ByteArray) (e f x : Int) : Int := cond (e != 0) f (min (max x 0) (s.size : Int))
def nbA (s : ByteArray) (i : Nat) : Nat := (s.data.toList.getD i 0).toNat
def c48 : Nat := 281474976710656
def c56 : Nat := 72057594037927936
def hiB (s : ByteArray) : Nat := cond (Nat.beq s.size 8) (nbA s 7 * c56 + nbA s 6 * c48) (cond (Nat.beq s.size 7) (nbA s 6 * c48) 0)
def loB8 (s : ByteArray) (i : Nat) : Nat := leN (s.data.toList.take i)
end Go.Proofs.YtbfdchahapajaaaGreatDoor
namespace Go.Proofs.YtbfdchahapajaaaGreatDoor
open Go Go.RowKit
set_option linter.unusedVariables false
set_option linter.unusedSimpArgs false
set_option maxRecDepth 100000
def cuV (s : ByteArray) (a e f : Int) : List SV := [.v (.string s), .v (.int .i64 a), .v (.int .i64 e), .v (.int .i64 f)]
def sCuNew : Spec where
  ι := ByteArray × Int
  dec l H := match l with
    | [.v (.string s), .v (.int .i64 a)] => some ((s, a), [])
    | _ => none
  args := fun (s, a) => [.v (.string s), .v (.int .i64 a)]
  out := fun (s, a) => .leaf (.ag [.v (.string s), .v (.int .i64 (nwA s a)), .v (.int .i64 (nwE s a)), .v (.int .i64 0)]) []
theorem sCuNew_enc : ∀ l H n i ls, sCuNew.dec l H = some (i, ls) → l = renL (rho ls n) (sCuNew.args i) ∧ givenHp H ls = renH (rho ls n) (sCuNew.hp i) := by
  intro l H n i ls h
  simp only [sCuNew] at h
  repeat' split at h
  all_goals first
    | (cases h; done)
    | (cases h; exact ⟨rfl, rfl⟩)
def sCuIn : Spec where
  ι := Int × ByteArray × Int × Int × Int
  dec l H := match l with
    | [.v (.int .i64 x), .p l0 0 0] => match H l0 with
      | some (.cells 105 [.v (.string s), .v (.int .i64 a), .v (.int .i64 e), .v (.int .i64 f)]) => some ((x, s, a, e, f), [l0])
      | _ => none
    | _ => none
  args := fun (x, s, a, e, f) => [.v (.int .i64 x), .p 0 0 0]
  hp := fun (x, s, a, e, f) => [(0, .cells 105 [.v (.string s), .v (.int .i64 a), .v (.int .i64 e), .v (.int .i64 f)])]
  out := fun (x, s, a, e, f) => .leaf (.v (.bool (inS s x))) [(0, .cells 105 [.v (.string s), .v (.int .i64 a), .v (.int .i64 e), .v (.int .i64 f)])]
theorem sCuIn_enc : ∀ l H n i ls, sCuIn.dec l H = some (i, ls) → l = renL (rho ls n) (sCuIn.args i) ∧ givenHp H ls = renH (rho ls n) (sCuIn.hp i) := by
  intro l H n i ls h
  simp only [sCuIn] at h
  repeat' split at h
  all_goals first
    | (cases h; done)
    | (cases h; exact ⟨rfl, rfl⟩)
    | (cases h; refine ⟨rfl, ?_⟩; simp only [givenHp, List.filterMap_cons, List.filterMap_nil, Option.map, *]; rfl)
def sCuVal : Spec where
  ι := ByteArray × Int × Int × Int
  dec l H := match l with
    | [.ag [.v (.string s), .v (.int .i64 a), .v (.int .i64 e), .v (.int .i64 f)]] => some ((s, a, e, f), [])
    | _ => none
  args := fun (s, a, e, f) => [.ag [.v (.string s), .v (.int .i64 a), .v (.int .i64 e), .v (.int .i64 f)]]
  out := fun (s, a, e, f) => .leaf (.v (.bool (vldC s a e f))) []
theorem sCuVal_enc : ∀ l H n i ls, sCuVal.dec l H = some (i, ls) → l = renL (rho ls n) (sCuVal.args i) ∧ givenHp H ls = renH (rho ls n) (sCuVal.hp i) := by
  intro l H n i ls h
  simp only [sCuVal] at h
  repeat' split at h
  all_goals first
    | (cases h; done)
    | (cases h; exact ⟨rfl, rfl⟩)
def sCuOf : Spec where
  ι := ByteArray × Int × Int × Int
  dec l H := match l with
    | [.ag [.v (.string s), .v (.int .i64 a), .v (.int .i64 e), .v (.int .i64 f)]] => some ((s, a, e, f), [])
    | _ => none
  args := fun (s, a, e, f) => [.ag [.v (.string s), .v (.int .i64 a), .v (.int .i64 e), .v (.int .i64 f)]]
  pre := fun (s, a, e, f) => [⟨vldC s a e f = true, inferInstance⟩]
  out := fun (s, a, e, f) => .leaf (.p 2000 0 0) [(2000, .cells 158 [.v (.string s), .v (.int .i64 a), .v (.int .i64 e), .v (.int .i64 f)])]
theorem sCuOf_enc : ∀ l H n i ls, sCuOf.dec l H = some (i, ls) → l = renL (rho ls n) (sCuOf.args i) ∧ givenHp H ls = renH (rho ls n) (sCuOf.hp i) := by
  intro l H n i ls h
  simp only [sCuOf] at h
  repeat' split at h
  all_goals first
    | (cases h; done)
    | (cases h; exact ⟨rfl, rfl⟩)
def sCuBad : Spec where
  ι := ByteArray × Int × Int × Int
  dec l H := match l with
    | [.p l0 0 0] => match H l0 with
      | some (.cells 158 [.v (.string s), .v (.int .i64 a), .v (.int .i64 e), .v (.int .i64 f)]) => some ((s, a, e, f), [l0])
      | _ => none
    | _ => none
  args := fun (s, a, e, f) => [.p 0 0 0]
  hp := fun (s, a, e, f) => [(0, .cells 158 [.v (.string s), .v (.int .i64 a), .v (.int .i64 e), .v (.int .i64 f)])]
  out := fun (s, a, e, f) => .leaf (.v (.bool (e != 0))) [(0, .cells 158 [.v (.string s), .v (.int .i64 a), .v (.int .i64 e), .v (.int .i64 f)])]
theorem sCuBad_enc : ∀ l H n i ls, sCuBad.dec l H = some (i, ls) → l = renL (rho ls n) (sCuBad.args i) ∧ givenHp H ls = renH (rho ls n) (sCuBad.hp i) := by
  intro l H n i ls h
  simp only [sCuBad] at h
  repeat' split at h
  all_goals first
    | (cases h; done)
    | (cases h; exact ⟨rfl, rfl⟩)
    | (cases h; refine ⟨rfl, ?_⟩; simp only [givenHp, List.filterMap_cons, List.filterMap_nil, Option.map, *]; rfl)
def sCuLeft : Spec where
  ι := ByteArray × Int × Int × Int
  dec l H := match l with
    | [.p l0 0 0] => match H l0 with
      | some (.cells 158 [.v (.string s), .v (.int .i64 a), .v (.int .i64 e), .v (.int .i64 f)]) => some ((s, a, e, f), [l0])
      | _ => none
    | _ => none
  args := fun (s, a, e, f) => [.p 0 0 0]
  hp := fun (s, a, e, f) => [(0, .cells 158 [.v (.string s), .v (.int .i64 a), .v (.int .i64 e), .v (.int .i64 f)])]
  pre := fun (s, a, e, f) => [⟨vldC s a e f = true, inferInstance⟩, ⟨s.size ≤ 9223372036854775807, inferInstance⟩]
  out := fun (s, a, e, f) => .leaf (.v (.int .i64 (lfC s a e))) [(0, .cells 158 [.v (.string s), .v (.int .i64 a), .v (.int .i64 e), .v (.int .i64 f)])]
theorem sCuLeft_enc : ∀ l H n i ls, sCuLeft.dec l H = some (i, ls) → l = renL (rho ls n) (sCuLeft.args i) ∧ givenHp H ls = renH (rho ls n) (sCuLeft.hp i) := by
  intro l H n i ls h
  simp only [sCuLeft] at h
  repeat' split at h
  all_goals first
    | (cases h; done)
    | (cases h; exact ⟨rfl, rfl⟩)
    | (cases h; refine ⟨rfl, ?_⟩; simp only [givenHp, List.filterMap_cons, List.filterMap_nil, Option.map, *]; rfl)
def sCuBy1 : Spec where
  ι := Int × Int × ByteArray × Int × Int × Int
  own := true
  dec l H := match l with
    | [.p l0 0 0, .p l1 0 0] => match H l0 with
      | some (.cells 26 [.v (.int .i64 fe), .v (.int .i64 fa)]) => match H l1 with
        | some (.cells 156 [.p l2 0 0]) => match H l2 with
          | some (.cells 158 [.v (.string s), .v (.int .i64 a), .v (.int .i64 e), .v (.int .i64 f)]) => some ((fe, fa, s, a, e, f), [l0, l1, l2])
          | _ => none
        | _ => none
      | _ => none
    | _ => none
  args := fun (fe, fa, s, a, e, f) => [.p 0 0 0, .p 1 0 0]
  hp := fun (fe, fa, s, a, e, f) => [(0, .cells 26 [.v (.int .i64 fe), .v (.int .i64 fa)]), (1, .cells 156 [.p 2 0 0]), (2, .cells 158 [.v (.string s), .v (.int .i64 a), .v (.int .i64 e), .v (.int .i64 f)])]
  out := fun (fe, fa, s, a, e, f) => .leaf (.tu []) [(0, .cells 26 [.v (.int .i64 fe), .v (.int .i64 fa)]), (1, .cells 156 [.p 2 0 0]), (2, .cells 158 [.v (.string s), .v (.int .i64 a), .v (.int .i64 (b1E e fe)), .v (.int .i64 (b1F e f fe fa))])]
theorem sCuBy1_enc : ∀ l H n i ls, sCuBy1.dec l H = some (i, ls) → l = renL (rho ls n) (sCuBy1.args i) ∧ givenHp H ls = renH (rho ls n) (sCuBy1.hp i) := by
  intro l H n i ls h
  simp only [sCuBy1] at h
  repeat' split at h
  all_goals first
    | (cases h; done)
    | (cases h; exact ⟨rfl, rfl⟩)
    | (cases h; refine ⟨rfl, ?_⟩; simp only [givenHp, List.filterMap_cons, List.filterMap_nil, Option.map, *]; rfl)
def sCuBy : Spec where
  ι := Int × ByteArray × Int × Int × Int
  dec l H := match l with
    | [.p l0 0 0, .v (.int .i64 n)] => match H l0 with
      | some (.cells 158 [.v (.string s), .v (.int .i64 a), .v (.int .i64 e), .v (.int .i64 f)]) => some ((n, s, a, e, f), [l0])
      | _ => none
    | _ => none
  args := fun (n, s, a, e, f) => [.p 0 0 0, .v (.int .i64 n)]
  hp := fun (n, s, a, e, f) => [(0, .cells 158 [.v (.string s), .v (.int .i64 a), .v (.int .i64 e), .v (.int .i64 f)])]
  pre := fun (n, s, a, e, f) => [⟨vldC s a e f = true, inferInstance⟩, ⟨s.size ≤ 9223372036854775807, inferInstance⟩]
  out := fun (n, s, a, e, f) => .leaf (.v (.string (byO s a e n))) [(0, .cells 158 [.v (.string s), .v (.int .i64 (byA s a e n)), .v (.int .i64 (byE s a e n)), .v (.int .i64 (byF s a e f n))])]
theorem sCuBy_enc : ∀ l H n i ls, sCuBy.dec l H = some (i, ls) → l = renL (rho ls n) (sCuBy.args i) ∧ givenHp H ls = renH (rho ls n) (sCuBy.hp i) := by
  intro l H n i ls h
  simp only [sCuBy] at h
  repeat' split at h
  all_goals first
    | (cases h; done)
    | (cases h; exact ⟨rfl, rfl⟩)
    | (cases h; refine ⟨rfl, ?_⟩; simp only [givenHp, List.filterMap_cons, List.filterMap_nil, Option.map, *]; rfl)
def sCuNum : Spec where
  ι := ByteArray
  dec l H := match l with
    | [.v (.string s)] => some (s, [])
    | _ => none
  args := fun s => [.v (.string s)]
  pre := fun s => [⟨s.size ≤ 8, inferInstance⟩]
  out := fun s => .leaf (.v (.int .u64 (numS s))) []
theorem sCuNum_enc : ∀ l H n i ls, sCuNum.dec l H = some (i, ls) → l = renL (rho ls n) (sCuNum.args i) ∧ givenHp H ls = renH (rho ls n) (sCuNum.hp i) := by
  intro l H n i ls h
  simp only [sCuNum] at h
  repeat' split at h
  all_goals first
    | (cases h; done)
    | (cases h; exact ⟨rfl, rfl⟩)
def sCuDone : Spec where
  ι := Int × ByteArray × Int × Int × Int
  dec l H := match l with
    | [.p l0 0 0, .v (.int .i64 n)] => match H l0 with
      | some (.cells 158 [.v (.string s), .v (.int .i64 a), .v (.int .i64 e), .v (.int .i64 f)]) => some ((n, s, a, e, f), [l0])
      | _ => none
    | _ => none
  args := fun (n, s, a, e, f) => [.p 0 0 0, .v (.int .i64 n)]
  hp := fun (n, s, a, e, f) => [(0, .cells 158 [.v (.string s), .v (.int .i64 a), .v (.int .i64 e), .v (.int .i64 f)])]
  out := fun (n, s, a, e, f) => .leaf (.tu [.ag [.v (.string s), .v (.int .i64 a), .v (.int .i64 e), .v (.int .i64 f)], .v (.int .i64 (cond (e != 0) 0 n))]) [(0, .cells 158 [.v (.string s), .v (.int .i64 a), .v (.int .i64 e), .v (.int .i64 f)])]
theorem sCuDone_enc : ∀ l H n i ls, sCuDone.dec l H = some (i, ls) → l = renL (rho ls n) (sCuDone.args i) ∧ givenHp H ls = renH (rho ls n) (sCuDone.hp i) := by
  intro l H n i ls h
  simp only [sCuDone] at h
  repeat' split at h
  all_goals first
    | (cases h; done)
    | (cases h; exact ⟨rfl, rfl⟩)
    | (cases h; refine ⟨rfl, ?_⟩; simp only [givenHp, List.filterMap_cons, List.filterMap_nil, Option.map, *]; rfl)
def sCuByte : Spec where
  ι := ByteArray × Int × Int × Int
  dec l H := match l with
    | [.ag [.v (.string s), .v (.int .i64 a), .v (.int .i64 e), .v (.int .i64 f)]] => some ((s, a, e, f), [])
    | _ => none
  args := fun (s, a, e, f) => [.ag [.v (.string s), .v (.int .i64 a), .v (.int .i64 e), .v (.int .i64 f)]]
  pre := fun (s, a, e, f) => [⟨vldC s a e f = true, inferInstance⟩, ⟨s.size ≤ 9223372036854775807, inferInstance⟩]
  out := fun (s, a, e, f) => .leaf (.tu [.ag [.v (.string s), .v (.int .i64 (byA s a e 1)), .v (.int .i64 (byE s a e 1)), .v (.int .i64 (byF s a e f 1))], .v (.int .i64 (numS (byO s a e 1)))]) []
theorem sCuByte_enc : ∀ l H n i ls, sCuByte.dec l H = some (i, ls) → l = renL (rho ls n) (sCuByte.args i) ∧ givenHp H ls = renH (rho ls n) (sCuByte.hp i) := by
  intro l H n i ls h
  simp only [sCuByte] at h
  repeat' split at h
  all_goals first
    | (cases h; done)
    | (cases h; exact ⟨rfl, rfl⟩)
def sCuLit : Spec where
  ι := ByteArray × Int × Int × Int × Int
  dec l H := match l with
    | [.ag [.v (.string s), .v (.int .i64 a), .v (.int .i64 e), .v (.int .i64 f)], .v (.int .i64 n)] => some ((s, a, e, f, n), [])
    | _ => none
  args := fun (s, a, e, f, n) => [.ag [.v (.string s), .v (.int .i64 a), .v (.int .i64 e), .v (.int .i64 f)], .v (.int .i64 n)]
  pre := fun (s, a, e, f, n) => [⟨vldC s a e f = true, inferInstance⟩, ⟨s.size ≤ 9223372036854775807, inferInstance⟩, ⟨1 ≤ n, inferInstance⟩, ⟨n ≤ 8, inferInstance⟩]
  out := fun (s, a, e, f, n) => .leaf (.tu [.ag [.v (.string s), .v (.int .i64 (byA s a e n)), .v (.int .i64 (byE s a e n)), .v (.int .i64 (byF s a e f n))], .v (.int .u64 (numS (byO s a e n)))]) []
theorem sCuLit_enc : ∀ l H n i ls, sCuLit.dec l H = some (i, ls) → l = renL (rho ls n) (sCuLit.args i) ∧ givenHp H ls = renH (rho ls n) (sCuLit.hp i) := by
  intro l H n i ls h
  simp only [sCuLit] at h
  repeat' split at h
  all_goals first
    | (cases h; done)
    | (cases h; exact ⟨rfl, rfl⟩)
def sCuBys : Spec where
  ι := ByteArray × Int × Int × Int × Int
  dec l H := match l with
    | [.ag [.v (.string s), .v (.int .i64 a), .v (.int .i64 e), .v (.int .i64 f)], .v (.int .i64 n)] => some ((s, a, e, f, n), [])
    | _ => none
  args := fun (s, a, e, f, n) => [.ag [.v (.string s), .v (.int .i64 a), .v (.int .i64 e), .v (.int .i64 f)], .v (.int .i64 n)]
  pre := fun (s, a, e, f, n) => [⟨vldC s a e f = true, inferInstance⟩, ⟨s.size ≤ 9223372036854775807, inferInstance⟩]
  out := fun (s, a, e, f, n) => .leaf (.tu [.ag [.v (.string s), .v (.int .i64 (byA s a e n)), .v (.int .i64 (byE s a e n)), .v (.int .i64 (byF s a e f n))], .v (.string (byO s a e n))]) []
theorem sCuBys_enc : ∀ l H n i ls, sCuBys.dec l H = some (i, ls) → l = renL (rho ls n) (sCuBys.args i) ∧ givenHp H ls = renH (rho ls n) (sCuBys.hp i) := by
  intro l H n i ls h
  simp only [sCuBys] at h
  repeat' split at h
  all_goals first
    | (cases h; done)
    | (cases h; exact ⟨rfl, rfl⟩)
def sCuSk : Spec where
  ι := ByteArray × Int × Int × Int × Int
  dec l H := match l with
    | [.ag [.v (.string s), .v (.int .i64 a), .v (.int .i64 e), .v (.int .i64 f)], .v (.int .i64 n)] => some ((s, a, e, f, n), [])
    | _ => none
  args := fun (s, a, e, f, n) => [.ag [.v (.string s), .v (.int .i64 a), .v (.int .i64 e), .v (.int .i64 f)], .v (.int .i64 n)]
  pre := fun (s, a, e, f, n) => [⟨vldC s a e f = true, inferInstance⟩, ⟨s.size ≤ 9223372036854775807, inferInstance⟩]
  out := fun (s, a, e, f, n) => .leaf (.ag [.v (.string s), .v (.int .i64 (byA s a e n)), .v (.int .i64 (byE s a e n)), .v (.int .i64 (byF s a e f n))]) []
theorem sCuSk_enc : ∀ l H n i ls, sCuSk.dec l H = some (i, ls) → l = renL (rho ls n) (sCuSk.args i) ∧ givenHp H ls = renH (rho ls n) (sCuSk.hp i) := by
  intro l H n i ls h
  simp only [sCuSk] at h
  repeat' split at h
  all_goals first
    | (cases h; done)
    | (cases h; exact ⟨rfl, rfl⟩)
def sCuFa : Spec where
  ι := ByteArray × Int × Int × Int × Int × Int
  dec l H := match l with
    | [.ag [.v (.string s), .v (.int .i64 a), .v (.int .i64 e), .v (.int .i64 f)], .v (.int .i64 x), .v (.int .i64 y)] => some ((s, a, e, f, x, y), [])
    | _ => none
  args := fun (s, a, e, f, x, y) => [.ag [.v (.string s), .v (.int .i64 a), .v (.int .i64 e), .v (.int .i64 f)], .v (.int .i64 x), .v (.int .i64 y)]
  pre := fun (s, a, e, f, x, y) => [⟨vldC s a e f = true, inferInstance⟩, ⟨1 ≤ x, inferInstance⟩, ⟨x ≤ 31, inferInstance⟩]
  out := fun (s, a, e, f, x, y) => .leaf (.ag [.v (.string s), .v (.int .i64 a), .v (.int .i64 (faE e x)), .v (.int .i64 (faF s e f y))]) []
theorem sCuFa_enc : ∀ l H n i ls, sCuFa.dec l H = some (i, ls) → l = renL (rho ls n) (sCuFa.args i) ∧ givenHp H ls = renH (rho ls n) (sCuFa.hp i) := by
  intro l H n i ls h
  simp only [sCuFa] at h
  repeat' split at h
  all_goals first
    | (cases h; done)
    | (cases h; exact ⟨rfl, rfl⟩)
def oNum (s : ByteArray) : LoopInv := { ι := Nat, p := fun i => i ≤ s.size ∧ i ≤ 6, tm := fun i => [(0, .v (.string s)), (3, .v (.int .u64 ((hiB s + loB8 s i : Nat) : Int))), (25, .v (.int .i64 (min (s.size : Int) 6))), (26, .v (.int .i64 (i : Nat)))], hp := fun _ => [], μ := fun i => 6 - i }
def oNumF (s : ByteArray) : Nat → Option LoopFam := fun k => cond (Nat.beq k 0) (some (.one (oNum s))) (cond (Nat.beq k 1007) (some (.one { ι := Unit, p := fun _ => True, tm := fun _ => [(0, .v (.string s)), (3, .v (.int .u64 ((hiB s : Nat) : Int)))], hp := fun _ => [], μ := fun _ => 0 })) none)
def oBy (n : Int) (s : ByteArray) (a e f : Int) : Nat → Option LoopFam := fun k => cond (Nat.beq k 1003) (some (.one { ι := Unit, p := fun _ => True, tm := fun _ => [(1, .v (.int .i64 n)), (2, .p 501 0 0), (5, .p 500 0 0), (6, .fn (.func 110) [] [.p 500 0 0, .p 501 0 0])], hp := fun _ => [(0, .cells 158 [.v (.string s), .v (.int .i64 a), .v (.int .i64 e), .v (.int .i64 f)]), (500, .cells 26 [.v (.int .i64 0), .v (.int .i64 0)]), (501, .cells 156 [.p 0 0 0])], μ := fun _ => 0 })) none
def GCa : List (Nat × Ctr) := (48, sCuNew.ctr) :: (147, sCuIn.ctr) :: (95, sCuBad.ctr) :: (94, sCuNum.ctr) :: []
def GCb : List (Nat × Ctr) := (109, sCuVal.ctr) :: (111, sCuLeft.ctr) :: (93, sCuDone.ctr) :: GCa
def DCb : List (Nat × DC) := (110, DC.of sCuBy1 Spec.no) :: []
def GCc : List (Nat × Ctr) := (81, sCuOf.ctr) :: (82, sCuBy.ctr) :: GCb
def GCd : List (Nat × Ctr) := (73, sCuByte.ctr) :: (74, sCuLit.ctr) :: (67, sCuBys.ctr) :: (75, sCuFa.ctr) :: GCc
def GCe : List (Nat × Ctr) := (72, sCuSk.ctr) :: GCd
end Go.Proofs.YtbfdchahapajaaaGreatDoor
namespace Go.Proofs.YtbfdchahapajaaaGreatDoor
open Go Go.RowKit
set_option linter.unusedVariables false
set_option maxRecDepth 100000
def cuNew_t (s : ByteArray) (a : Int) : Prop :=
 (decide (a < (0 : Int)) = true → s = s ∧ (0 : Int) = nwA s a ∧ (2 : Int) = nwE s a ∧ (0 : Int) = (0 : Int)) ∧
 (decide (a < (0 : Int)) = false →
 (decide (a > (↑(ByteArray.size s) : Int)) = true → s = s ∧ (0 : Int) = nwA s a ∧ (2 : Int) = nwE s a ∧ (0 : Int) = (0 : Int)) ∧
 (decide (a > (↑(ByteArray.size s) : Int)) = false → s = s ∧ a = nwA s a ∧ (0 : Int) = nwE s a ∧ (0 : Int) = (0 : Int)))
theorem cuNew_e (s : ByteArray) (a : Int) : cuNew_t s a = vcG Tryz.prog (Gof []) (fun _ => none) Tryz.f48 [.v (.string s), .v (.int .i64 a)] [] (.leaf ((.ag [.v (.string s), .v (.int .i64 (nwA s a)), .v (.int .i64 (nwE s a)), .v (.int .i64 0)])) ([])) := by kernel_rfl
def cuIn_t (x : Int) (s : ByteArray) (a e f : Int) : Prop :=
 (decide (x ≥ (0 : Int)) = true → decide (x ≤ (↑(ByteArray.size s) : Int)) = inS s x ∧ s = s ∧ a = a ∧ e = e ∧ f = f) ∧
 (decide (x ≥ (0 : Int)) = false → false = inS s x ∧ s = s ∧ a = a ∧ e = e ∧ f = f)
theorem cuIn_e (x : Int) (s : ByteArray) (a e f : Int) : cuIn_t x s a e f = vcG Tryz.prog (Gof []) (fun _ => none) Tryz.f147 [.v (.int .i64 x), .p 0 0 0] [(0, .cells 105 (cuV s a e f))] (.leaf ((.v (.bool (inS s x)))) ([(0, .cells 105 (cuV s a e f))])) := by kernel_rfl
def cuBad_t (s : ByteArray) (a e f : Int) : Prop :=
 (e != (0 : Int)) = (e != (0 : Int)) ∧ s = s ∧ a = a ∧ e = e ∧ f = f
theorem cuBad_e (s : ByteArray) (a e f : Int) : cuBad_t s a e f = vcG Tryz.prog (Gof []) (fun _ => none) Tryz.f95 [.p 0 0 0] [(0, .cells 158 (cuV s a e f))] (.leaf ((.v (.bool (e != 0)))) ([(0, .cells 158 (cuV s a e f))])) := by kernel_rfl
def cuNum_t (s : ByteArray) : Prop :=
 ((((↑(ByteArray.size s) : Int) == (8 : Int)) = true →
 (0 : Int) ≤ (7 : Int) ∧
 (7 : Int) < (↑(ByteArray.size s) : Int) ∧
 (0 : Int) ≤ (56 : Int) ∧
 (0 : Int) ≤ (6 : Int) ∧
 (6 : Int) < (↑(ByteArray.size s) : Int) ∧
 (0 : Int) ≤ (48 : Int) ∧
 ∃ (x0 : Unit),
 True ∧
 s = s ∧
 bits BinOp.or IntKind.u64
 (bits BinOp.or IntKind.u64 (0 : Int)
 (IntKind.wrap IntKind.u64
 (IntKind.wrap IntKind.u64 (↑(UInt8.toNat (List.getD s.data.toList (Int.toNat (7 : Int)) (0 : UInt8))) : Int) *
 (2 : Int) ^ min (Int.toNat (56 : Int)) (IntKind.bits IntKind.u64))))
 (IntKind.wrap IntKind.u64
 (IntKind.wrap IntKind.u64 (↑(UInt8.toNat (List.getD s.data.toList (Int.toNat (6 : Int)) (0 : UInt8))) : Int) *
 (2 : Int) ^ min (Int.toNat (48 : Int)) (IntKind.bits IntKind.u64))) =
 (↑(hiB s) : Int)) ∧
 (((↑(ByteArray.size s) : Int) == (8 : Int)) = false →
 (((↑(ByteArray.size s) : Int) == (7 : Int)) = true →
 (0 : Int) ≤ (6 : Int) ∧
 (6 : Int) < (↑(ByteArray.size s) : Int) ∧
 (0 : Int) ≤ (48 : Int) ∧
 ∃ (x1 : Unit),
 True ∧
 s = s ∧
 bits BinOp.or IntKind.u64 (0 : Int)
 (IntKind.wrap IntKind.u64
 (IntKind.wrap IntKind.u64 (↑(UInt8.toNat (List.getD s.data.toList (Int.toNat (6 : Int)) (0 : UInt8))) : Int) *
 (2 : Int) ^ min (Int.toNat (48 : Int)) (IntKind.bits IntKind.u64))) =
 (↑(hiB s) : Int)) ∧
 (((↑(ByteArray.size s) : Int) == (7 : Int)) = false → ∃ (x2 : Unit), True ∧ s = s ∧ (0 : Int) = (↑(hiB s) : Int)))) ∧
 ∀ (x3 : Unit),
 True →
 (∃ (x4 : Nat),
 (x4 ≤ ByteArray.size s ∧ x4 ≤ (6 : Nat)) ∧
 s = s ∧ (↑(hiB s) : Int) = (↑(hiB s + loB8 s x4) : Int) ∧ min (↑(ByteArray.size s) : Int) (6 : Int) = min (↑(ByteArray.size s) : Int) (6 : Int) ∧ (0 : Int) = (↑x4 : Int)) ∧
 ∀ (x5 : Nat),
 x5 ≤ ByteArray.size s ∧ x5 ≤ (6 : Nat) →
 (decide ((↑x5 : Int) < min (↑(ByteArray.size s) : Int) (6 : Int)) = true →
 (0 : Int) ≤ (↑x5 : Int) ∧
 (↑x5 : Int) < (↑(ByteArray.size s) : Int) ∧
 (0 : Int) ≤ IntKind.wrap IntKind.i64 ((8 : Int) * (↑x5 : Int)) ∧
 ∃ (y6 : Nat),
 (y6 ≤ ByteArray.size s ∧ y6 ≤ (6 : Nat)) ∧
 Nat.sub (6 : Nat) y6 < Nat.sub (6 : Nat) x5 ∧
 s = s ∧
 bits BinOp.or IntKind.u64 (↑(hiB s + loB8 s x5) : Int)
 (IntKind.wrap IntKind.u64
 (IntKind.wrap IntKind.u64 (↑(UInt8.toNat (List.getD s.data.toList (Int.toNat (↑x5 : Int)) (0 : UInt8))) : Int) *
 (2 : Int) ^ min (Int.toNat (IntKind.wrap IntKind.i64 ((8 : Int) * (↑x5 : Int)))) (IntKind.bits IntKind.u64))) =
 (↑(hiB s + loB8 s y6) : Int) ∧
 min (↑(ByteArray.size s) : Int) (6 : Int) = min (↑(ByteArray.size s) : Int) (6 : Int) ∧ IntKind.wrap IntKind.i64 ((↑x5 : Int) + (1 : Int)) = (↑y6 : Int)) ∧
 (decide ((↑x5 : Int) < min (↑(ByteArray.size s) : Int) (6 : Int)) = false → (↑(hiB s + loB8 s x5) : Int) = numS s)
theorem cuNum_e (s : ByteArray) : cuNum_t s = vcG Tryz.prog (Gof []) (oNumF s) Tryz.f94 [.v (.string s)] [] (.leaf ((.v (.int .u64 (numS s)))) ([])) := by kernel_rfl
def cuVal_t (s : ByteArray) (a e f : Int) : Prop :=
 ((e == (0 : Int)) = true → (inS s a = true → (f == (0 : Int)) = vldC s a e f) ∧ (inS s a = false → false = vldC s a e f)) ∧
 ((e == (0 : Int)) = false →
 (inS s a = true →
 (decide (e ≥ (1 : Int)) = true → (decide (e ≤ (31 : Int)) = true → inS s f = vldC s a e f) ∧ (decide (e ≤ (31 : Int)) = false → false = vldC s a e f)) ∧
 (decide (e ≥ (1 : Int)) = false → false = vldC s a e f)) ∧
 (inS s a = false → false = vldC s a e f))
theorem cuVal_e (s : ByteArray) (a e f : Int) : cuVal_t s a e f = vcG Tryz.prog (Gof GCa) (fun _ => none) Tryz.f109 [.ag (cuV s a e f)] [] (.leaf ((.v (.bool (vldC s a e f)))) ([])) := by kernel_rfl
def cuLeft_t (s : ByteArray) (a e f : Int) : Prop :=
 ((e != (0 : Int)) = true → (0 : Int) = lfC s a e ∧ s = s ∧ a = a ∧ e = e ∧ f = f) ∧
 ((e != (0 : Int)) = false → IntKind.wrap IntKind.i64 ((↑(ByteArray.size s) : Int) - a) = lfC s a e ∧ s = s ∧ a = a ∧ e = e ∧ f = f)
theorem cuLeft_e (s : ByteArray) (a e f : Int) : cuLeft_t s a e f = vcG Tryz.prog (Gof GCa) (fun _ => none) Tryz.f111 [.p 0 0 0] [(0, .cells 158 (cuV s a e f))] (.leaf ((.v (.int .i64 (lfC s a e)))) ([(0, .cells 158 (cuV s a e f))])) := by kernel_rfl
def cuDone_t (n : Int) (s : ByteArray) (a e f : Int) : Prop :=
 ((e != (0 : Int)) = true → s = s ∧ a = a ∧ e = e ∧ f = f ∧ ((0 : Int) = bif e != (0 : Int) then (0 : Int) else n) ∧ s = s ∧ a = a ∧ e = e ∧ f = f) ∧
 ((e != (0 : Int)) = false → s = s ∧ a = a ∧ e = e ∧ f = f ∧ (n = bif e != (0 : Int) then (0 : Int) else n) ∧ s = s ∧ a = a ∧ e = e ∧ f = f)
theorem cuDone_e (n : Int) (s : ByteArray) (a e f : Int) : cuDone_t n s a e f = vcG Tryz.prog (Gof GCa) (fun _ => none) Tryz.f93 [.p 0 0 0, .v (.int .i64 n)] [(0, .cells 158 (cuV s a e f))] (.leaf ((.tu [.ag (cuV s a e f), .v (.int .i64 (cond (e != 0) 0 n))])) ([(0, .cells 158 (cuV s a e f))])) := by kernel_rfl
def cuOf_t (s : ByteArray) (a e f : Int) : Prop :=
 ((!vldC s a e f) = true → ByteArray.empty = s ∧ (0 : Int) = a ∧ (10 : Int) = e ∧ (0 : Int) = f) ∧ ((!vldC s a e f) = false → s = s ∧ a = a ∧ e = e ∧ f = f)
theorem cuOf_e (s : ByteArray) (a e f : Int) : cuOf_t s a e f = vcG Tryz.prog (Gof GCb) (fun _ => none) Tryz.f81 [.ag (cuV s a e f)] [] (.leaf ((.p 2000 0 0)) ([(2000, .cells 158 (cuV s a e f))])) := by kernel_rfl
def cuByte_t (s : ByteArray) (a e f : Int) : Prop :=
 vldC s a e f = true ∧
 vldC s a e f = true ∧
 ByteArray.size s ≤ (9223372036854775807 : Nat) ∧
 ByteArray.size (byO s a e (1 : Int)) ≤ (8 : Nat) ∧
 s = s ∧
 byA s a e (1 : Int) = byA s a e (1 : Int) ∧
 byE s a e (1 : Int) = byE s a e (1 : Int) ∧
 byF s a e f (1 : Int) = byF s a e f (1 : Int) ∧
 (bif byE s a e (1 : Int) != (0 : Int) then (0 : Int) else IntKind.wrap IntKind.i64 (numS (byO s a e (1 : Int)))) = numS (byO s a e (1 : Int))
theorem cuByte_e (s : ByteArray) (a e f : Int) : cuByte_t s a e f = vcG Tryz.prog (Gof GCc) (fun _ => none) Tryz.f73 [.ag (cuV s a e f)] [] (.leaf ((.tu [.ag (cuV s (byA s a e 1) (byE s a e 1) (byF s a e f 1)), .v (.int .i64 (numS (byO s a e 1)))])) ([])) := by kernel_rfl
def cuLit_t (s : ByteArray) (a e f n : Int) : Prop :=
 vldC s a e f = true ∧
 ((!e != (0 : Int)) = true →
 (decide (n < (1 : Int)) = true →
 vldC s a (2 : Int) a = true ∧
 ByteArray.size s ≤ (9223372036854775807 : Nat) ∧
 ByteArray.size (byO s a (2 : Int) n) ≤ (8 : Nat) ∧
 s = s ∧ byA s a (2 : Int) n = byA s a e n ∧ byE s a (2 : Int) n = byE s a e n ∧ byF s a (2 : Int) a n = byF s a e f n ∧ numS (byO s a (2 : Int) n) = numS (byO s a e n)) ∧
 (decide (n < (1 : Int)) = false →
 (decide (n > (8 : Int)) = true →
 vldC s a (2 : Int) a = true ∧
 ByteArray.size s ≤ (9223372036854775807 : Nat) ∧
 ByteArray.size (byO s a (2 : Int) n) ≤ (8 : Nat) ∧
 s = s ∧ byA s a (2 : Int) n = byA s a e n ∧ byE s a (2 : Int) n = byE s a e n ∧ byF s a (2 : Int) a n = byF s a e f n ∧ numS (byO s a (2 : Int) n) = numS (byO s a e n)) ∧
 (decide (n > (8 : Int)) = false →
 vldC s a e f = true ∧
 ByteArray.size s ≤ (9223372036854775807 : Nat) ∧
 ByteArray.size (byO s a e n) ≤ (8 : Nat) ∧
 s = s ∧ byA s a e n = byA s a e n ∧ byE s a e n = byE s a e n ∧ byF s a e f n = byF s a e f n ∧ numS (byO s a e n) = numS (byO s a e n)))) ∧
 ((!e != (0 : Int)) = false →
 vldC s a e f = true ∧
 ByteArray.size s ≤ (9223372036854775807 : Nat) ∧
 ByteArray.size (byO s a e n) ≤ (8 : Nat) ∧ s = s ∧ byA s a e n = byA s a e n ∧ byE s a e n = byE s a e n ∧ byF s a e f n = byF s a e f n ∧ numS (byO s a e n) = numS (byO s a e n))
theorem cuLit_e (s : ByteArray) (a e f n : Int) : cuLit_t s a e f n = vcG Tryz.prog (Gof GCc) (fun _ => none) Tryz.f74 [.ag (cuV s a e f), .v (.int .i64 n)] [] (.leaf ((.tu [.ag (cuV s (byA s a e n) (byE s a e n) (byF s a e f n)), .v (.int .u64 (numS (byO s a e n)))])) ([])) := by kernel_rfl
def cuBys_t (s : ByteArray) (a e f n : Int) : Prop :=
 vldC s a e f = true ∧
 vldC s a e f = true ∧ ByteArray.size s ≤ (9223372036854775807 : Nat) ∧ s = s ∧ byA s a e n = byA s a e n ∧ byE s a e n = byE s a e n ∧ byF s a e f n = byF s a e f n ∧ byO s a e n = byO s a e n
theorem cuBys_e (s : ByteArray) (a e f n : Int) : cuBys_t s a e f n = vcG Tryz.prog (Gof GCc) (fun _ => none) Tryz.f67 [.ag (cuV s a e f), .v (.int .i64 n)] [] (.leaf ((.tu [.ag (cuV s (byA s a e n) (byE s a e n) (byF s a e f n)), .v (.string (byO s a e n))])) ([])) := by kernel_rfl
def cuFa_t (s : ByteArray) (a e f x y : Int) : Prop :=
 vldC s a e f = true ∧
 ((e != (0 : Int)) = true → s = s ∧ a = a ∧ e = faE e x ∧ f = faF s e f y) ∧
 ((e != (0 : Int)) = false →
 (decide (x < (1 : Int)) = true → s = s ∧ a = a ∧ (3 : Int) = faE e x ∧ min (max y (0 : Int)) (↑(ByteArray.size s) : Int) = faF s e f y) ∧
 (decide (x < (1 : Int)) = false →
 (decide (x > (31 : Int)) = true → s = s ∧ a = a ∧ (3 : Int) = faE e x ∧ min (max y (0 : Int)) (↑(ByteArray.size s) : Int) = faF s e f y) ∧
 (decide (x > (31 : Int)) = false → s = s ∧ a = a ∧ x = faE e x ∧ min (max y (0 : Int)) (↑(ByteArray.size s) : Int) = faF s e f y)))
theorem cuFa_e (s : ByteArray) (a e f x y : Int) : cuFa_t s a e f x y = vcG Tryz.prog (Gof GCc) (fun _ => none) Tryz.f75 [.ag (cuV s a e f), .v (.int .i64 x), .v (.int .i64 y)] [] (.leaf ((.ag (cuV s a (faE e x) (faF s e f y)))) ([])) := by kernel_rfl
def cuSk_t (s : ByteArray) (a e f n : Int) : Prop :=
 vldC s a e f = true ∧ ByteArray.size s ≤ (9223372036854775807 : Nat) ∧ s = s ∧ byA s a e n = byA s a e n ∧ byE s a e n = byE s a e n ∧ byF s a e f n = byF s a e f n
theorem cuSk_e (s : ByteArray) (a e f n : Int) : cuSk_t s a e f n = vcG Tryz.prog (Gof GCd) (fun _ => none) Tryz.f72 [.ag (cuV s a e f), .v (.int .i64 n)] [] (.leaf ((.ag (cuV s (byA s a e n) (byE s a e n) (byF s a e f n)))) ([])) := by kernel_rfl
def cuBy1_t (fe fa : Int) (s : ByteArray) (a e f : Int) : Prop :=
 ((fe != (0 : Int)) = true →
 ((!e != (0 : Int)) = true → fe = fe ∧ fa = fa ∧ s = s ∧ a = a ∧ fe = b1E e fe ∧ fa = b1F e f fe fa) ∧
 ((!e != (0 : Int)) = false → fe = fe ∧ fa = fa ∧ s = s ∧ a = a ∧ e = b1E e fe ∧ f = b1F e f fe fa)) ∧
 ((fe != (0 : Int)) = false → fe = fe ∧ fa = fa ∧ s = s ∧ a = a ∧ e = b1E e fe ∧ f = b1F e f fe fa)
theorem cuBy1_e (fe fa : Int) (s : ByteArray) (a e f : Int) : cuBy1_t fe fa s a e f = vcGD Tryz.prog (Gof GCb) (fun _ => none) Tryz.f110 [.p 0 0 0, .p 1 0 0] [(0, .cells 26 [.v (.int .i64 fe), .v (.int .i64 fa)]), (1, .cells 156 [.p 2 0 0]), (2, .cells 158 (cuV s a e f))] (.leaf (.tu []) [(0, .cells 26 [.v (.int .i64 fe), .v (.int .i64 fa)]), (1, .cells 156 [.p 2 0 0]), (2, .cells 158 (cuV s a (b1E e fe) (b1F e f fe fa)))]) := by kernel_rfl
def cuBy_t (n : Int) (s : ByteArray) (a e f : Int) : Prop :=
 (∃ (g0 : Unit), True ∧ n = n ∧ s = s ∧ a = a ∧ e = e ∧ f = f ∧ (0 : Int) = (0 : Int) ∧ (0 : Int) = (0 : Int)) ∧
 ∀ (g1 : Unit),
 True →
 ((e != (0 : Int)) = true → ByteArray.empty = byO s a e n ∧ s = s ∧ a = byA s a e n ∧ b1E e (0 : Int) = byE s a e n ∧ b1F e f (0 : Int) (0 : Int) = byF s a e f n) ∧
 ((e != (0 : Int)) = false →
 (decide (n < (0 : Int)) = true → ByteArray.empty = byO s a e n ∧ s = s ∧ a = byA s a e n ∧ b1E e (2 : Int) = byE s a e n ∧ b1F e f (2 : Int) a = byF s a e f n) ∧
 (decide (n < (0 : Int)) = false →
 vldC s a e f = true ∧
 ByteArray.size s ≤ (9223372036854775807 : Nat) ∧
 (decide (n > lfC s a e) = true →
 ByteArray.empty = byO s a e n ∧ s = s ∧ a = byA s a e n ∧ b1E e (5 : Int) = byE s a e n ∧ b1F e f (5 : Int) (↑(ByteArray.size s) : Int) = byF s a e f n) ∧
 (decide (n > lfC s a e) = false →
 (0 : Int) ≤ a ∧
 a ≤ IntKind.wrap IntKind.i64 (a + n) ∧
 IntKind.wrap IntKind.i64 (a + n) ≤ (↑(ByteArray.size s) : Int) ∧
 ByteArray.extract s (Int.toNat a) (Int.toNat (IntKind.wrap IntKind.i64 (a + n))) = byO s a e n ∧
 s = s ∧ IntKind.wrap IntKind.i64 (a + n) = byA s a e n ∧ b1E e (0 : Int) = byE s a e n ∧ b1F e f (0 : Int) (0 : Int) = byF s a e f n)))
theorem cuBy_e (n : Int) (s : ByteArray) (a e f : Int) : cuBy_t n s a e f = vcFD Tryz.prog (Gof GCb) (Pof []) (oBy n s a e f) (Dof DCb) Tryz.f82 [.p 0 0 0, .v (.int .i64 n)] [(0, .cells 158 (cuV s a e f))] (.leaf (.v (.string (byO s a e n))) [(0, .cells 158 (cuV s (byA s a e n) (byE s a e n) (byF s a e f n)))]) := by kernel_rfl
end Go.Proofs.YtbfdchahapajaaaGreatDoor
namespace Go.Proofs.YtbfdchahapajaaaGreatDoor
open Go Go.RowKit
set_option linter.unusedVariables false
set_option linter.unusedSimpArgs false
set_option maxRecDepth 100000
theorem bne0 {a : Int} (h : (a != 0) = true) : (a == 0) = false := by simpa using h
theorem bne1 {a : Int} (h : (a != 0) = false) : a = 0 := by simpa using h
theorem beq1 {a b : Int} (h : (a == b) = true) : a = b := by simpa using h
theorem beq2 {a b : Int} (h : (a == b) = false) : a ≠ b := by simpa using h
theorem beqF {a b : Int} (h : a ≠ b) : (a == b) = false := by simpa using h
theorem bneT {a b : Int} (h : a ≠ b) : (a != b) = true := by simpa using h
theorem inS_iff {s : ByteArray} {a : Int} : inS s a = true ↔ 0 ≤ a ∧ a ≤ (s.size : Int) := by unfold inS; simp
theorem vld_iff {s : ByteArray} {a e f : Int} : vldC s a e f = true ↔ (0 ≤ a ∧ a ≤ (s.size : Int)) ∧ ((e = 0 ∧ f = 0) ∨ (1 ≤ e ∧ e ≤ 31 ∧ 0 ≤ f ∧ f ≤ (s.size : Int))) := by
  unfold vldC
  cases he : e == 0
  · have := beq2 he
    simp only [cond_false, Bool.and_eq_true, inS_iff, decide_eq_true_eq]
    omega
  · have := beq1 he
    simp only [cond_true, Bool.and_eq_true, inS_iff, beq_iff_eq]
    omega
theorem nw_vld (s : ByteArray) (a : Int) : vldC s (nwA s a) (nwE s a) 0 = true := by
  rw [vld_iff]
  unfold nwA nwE nwB
  cases h : decide (a < 0) || decide ((s.size : Int) < a)
  · simp only [Bool.or_eq_false_iff, decide_eq_false_iff_not] at h
    exact ⟨by simp only [cond_false]; omega, .inl ⟨rfl, rfl⟩⟩
  · exact ⟨by simp only [cond_true]; omega, .inr (by simp only [cond_true]; omega)⟩
section
variable {s : ByteArray} {a e f n : Int}
theorem by_bad (h : e ≠ 0) : byE s a e n = e ∧ byF s a e f n = f ∧ byA s a e n = a ∧ byO s a e n = ByteArray.empty := by
  have hE : byE s a e n = e := by unfold byE; rw [beqF h]; rfl
  refine ⟨hE, by unfold byF; rw [beqF h]; rfl, ?_, ?_⟩
  · unfold byA; rw [hE, beqF h]; rfl
  · unfold byO; rw [hE, beqF h]; rfl
theorem by_neg (h : n < 0) : byE s a 0 n = 2 ∧ byF s a 0 f n = a ∧ byA s a 0 n = a ∧ byO s a 0 n = ByteArray.empty := by
  have hE : byE s a 0 n = 2 := by unfold byE; rw [decide_eq_true h]; rfl
  refine ⟨hE, by unfold byF; rw [decide_eq_true h]; rfl, ?_, ?_⟩
  · unfold byA; rw [hE]; rfl
  · unfold byO; rw [hE]; rfl
theorem by_short (h0 : 0 ≤ n) (h : (s.size : Int) - a < n) : byE s a 0 n = 5 ∧ byF s a 0 f n = s.size ∧ byA s a 0 n = a ∧ byO s a 0 n = ByteArray.empty := by
  have hE : byE s a 0 n = 5 := by unfold byE; rw [decide_eq_false (by omega), decide_eq_true h]; rfl
  refine ⟨hE, by unfold byF; rw [decide_eq_false (by omega), decide_eq_true h]; rfl, ?_, ?_⟩
  · unfold byA; rw [hE]; rfl
  · unfold byO; rw [hE]; rfl
theorem by_good (h0 : 0 ≤ n) (h : n ≤ (s.size : Int) - a) : byE s a 0 n = 0 ∧ byF s a 0 f n = f ∧ byA s a 0 n = a + n ∧ byO s a 0 n = s.extract a.toNat (a + n).toNat := by
  have hE : byE s a 0 n = 0 := by unfold byE; rw [decide_eq_false (by omega), decide_eq_false (by omega)]; rfl
  refine ⟨hE, by unfold byF; rw [decide_eq_false (by omega), decide_eq_false (by omega)]; rfl, ?_, ?_⟩
  · unfold byA; rw [hE]; rfl
  · unfold byO; rw [hE]; rfl
theorem by_vld (h : vldC s a e f = true) (n : Int) : vldC s (byA s a e n) (byE s a e n) (byF s a e f n) = true := by
  have h' := h
  rw [vld_iff] at h
  by_cases he : e = 0
  · subst he
    by_cases h0 : n < 0
    · obtain ⟨k1, k2, k3, _⟩ := by_neg (s := s) (a := a) (f := f) h0
      rw [k1, k2, k3, vld_iff]; omega
    · by_cases h1 : (s.size : Int) - a < n
      · obtain ⟨k1, k2, k3, _⟩ := by_short (f := f) (by omega) h1
        rw [k1, k2, k3, vld_iff]; omega
      · obtain ⟨k1, k2, k3, _⟩ := by_good (s := s) (a := a) (f := f) (n := n) (by omega) (by omega)
        rw [k1, k2, k3, vld_iff]; omega
  · obtain ⟨k1, k2, k3, _⟩ := by_bad (s := s) (a := a) (f := f) (n := n) he
    rw [k1, k2, k3]; exact h'
theorem by_size (h : vldC s a e f = true) (h0 : 0 ≤ n) : ((byO s a e n).size : Int) ≤ n := by
  rw [vld_iff] at h
  by_cases he : e = 0
  · subst he
    by_cases h1 : (s.size : Int) - a < n
    · rw [(by_short (f := 0) (by omega) h1).2.2.2]; exact h0
    · rw [(by_good (f := 0) (by omega) (by omega)).2.2.2, ByteArray.size_extract]; omega
  · rw [(by_bad (f := 0) he).2.2.2]; exact h0
theorem fa_vld (h : vldC s a e f = true) {x y : Int} (h1 : 1 ≤ x) (h2 : x ≤ 31) : vldC s a (faE e x) (faF s e f y) = true := by
  have h' := h
  rw [vld_iff] at h
  unfold faE faF
  cases he : e != 0
  · simp only [cond_false]
    rw [vld_iff]; omega
  · exact h'
end
theorem orN_u64 (x y : Nat) (hx : x < 18446744073709551616) (hy : y < 18446744073709551616) : bits .or .u64 (x : Int) (y : Int) = ((x ||| y : Nat) : Int) := by
  have hh : ∀ a : Nat, a < 18446744073709551616 → (BitVec.ofInt 64 (a : Int)).toNat = a := fun a ha => by
    rw [BitVec.ofInt_natCast, BitVec.toNat_ofNat]; exact Nat.mod_eq_of_lt (by omega)
  show IntKind.u64.wrap ((BitVec.ofInt 64 (x : Int) ||| BitVec.ofInt 64 (y : Int)).toNat : Int) = _
  rw [BitVec.toNat_or, hh _ hx, hh _ hy]
  have : x ||| y < 2 ^ 64 := Nat.or_lt_two_pow (by omega) (by omega)
  exact wru (by omega) (by omega)
theorem or_lay {k hi lo b : Nat} (hlo : lo < 2 ^ k) (hb : b < 256) (hhi : hi % 2 ^ (k + 8) = 0) : (hi + lo) ||| (b * 2 ^ k) = hi + lo + b * 2 ^ k := by
  obtain ⟨H, rfl⟩ := Nat.dvd_of_mod_eq_zero hhi
  have p : 2 ^ (k + 8) = 2 ^ k * 256 := by rw [Nat.pow_add]
  have hb2 : b * 2 ^ k + lo < 2 ^ (k + 8) := by
    have : b * 2 ^ k ≤ 255 * 2 ^ k := Nat.mul_le_mul_right _ (by omega)
    omega
  have e1 := Nat.two_pow_add_eq_or_of_lt (i := k + 8) (b := lo) (by omega) H
  have e2 := Nat.two_pow_add_eq_or_of_lt (i := k) (b := lo) hlo b
  have e3 := Nat.two_pow_add_eq_or_of_lt (i := k + 8) (b := b * 2 ^ k + lo) hb2 H
  have e4 : 2 ^ k * b = b * 2 ^ k := Nat.mul_comm _ _
  rw [e4] at e2
  rw [e1, Nat.or_assoc, Nat.or_comm lo, ← e2, ← e3]
  omega
theorem nbA_lt (s : ByteArray) (i : Nat) : nbA s i < 256 := (s.data.toList.getD i 0).toNat_lt
theorem lo_succ {s : ByteArray} {i : Nat} (h : i < s.size) : loB8 s (i + 1) = loB8 s i + nbA s i * 2 ^ (8 * i) := by
  unfold loB8 nbA
  have hl : s.data.toList.length = s.size := rfl
  have hm : min i s.data.toList.length = i := by omega
  rw [List.take_succ_eq_append_getElem (show i < s.data.toList.length by omega), leN_append, List.length_take, hm]
  have e : s.data.toList.getD i 0 = s.data.toList[i]'(by omega) := by rw [List.getD_eq_getElem?_getD, List.getElem?_eq_getElem (by omega)]; rfl
  rw [e]
  simp only [leN]
  have : 256 ^ i = 2 ^ (8 * i) := by rw [show (256 : Nat) = 2 ^ 8 from rfl, ← Nat.pow_mul]
  rw [this, Nat.mul_comm]
  simp
theorem lo_lt (s : ByteArray) (i : Nat) : loB8 s i < 2 ^ (8 * i) := by
  have h := leN_lt (s.data.toList.take i)
  have h2 : 256 ^ (s.data.toList.take i).length ≤ 256 ^ i := Nat.pow_le_pow_right (by omega) (by rw [List.length_take]; omega)
  have : 256 ^ i = 2 ^ (8 * i) := by rw [show (256 : Nat) = 2 ^ 8 from rfl, ← Nat.pow_mul]
  unfold loB8
  omega
theorem lo_all {s : ByteArray} {i : Nat} (h : s.size ≤ i) : loB8 s i = leN s.data.toList := by
  unfold loB8
  rw [List.take_of_length_le (show s.data.toList.length ≤ i from h)]
theorem hi_8 {s : ByteArray} (h : s.size = 8) : hiB s = nbA s 7 * c56 + nbA s 6 * c48 := by
  unfold hiB
  rw [show Nat.beq s.size 8 = true by rw [h]; rfl]
  exact cond_true _ _
theorem hi_7 {s : ByteArray} (h : s.size = 7) : hiB s = nbA s 6 * c48 := by
  unfold hiB
  rw [show Nat.beq s.size 8 = false by rw [h]; rfl, show Nat.beq s.size 7 = true by rw [h]; rfl]
  exact (cond_false _ _).trans (cond_true _ _)
theorem hi_0 {s : ByteArray} (h8 : s.size ≠ 8) (h7 : s.size ≠ 7) : hiB s = 0 := by
  have e8 : Nat.beq s.size 8 = false := by
    cases h : Nat.beq s.size 8
    · rfl
    · exact absurd (Nat.eq_of_beq_eq_true h) h8
  have e7 : Nat.beq s.size 7 = false := by
    cases h : Nat.beq s.size 7
    · rfl
    · exact absurd (Nat.eq_of_beq_eq_true h) h7
  unfold hiB
  rw [e8, e7]
  exact (cond_false _ _).trans (cond_false _ _)
theorem hi_cases (s : ByteArray) : (s.size = 8 ∧ hiB s = nbA s 7 * c56 + nbA s 6 * c48) ∨ (s.size = 7 ∧ hiB s = nbA s 6 * c48) ∨ (s.size ≠ 8 ∧ s.size ≠ 7 ∧ hiB s = 0) := by
  rcases Nat.decEq s.size 8 with h8 | h8
  · rcases Nat.decEq s.size 7 with h7 | h7
    · exact .inr (.inr ⟨h8, h7, hi_0 h8 h7⟩)
    · exact .inr (.inl ⟨h7, hi_7 h7⟩)
  · exact .inl ⟨h8, hi_8 h8⟩
theorem c48_eq : c48 = 281474976710656 := by unfold c48; trivial
theorem c56_eq : c56 = 72057594037927936 := by unfold c56; trivial
theorem hi_mod (s : ByteArray) : hiB s % 281474976710656 = 0 := by
  have h1 := c48_eq
  have h2 := c56_eq
  rcases hi_cases s with ⟨_, h⟩ | ⟨_, h⟩ | ⟨_, _, h⟩
  · rw [h, h1, h2]; omega
  · rw [h, h1]; omega
  · rw [h]
theorem hi_lt (s : ByteArray) : hiB s ≤ 18446462598732840960 := by
  have h1 := c48_eq
  have h2 := c56_eq
  have h6 := nbA_lt s 6
  have h7 := nbA_lt s 7
  rcases hi_cases s with ⟨_, h⟩ | ⟨_, h⟩ | ⟨_, _, h⟩
  · rw [h, h1, h2]; omega
  · rw [h, h1]; omega
  · rw [h]; omega
theorem p48 : (2 : Nat) ^ 48 = 281474976710656 := by decide +kernel
theorem p56 : (2 : Nat) ^ 56 = 72057594037927936 := by decide +kernel
theorem shU {x k : Nat} (hx : x < 256) (hk : k ≤ 56) : IntKind.wrap IntKind.u64 (IntKind.wrap IntKind.u64 (x : Int) * (2 : Int) ^ min k (IntKind.bits IntKind.u64)) = ((x * 2 ^ k : Nat) : Int) := by
  have hp : (2 : Nat) ^ k ≤ 2 ^ 56 := Nat.pow_le_pow_right (by omega) hk
  rw [p56] at hp
  have hm : min k (IntKind.bits IntKind.u64) = k := Nat.min_eq_left (by show k ≤ 64; omega)
  have h2 : x * 2 ^ k ≤ 255 * 72057594037927936 := Nat.mul_le_mul (by omega) hp
  rw [hm, wru (n := (x : Int)) (by omega) (by omega), show ((x : Int) * (2 : Int) ^ k) = ((x * 2 ^ k : Nat) : Int) by push_cast; rfl]
  exact wru (by omega) (by omega)
theorem cuNum_v (s : ByteArray) (hs : s.size ≤ 8) : cuNum_t s := by
  have h6 := nbA_lt s 6
  have h7 := nbA_lt s 7
  have e6 : IntKind.wrap IntKind.u64 (IntKind.wrap IntKind.u64 ((nbA s 6 : Nat) : Int) * (2 : Int) ^ min 48 (IntKind.bits IntKind.u64)) = ((nbA s 6 * c48 : Nat) : Int) := by have := shU h6 (k := 48) (by omega); rw [p48, ← c48_eq] at this; exact this
  have e7 : IntKind.wrap IntKind.u64 (IntKind.wrap IntKind.u64 ((nbA s 7 : Nat) : Int) * (2 : Int) ^ min 56 (IntKind.bits IntKind.u64)) = ((nbA s 7 * c56 : Nat) : Int) := by have := shU h7 (k := 56) (by omega); rw [p56, ← c56_eq] at this; exact this
  unfold cuNum_t
  have f6 : ∀ x : Nat, (((s.data.toList.getD (Int.toNat (6 : Int)) (0 : UInt8)).toNat : Nat) : Int) = ((nbA s 6 : Nat) : Int) := fun _ => rfl
  have c56p : c56 = 2 ^ 56 := c56_eq.trans p56.symm
  have c48p : c48 = 2 ^ 48 := c48_eq.trans p48.symm
  have b7 : nbA s 7 * c56 ≤ 18374686479671623680 := by rw [c56_eq]; omega
  have b6 : nbA s 6 * c48 ≤ 71776119061217280 := by rw [c48_eq]; omega
  have o7 : bits .or .u64 0 ((nbA s 7 * c56 : Nat) : Int) = ((nbA s 7 * c56 : Nat) : Int) := by
    have := orN_u64 0 (nbA s 7 * c56) (by omega) (by omega)
    rw [Nat.zero_or] at this
    exact this
  have o6 : bits .or .u64 0 ((nbA s 6 * c48 : Nat) : Int) = ((nbA s 6 * c48 : Nat) : Int) := by
    have := orN_u64 0 (nbA s 6 * c48) (by omega) (by omega)
    rw [Nat.zero_or] at this
    exact this
  have o76 : bits .or .u64 ((nbA s 7 * c56 : Nat) : Int) ((nbA s 6 * c48 : Nat) : Int) = ((nbA s 7 * c56 + nbA s 6 * c48 : Nat) : Int) := by
    rw [orN_u64 _ _ (by omega) (by omega)]
    have hlt : nbA s 6 * c48 < 2 ^ 56 := by rw [p56]; omega
    have := Nat.two_pow_add_eq_or_of_lt (i := 56) (b := nbA s 6 * c48) hlt (nbA s 7)
    rw [← c56p, Nat.mul_comm] at this
    rw [this]
  refine ⟨⟨fun h => ?_, fun h => ⟨fun h7 => ?_, fun h7 => ⟨(), trivial, rfl, ?_⟩⟩⟩, fun _ _ => ⟨⟨0, ⟨Nat.zero_le _, Nat.zero_le _⟩, rfl, rfl, rfl, rfl⟩, fun i ⟨h1, h2⟩ => ⟨fun hlt => ?_, fun hge => ?_⟩⟩⟩
  · have h8 : s.size = 8 := by have := beq1 h; omega
    refine ⟨by omega, by omega, by omega, by omega, by omega, by omega, (), trivial, rfl, ?_⟩
    show bits .or .u64 (bits .or .u64 0 (IntKind.wrap IntKind.u64 (IntKind.wrap IntKind.u64 ((nbA s 7 : Nat) : Int) * (2 : Int) ^ min 56 (IntKind.bits IntKind.u64)))) (IntKind.wrap IntKind.u64 (IntKind.wrap IntKind.u64 ((nbA s 6 : Nat) : Int) * (2 : Int) ^ min 48 (IntKind.bits IntKind.u64))) = _
    rw [e7, e6, o7, o76, hi_8 h8]
  · have h8 : s.size = 7 := by have := beq1 h7; omega
    refine ⟨by omega, by omega, by omega, (), trivial, rfl, ?_⟩
    show bits .or .u64 0 (IntKind.wrap IntKind.u64 (IntKind.wrap IntKind.u64 ((nbA s 6 : Nat) : Int) * (2 : Int) ^ min 48 (IntKind.bits IntKind.u64))) = _
    rw [e6, o6, hi_7 h8]
  · have n8 : s.size ≠ 8 := by have := beq2 h; omega
    have n7 : s.size ≠ 7 := by have := beq2 h7; omega
    rw [hi_0 n8 n7]
    rfl
  · have hlt : i < s.size ∧ i < 6 := by simp at hlt; omega
    have hb := nbA_lt s i
    have hlo := lo_lt s i
    have hm : hiB s % 2 ^ (8 * i + 8) = 0 := by
      have := hi_mod s
      obtain ⟨H, hH⟩ := Nat.dvd_of_mod_eq_zero this
      rw [hH, ← p48, show (48 : Nat) = (8 * i + 8) + (40 - 8 * i) by omega, Nat.pow_add, Nat.mul_assoc]
      exact Nat.mul_mod_right _ _
    have hor := or_lay (k := 8 * i) hlo hb hm
    have hp : (2 : Nat) ^ (8 * i) * 256 ≤ 281474976710656 := by
      have : (2 : Nat) ^ (8 * i + 8) ≤ 2 ^ 48 := Nat.pow_le_pow_right (by omega) (by omega)
      rw [Nat.pow_add, p48] at this
      exact this
    have hbl : nbA s i * 2 ^ (8 * i) ≤ 255 * 2 ^ (8 * i) := Nat.mul_le_mul_right _ (by omega)
    have hh := hi_lt s
    have ew : IntKind.wrap IntKind.i64 ((8 : Int) * (i : Int)) = ((8 * i : Nat) : Int) := by rw [wr (by omega) (by omega)]; push_cast; rfl
    rw [ew]
    refine ⟨by omega, by omega, by omega, i + 1, ⟨by omega, by omega⟩, by rw [Nat.sub_eq, Nat.sub_eq]; omega, rfl, ?_, rfl, ?_⟩
    · have e : IntKind.wrap IntKind.u64 (IntKind.wrap IntKind.u64 ((nbA s i : Nat) : Int) * (2 : Int) ^ min (8 * i) (IntKind.bits IntKind.u64)) = ((nbA s i * 2 ^ (8 * i) : Nat) : Int) := shU hb (by omega)
      show bits .or .u64 _ (IntKind.wrap IntKind.u64 (IntKind.wrap IntKind.u64 ((nbA s i : Nat) : Int) * (2 : Int) ^ min (8 * i) (IntKind.bits IntKind.u64))) = _
      rw [e, orN_u64 _ _ (by omega) (by omega), hor, lo_succ hlt.1, Nat.add_assoc]
    · rw [wr (by omega) (by omega)]; push_cast; rfl
  · have hge : (i : Int) ≥ min (s.size : Int) 6 := by simp at hge; omega
    unfold numS
    congr 1
    rcases hi_cases s with ⟨h8, hh⟩ | ⟨h7, hh⟩ | ⟨n8, n7, hh⟩
    · have hi : i = 6 := by omega
      subst hi
      have a1 := lo_succ (s := s) (i := 6) (by omega)
      have a2 := lo_succ (s := s) (i := 7) (by omega)
      rw [show 8 * 6 = 48 from rfl, ← c48p] at a1
      rw [show 8 * 7 = 56 from rfl, ← c56p] at a2
      rw [← lo_all (s := s) (i := 8) (by omega), hh, a2, a1]
      generalize nbA s 7 * c56 = u
      generalize nbA s 6 * c48 = v
      omega
    · have hi : i = 6 := by omega
      subst hi
      have a1 := lo_succ (s := s) (i := 6) (by omega)
      rw [show 8 * 6 = 48 from rfl, ← c48p] at a1
      rw [← lo_all (s := s) (i := 7) (by omega), hh, a1]
      generalize nbA s 6 * c48 = v
      omega
    · rw [← lo_all (s := s) (i := i) (by omega), hh, Nat.zero_add]
theorem num_bd {s : ByteArray} : numS s < 256 ^ s.size := by
  unfold numS
  have := leN_lt s.data.toList
  have e : s.data.toList.length = s.size := rfl
  rw [e] at this
  exact_mod_cast this
theorem num_nn (s : ByteArray) : 0 ≤ numS s := Int.natCast_nonneg _
theorem cuNew_v (s : ByteArray) (a : Int) : cuNew_t s a := by
  unfold cuNew_t nwA nwE nwB
  refine ⟨fun h => ?_, fun h => ⟨fun h2 => ?_, fun h2 => ?_⟩⟩
  · rw [h]; exact ⟨rfl, rfl, rfl, rfl⟩
  · rw [h, show decide ((s.size : Int) < a) = true from h2]; exact ⟨rfl, rfl, rfl, rfl⟩
  · rw [h, show decide ((s.size : Int) < a) = false from h2]; exact ⟨rfl, rfl, rfl, rfl⟩
theorem cuIn_v (x : Int) (s : ByteArray) (a e f : Int) : cuIn_t x s a e f := by
  unfold cuIn_t inS
  refine ⟨fun h => ⟨?_, rfl, rfl, rfl, rfl⟩, fun h => ⟨?_, rfl, rfl, rfl, rfl⟩⟩
  · rw [show decide (0 ≤ x) = true from h]; rfl
  · rw [show decide (0 ≤ x) = false from h]; rfl
theorem cuVal_v (s : ByteArray) (a e f : Int) : cuVal_t s a e f := by
  unfold cuVal_t vldC
  refine ⟨fun h => ⟨fun h2 => ?_, fun h2 => ?_⟩, fun h => ⟨fun h2 => ⟨fun h3 => ⟨fun h4 => ?_, fun h4 => ?_⟩, fun h3 => ?_⟩, fun h2 => ?_⟩⟩
  · rw [h, h2]; rfl
  · rw [h, h2]; rfl
  · rw [h, h2, show decide (1 ≤ e) = true from h3, h4]; rfl
  · rw [h, h2, show decide (1 ≤ e) = true from h3, h4]; rfl
  · rw [h, h2, show decide (1 ≤ e) = false from h3]; rfl
  · rw [h, h2]; rfl
theorem cuLeft_v (s : ByteArray) (a e f : Int) (h0 : vldC s a e f = true) (hs : s.size ≤ 9223372036854775807) : cuLeft_t s a e f := by
  rw [vld_iff] at h0
  unfold cuLeft_t lfC
  refine ⟨fun h => ?_, fun h => ?_⟩
  · rw [bne0 h]; exact ⟨rfl, rfl, rfl, rfl, rfl⟩
  · rw [bne1 h, wr (by omega) (by omega)]; exact ⟨rfl, rfl, rfl, rfl, rfl⟩
theorem cuDone_v (n : Int) (s : ByteArray) (a e f : Int) : cuDone_t n s a e f := by
  unfold cuDone_t
  refine ⟨fun h => ?_, fun h => ?_⟩ <;> rw [h] <;> exact ⟨rfl, rfl, rfl, rfl, rfl, rfl, rfl, rfl, rfl⟩
theorem cuOf_v (s : ByteArray) (a e f : Int) (h : vldC s a e f = true) : cuOf_t s a e f := by
  unfold cuOf_t
  rw [h]
  exact ⟨fun h => (by cases h), fun _ => ⟨rfl, rfl, rfl, rfl⟩⟩
theorem cuBy1_v (fe fa : Int) (s : ByteArray) (a e f : Int) : cuBy1_t fe fa s a e f := by
  unfold cuBy1_t b1E b1F
  refine ⟨fun h => ⟨fun h2 => ?_, fun h2 => ?_⟩, fun h => ?_⟩
  · rw [h, show (e != 0) = false by simpa using h2]; exact ⟨rfl, rfl, rfl, rfl, rfl, rfl⟩
  · rw [h, show (e != 0) = true by simpa using h2]; exact ⟨rfl, rfl, rfl, rfl, rfl, rfl⟩
  · rw [h]; exact ⟨rfl, rfl, rfl, rfl, rfl, rfl⟩
theorem cuBy_v (n : Int) (s : ByteArray) (a e f : Int) (h0 : vldC s a e f = true) (hs : s.size ≤ 9223372036854775807) : cuBy_t n s a e f := by
  have h1 := h0
  rw [vld_iff] at h1
  unfold cuBy_t
  refine ⟨⟨(), trivial, rfl, rfl, rfl, rfl, rfl, rfl, rfl⟩, fun _ _ => ⟨fun h => ?_, fun h => ?_⟩⟩
  · obtain ⟨k1, k2, k3, k4⟩ := by_bad (s := s) (a := a) (f := f) (n := n) (show e ≠ 0 by simpa using h)
    rw [k1, k2, k3, k4]
    exact ⟨rfl, rfl, rfl, rfl, rfl⟩
  have he := bne1 h
  subst he
  have hf : f = 0 := by omega
  subst hf
  refine ⟨fun h => ?_, fun h => ⟨h0, hs, fun h2 => ?_, fun h2 => ?_⟩⟩
  · obtain ⟨k1, k2, k3, k4⟩ := by_neg (s := s) (a := a) (f := 0) (n := n) (by simpa using h)
    rw [k1, k2, k3, k4]
    exact ⟨rfl, rfl, rfl, rfl, rfl⟩
  · have h2 : (s.size : Int) - a < n := by simpa [lfC] using h2
    obtain ⟨k1, k2, k3, k4⟩ := by_short (s := s) (a := a) (f := 0) (n := n) (by simpa using h) h2
    rw [k1, k2, k3, k4]
    exact ⟨rfl, rfl, rfl, rfl, rfl⟩
  · have h2 : n ≤ (s.size : Int) - a := by simp [lfC] at h2; omega
    have h : 0 ≤ n := by simpa using h
    obtain ⟨k1, k2, k3, k4⟩ := by_good (s := s) (a := a) (f := 0) (n := n) h h2
    rw [wr (n := a + n) (by omega) (by omega), k1, k2, k3, k4]
    exact ⟨by omega, by omega, by omega, rfl, rfl, rfl, rfl, rfl⟩
theorem size8 {s : ByteArray} {n : Int} (h : (s.size : Int) ≤ n) (h2 : n ≤ 8) : s.size ≤ 8 := by omega
theorem num1 {s : ByteArray} (h : s.size ≤ 1) : numS s < 256 := by
  have := num_bd (s := s)
  have h2 : (256 : Int) ^ s.size ≤ 256 ^ 1 := by
    have := Nat.pow_le_pow_right (show 0 < 256 by omega) h
    exact_mod_cast this
  omega
theorem cuByte_v (s : ByteArray) (a e f : Int) (h : vldC s a e f = true) (hs : s.size ≤ 9223372036854775807) : cuByte_t s a e f := by
  have hz := by_size (n := 1) h (by omega)
  have hb := num1 (s := byO s a e 1) (by omega)
  have hn := num_nn (byO s a e 1)
  unfold cuByte_t
  refine ⟨h, h, hs, size8 hz (by omega), rfl, rfl, rfl, rfl, ?_⟩
  rw [wr (by omega) (by omega)]
  cases hq : byE s a e 1 != 0
  · rfl
  · have : byO s a e 1 = ByteArray.empty := by unfold byO; rw [bne0 hq]; rfl
    rw [this]; rfl
theorem cuLit_v (s : ByteArray) (a e f n : Int) (h : vldC s a e f = true) (hs : s.size ≤ 9223372036854775807) (h1 : 1 ≤ n) (h2 : n ≤ 8) : cuLit_t s a e f n := by
  have hz := size8 (by_size (n := n) h (by omega)) h2
  unfold cuLit_t
  refine ⟨h, fun _ => ⟨fun hx => ?_, fun _ => ⟨fun hx => ?_, fun _ => ⟨h, hs, hz, rfl, rfl, rfl, rfl, rfl⟩⟩⟩, fun _ => ⟨h, hs, hz, rfl, rfl, rfl, rfl, rfl⟩⟩
  · have : n < 1 := by simpa using hx
    omega
  · have : n > 8 := by simpa using hx
    omega
theorem cuBys_v (s : ByteArray) (a e f n : Int) (h : vldC s a e f = true) (hs : s.size ≤ 9223372036854775807) : cuBys_t s a e f n := ⟨h, h, hs, rfl, rfl, rfl, rfl, rfl⟩
theorem cuSk_v (s : ByteArray) (a e f n : Int) (h : vldC s a e f = true) (hs : s.size ≤ 9223372036854775807) : cuSk_t s a e f n := ⟨h, hs, rfl, rfl, rfl, rfl⟩
theorem cuFa_v (s : ByteArray) (a e f x y : Int) (h : vldC s a e f = true) (h1 : 1 ≤ x) (h2 : x ≤ 31) : cuFa_t s a e f x y := by
  unfold cuFa_t faE faF
  refine ⟨h, fun he => ?_, fun he => ⟨fun hx => ?_, fun _ => ⟨fun hx => ?_, fun _ => ?_⟩⟩⟩
  · rw [he]; exact ⟨rfl, rfl, rfl, rfl⟩
  · have : x < 1 := by simpa using hx
    omega
  · have : x > 31 := by simpa using hx
    omega
  · rw [he]; exact ⟨rfl, rfl, rfl, rfl⟩
theorem mixed : Tryz.prog.follows .mixedOrders = true := by kernel_rfl
theorem cuNew_sound : Sound Tryz.prog 48 sCuNew.ctr := sCuNew.sound (by kernel_rfl) sCuNew_enc fun ⟨s, a⟩ hc => by
  exact satG AllOk.nil mixed Tryz.func48 (cuNew_e s a) (cuNew_v s a)
theorem cuIn_sound : Sound Tryz.prog 147 sCuIn.ctr := sCuIn.sound (by kernel_rfl) sCuIn_enc fun ⟨x, s, a, e, f⟩ hc => by
  exact satG AllOk.nil mixed Tryz.func147 (cuIn_e x s a e f) (cuIn_v x s a e f)
theorem cuBad_sound : Sound Tryz.prog 95 sCuBad.ctr := sCuBad.sound (by kernel_rfl) sCuBad_enc fun ⟨s, a, e, f⟩ hc => by
  exact satG AllOk.nil mixed Tryz.func95 (cuBad_e s a e f) (⟨rfl, rfl, rfl, rfl, rfl⟩)
theorem cuNum_sound : Sound Tryz.prog 94 sCuNum.ctr := sCuNum.sound (by kernel_rfl) sCuNum_enc fun s hc => by
  have h0 := hc _ (.head _)
  exact satG AllOk.nil mixed Tryz.func94 (cuNum_e s) (cuNum_v s h0)
theorem GCa_ok : AllOk Tryz.prog GCa := .cons cuNew_sound <| .cons cuIn_sound <| .cons cuBad_sound <| .cons cuNum_sound <| AllOk.nil
theorem cuVal_sound : Sound Tryz.prog 109 sCuVal.ctr := sCuVal.sound (by kernel_rfl) sCuVal_enc fun ⟨s, a, e, f⟩ hc => by
  exact satG GCa_ok mixed Tryz.func109 (cuVal_e s a e f) (cuVal_v s a e f)
theorem cuLeft_sound : Sound Tryz.prog 111 sCuLeft.ctr := sCuLeft.sound (by kernel_rfl) sCuLeft_enc fun ⟨s, a, e, f⟩ hc => by
  have h0 := hc _ (.head _)
  have h1 := hc _ (.tail _ (.head _))
  exact satG GCa_ok mixed Tryz.func111 (cuLeft_e s a e f) (cuLeft_v s a e f h0 h1)
theorem cuDone_sound : Sound Tryz.prog 93 sCuDone.ctr := sCuDone.sound (by kernel_rfl) sCuDone_enc fun ⟨n, s, a, e, f⟩ hc => by
  exact satG GCa_ok mixed Tryz.func93 (cuDone_e n s a e f) (cuDone_v n s a e f)
theorem GCb_ok : AllOk Tryz.prog GCb := .cons cuVal_sound <| .cons cuLeft_sound <| .cons cuDone_sound <| GCa_ok
theorem cuBy1_sound : SoundD Tryz.prog 110 (DC.of sCuBy1 Spec.no) := SoundD.of (by kernel_rfl) sCuBy1_enc (fun (fe, fa, s, a, e, f) _ w us => satD_of GCb_ok mixed Tryz.func110 rfl (cuBy1_e fe fa s a e f ▸ cuBy1_v fe fa s a e f) .returning w us) Spec.no_enc (fun _ _ w pv us => fun D β h => by simp [Spec.no, Reps] at h)
theorem DCb_ok : AllD Tryz.prog DCb := .cons cuBy1_sound .nil
theorem cuBy_sound : Sound Tryz.prog 82 sCuBy.ctr := sCuBy.sound (by kernel_rfl) sCuBy_enc fun (n, s, a, e, f) hc => by
  have h0 := hc _ (.head _)
  have h1 := hc _ (.tail _ (.head _))
  exact satFD GCb_ok AllP.nil DCb_ok mixed Tryz.func82 (cuBy_e n s a e f) (cuBy_v n s a e f h0 h1)
theorem cuOf_sound : Sound Tryz.prog 81 sCuOf.ctr := sCuOf.sound (by kernel_rfl) sCuOf_enc fun ⟨s, a, e, f⟩ hc => by
  have h0 := hc _ (.head _)
  exact satG GCb_ok mixed Tryz.func81 (cuOf_e s a e f) (cuOf_v s a e f h0)
theorem GCc_ok : AllOk Tryz.prog GCc := .cons cuOf_sound <| .cons cuBy_sound <| GCb_ok
theorem cuByte_sound : Sound Tryz.prog 73 sCuByte.ctr := sCuByte.sound (by kernel_rfl) sCuByte_enc fun ⟨s, a, e, f⟩ hc => by
  have h0 := hc _ (.head _)
  have h1 := hc _ (.tail _ (.head _))
  exact satG GCc_ok mixed Tryz.func73 (cuByte_e s a e f) (cuByte_v s a e f h0 h1)
theorem cuLit_sound : Sound Tryz.prog 74 sCuLit.ctr := sCuLit.sound (by kernel_rfl) sCuLit_enc fun ⟨s, a, e, f, n⟩ hc => by
  have h0 := hc _ (.head _)
  have h1 := hc _ (.tail _ (.head _))
  have h2 := hc _ (.tail _ (.tail _ (.head _)))
  have h3 := hc _ (.tail _ (.tail _ (.tail _ (.head _))))
  exact satG GCc_ok mixed Tryz.func74 (cuLit_e s a e f n) (cuLit_v s a e f n h0 h1 h2 h3)
theorem cuBys_sound : Sound Tryz.prog 67 sCuBys.ctr := sCuBys.sound (by kernel_rfl) sCuBys_enc fun ⟨s, a, e, f, n⟩ hc => by
  have h0 := hc _ (.head _)
  have h1 := hc _ (.tail _ (.head _))
  exact satG GCc_ok mixed Tryz.func67 (cuBys_e s a e f n) (cuBys_v s a e f n h0 h1)
theorem cuFa_sound : Sound Tryz.prog 75 sCuFa.ctr := sCuFa.sound (by kernel_rfl) sCuFa_enc fun ⟨s, a, e, f, x, y⟩ hc => by
  have h0 := hc _ (.head _)
  have h1 := hc _ (.tail _ (.head _))
  have h2 := hc _ (.tail _ (.tail _ (.head _)))
  exact satG GCc_ok mixed Tryz.func75 (cuFa_e s a e f x y) (cuFa_v s a e f x y h0 h1 h2)
theorem GCd_ok : AllOk Tryz.prog GCd := .cons cuByte_sound <| .cons cuLit_sound <| .cons cuBys_sound <| .cons cuFa_sound <| GCc_ok
theorem cuSk_sound : Sound Tryz.prog 72 sCuSk.ctr := sCuSk.sound (by kernel_rfl) sCuSk_enc fun ⟨s, a, e, f, n⟩ hc => by
  have h0 := hc _ (.head _)
  have h1 := hc _ (.tail _ (.head _))
  exact satG GCd_ok mixed Tryz.func72 (cuSk_e s a e f n) (cuSk_v s a e f n h0 h1)
theorem GCe_ok : AllOk Tryz.prog GCe := .cons cuSk_sound <| GCd_ok
end Go.Proofs.YtbfdchahapajaaaGreatDoor
namespace Go.Proofs.YtbfdchahapajaaaGreatDoor
open Go
set_option linter.unusedVariables false
set_option maxRecDepth 100000
abbrev CuT := Int × Int × Int
def stB (s : ByteArray) (c : CuT) (n : Int) : CuT := (byA s c.1 c.2.1 n, byE s c.1 c.2.1 n, byF s c.1 c.2.1 c.2.2 n)
def ouB (s : ByteArray) (c : CuT) (n : Int) : Int := numS (byO s c.1 c.2.1 n)
def feS (s : ByteArray) (c : CuT) (n : Int) : CuT := cond (n == 0) c (stB s c n)
def feV (s : ByteArray) (c : CuT) (n : Int) : Int := cond (n == 0) 0 (ouB s c n)
def mgB : ByteArray := { data := #[40, 181, 47, 253] }
def hpB (s t : ByteArray) : Bool := decide (t.size ≤ s.size) && ((s.extract 0 t.size).toList == t.toList)
def fi4 (s : ByteArray) (a : Int) : ByteArray := s.extract a.toNat (min (s.size : Int) (a + 4)).toNat
def bgB (s : ByteArray) (a : Int) : Bool := hpB mgB (fi4 s a)
def wdH (b : Int) : Int := 2 ^ (10 + b / 8).toNat + b % 8 * 2 ^ (7 + b / 8).toNat
def aN (b m : Int) : Int := bits .and .i64 b m
def hdC0 (s : ByteArray) (a : Int) : CuT := (nwA s a, nwE s a, 0)
def hdC1 (s : ByteArray) (a : Int) : CuT := stB s (hdC0 s a) 4
def hdD (s : ByteArray) (a : Int) : Int := ouB s (hdC1 s a) 1
def hdC2 (s : ByteArray) (a : Int) : CuT := stB s (hdC1 s a) 1
def hdSg (s : ByteArray) (a : Int) : Bool := aN (hdD s a) 32 != 0
def hdSm (s : ByteArray) (a : Int) : Bool := aN (hdD s a) 4 != 0
def hdC3 (s : ByteArray) (a : Int) : CuT := cond (hdSg s a) (hdC2 s a) (stB s (hdC2 s a) 1)
def hdW (s : ByteArray) (a : Int) : Int := cond (hdSg s a) 0 (wdH (ouB s (hdC2 s a) 1))
def hdDn (s : ByteArray) (a : Int) : Int := [(0 : Int), 1, 2, 4].getD (aN (hdD s a) 3).toNat 0
def hdC4 (s : ByteArray) (a : Int) : CuT := feS s (hdC3 s a) (hdDn s a)
def hdId (s : ByteArray) (a : Int) : Int := feV s (hdC3 s a) (hdDn s a)
def hdS0 (s : ByteArray) (a : Int) : Int := [(0 : Int), 2, 4, 8].getD (hdD s a / 64).toNat 0
def hdSz (s : ByteArray) (a : Int) : Int := cond ((hdS0 s a == 0) && hdSg s a) 1 (hdS0 s a)
def hdC5 (s : ByteArray) (a : Int) : CuT := feS s (hdC4 s a) (hdSz s a)
def hdN0 (s : ByteArray) (a : Int) : Int := feV s (hdC4 s a) (hdSz s a)
def hdN (s : ByteArray) (a : Int) : Int := cond (hdD s a / 64 == 1) (hdN0 s a + 256) (hdN0 s a)
def hdP (s : ByteArray) (a : Int) : Int × Int := cond (nwE s a != 0) (nwE s a, 0) (cond (!bgB s (nwA s a)) (14, nwA s a) (cond ((hdC1 s a).2.1 != 0) ((hdC1 s a).2.1, (hdC1 s a).2.2)
  (cond (((hdC2 s a).2.1 == 0) && (aN (hdD s a) 8 != 0)) (15, (hdC2 s a).1 - 1) (0, 0))))
def hdQ (s : ByteArray) (a : Int) : Int × Int := cond ((hdC5 s a).2.1 != 0) ((hdC5 s a).2.1, (hdC5 s a).2.2) (cond (hdId s a != 0) (16, (hdC3 s a).1) (cond (hdSg s a && decide (134217728 < hdN s a)) (17, (hdC4 s a).1)
  (cond (!hdSg s a && decide (134217728 < hdW s a)) (17, (hdC2 s a).1) (cond (decide (1099511627776 < hdN s a)) (2, (hdC4 s a).1) (0, 0)))))
def hdE (s : ByteArray) (a : Int) : Int × Int := cond ((hdP s a).1 == 0) (hdQ s a) (hdP s a)
def hdOk (s : ByteArray) (a : Int) : Bool := (hdE s a).1 == 0
def hdSi (s : ByteArray) (a : Int) : Int := cond (decide (0 < hdSz s a)) (hdN s a) (-1)
def hhW (s : ByteArray) (a : Int) : Int := cond (hdOk s a) (cond (hdSg s a) (hdSi s a) (hdW s a)) 0
def hhS (s : ByteArray) (a : Int) : Int := cond (hdOk s a) (hdSi s a) 0
def hhG (s : ByteArray) (a : Int) : Bool := hdOk s a && hdSg s a
def hhM (s : ByteArray) (a : Int) : Bool := hdOk s a && hdSm s a
def hhN (s : ByteArray) (a : Int) : Int := cond (hdOk s a) (hdC5 s a).1 0
end Go.Proofs.YtbfdchahapajaaaGreatDoor
namespace Go.Proofs.YtbfdchahapajaaaGreatDoor
open Go Go.RowKit
set_option linter.unusedVariables false
set_option linter.unusedSimpArgs false
set_option maxRecDepth 100000
def cuR (s : ByteArray) (c : CuT) : List SV := [.v (.string s), .v (.int .i64 c.1), .v (.int .i64 c.2.1), .v (.int .i64 c.2.2)]
def sHp : Spec where
  ι := ByteArray × ByteArray
  dec l H := match l with
    | [.v (.string s), .v (.string t)] => some ((s, t), [])
    | _ => none
  args := fun (s, t) => [.v (.string s), .v (.string t)]
  out := fun (s, t) => .leaf (.v (.bool (hpB s t))) []
theorem sHp_enc : ∀ l H n i ls, sHp.dec l H = some (i, ls) → l = renL (rho ls n) (sHp.args i) ∧ givenHp H ls = renH (rho ls n) (sHp.hp i) := by
  intro l H n i ls h
  simp only [sHp] at h
  repeat' split at h
  all_goals first
    | (cases h; done)
    | (cases h; exact ⟨rfl, rfl⟩)
def sHdW : Spec where
  ι := Int
  dec l H := match l with
    | [.v (.int .i64 b)] => some (b, [])
    | _ => none
  args := fun b => [.v (.int .i64 b)]
  pre := fun b => [⟨0 ≤ b, inferInstance⟩, ⟨b ≤ 255, inferInstance⟩]
  out := fun b => .leaf (.v (.int .i64 (wdH b))) []
theorem sHdW_enc : ∀ l H n i ls, sHdW.dec l H = some (i, ls) → l = renL (rho ls n) (sHdW.args i) ∧ givenHp H ls = renH (rho ls n) (sHdW.hp i) := by
  intro l H n i ls h
  simp only [sHdW] at h
  repeat' split at h
  all_goals first
    | (cases h; done)
    | (cases h; exact ⟨rfl, rfl⟩)
def sHdDi : Spec where
  ι := Unit
  dec l H := match l with
    | [] => some ((), [])
    | _ => none
  args := fun _ => []
  out := fun _ => .leaf (.av (.ints .i64 [0, 1, 2, 4])) []
theorem sHdDi_enc : ∀ l H n i ls, sHdDi.dec l H = some (i, ls) → l = renL (rho ls n) (sHdDi.args i) ∧ givenHp H ls = renH (rho ls n) (sHdDi.hp i) := by
  intro l H n i ls h
  simp only [sHdDi] at h
  repeat' split at h
  all_goals first
    | (cases h; done)
    | (cases h; exact ⟨rfl, rfl⟩)
def sHdFs : Spec where
  ι := Unit
  dec l H := match l with
    | [] => some ((), [])
    | _ => none
  args := fun _ => []
  out := fun _ => .leaf (.av (.ints .i64 [0, 2, 4, 8])) []
theorem sHdFs_enc : ∀ l H n i ls, sHdFs.dec l H = some (i, ls) → l = renL (rho ls n) (sHdFs.args i) ∧ givenHp H ls = renH (rho ls n) (sHdFs.hp i) := by
  intro l H n i ls h
  simp only [sHdFs] at h
  repeat' split at h
  all_goals first
    | (cases h; done)
    | (cases h; exact ⟨rfl, rfl⟩)
def sHdB : Spec where
  ι := ByteArray × Int × Int × Int
  dec l H := match l with
    | [.p l0 0 0] => match H l0 with
      | some (.cells 108 [.v (.string s), .v (.int .i64 a), .v (.int .i64 e), .v (.int .i64 f)]) => some ((s, a, e, f), [l0])
      | _ => none
    | _ => none
  args := fun (s, a, e, f) => [.p 0 0 0]
  hp := fun (s, a, e, f) => [(0, .cells 108 [.v (.string s), .v (.int .i64 a), .v (.int .i64 e), .v (.int .i64 f)])]
  pre := fun (s, a, e, f) => [⟨vldC s a e f = true, inferInstance⟩, ⟨s.size ≤ 9223372036854775807, inferInstance⟩]
  out := fun (s, a, e, f) => .leaf (.v (.int .i64 (ouB s (a, e, f) 1))) [(0, .cells 108 (cuR s (stB s (a, e, f) 1)))]
theorem sHdB_enc : ∀ l H n i ls, sHdB.dec l H = some (i, ls) → l = renL (rho ls n) (sHdB.args i) ∧ givenHp H ls = renH (rho ls n) (sHdB.hp i) := by
  intro l H n i ls h
  simp only [sHdB] at h
  repeat' split at h
  all_goals first
    | (cases h; done)
    | (cases h; exact ⟨rfl, rfl⟩)
    | (cases h; refine ⟨rfl, ?_⟩; simp only [givenHp, List.filterMap_cons, List.filterMap_nil, Option.map, *]; rfl)
def sHdFe : Spec where
  ι := Int × ByteArray × Int × Int × Int
  dec l H := match l with
    | [.p l0 0 0, .v (.int .i64 n)] => match H l0 with
      | some (.cells 108 [.v (.string s), .v (.int .i64 a), .v (.int .i64 e), .v (.int .i64 f)]) => some ((n, s, a, e, f), [l0])
      | _ => none
    | _ => none
  args := fun (n, s, a, e, f) => [.p 0 0 0, .v (.int .i64 n)]
  hp := fun (n, s, a, e, f) => [(0, .cells 108 [.v (.string s), .v (.int .i64 a), .v (.int .i64 e), .v (.int .i64 f)])]
  pre := fun (n, s, a, e, f) => [⟨vldC s a e f = true, inferInstance⟩, ⟨s.size ≤ 9223372036854775807, inferInstance⟩, ⟨0 ≤ n, inferInstance⟩, ⟨n ≤ 8, inferInstance⟩]
  out := fun (n, s, a, e, f) => .leaf (.v (.int .u64 (feV s (a, e, f) n))) [(0, .cells 108 (cuR s (feS s (a, e, f) n)))]
theorem sHdFe_enc : ∀ l H n i ls, sHdFe.dec l H = some (i, ls) → l = renL (rho ls n) (sHdFe.args i) ∧ givenHp H ls = renH (rho ls n) (sHdFe.hp i) := by
  intro l H n i ls h
  simp only [sHdFe] at h
  repeat' split at h
  all_goals first
    | (cases h; done)
    | (cases h; exact ⟨rfl, rfl⟩)
    | (cases h; refine ⟨rfl, ?_⟩; simp only [givenHp, List.filterMap_cons, List.filterMap_nil, Option.map, *]; rfl)
def sHdBg : Spec where
  ι := ByteArray × Int × Int × Int
  dec l H := match l with
    | [.p l0 0 0] => match H l0 with
      | some (.cells 108 [.v (.string s), .v (.int .i64 a), .v (.int .i64 e), .v (.int .i64 f)]) => some ((s, a, e, f), [l0])
      | _ => none
    | _ => none
  args := fun (s, a, e, f) => [.p 0 0 0]
  hp := fun (s, a, e, f) => [(0, .cells 108 [.v (.string s), .v (.int .i64 a), .v (.int .i64 e), .v (.int .i64 f)])]
  pre := fun (s, a, e, f) => [⟨vldC s a e f = true, inferInstance⟩, ⟨e = 0, inferInstance⟩, ⟨s.size ≤ 9223372036854775000, inferInstance⟩]
  out := fun (s, a, e, f) => .ite ⟨bgB s a = true, inferInstance⟩ (.leaf (.ag [.v (.int .i64 (stB s (a, e, f) 4).2.1), .v (.int .i64 (stB s (a, e, f) 4).2.2)]) [(0, .cells 108 (cuR s (stB s (a, e, f) 4)))]) (.leaf (.ag [.v (.int .i64 14), .v (.int .i64 a)]) [(0, .cells 108 (cuR s (a, e, f)))])
theorem sHdBg_enc : ∀ l H n i ls, sHdBg.dec l H = some (i, ls) → l = renL (rho ls n) (sHdBg.args i) ∧ givenHp H ls = renH (rho ls n) (sHdBg.hp i) := by
  intro l H n i ls h
  simp only [sHdBg] at h
  repeat' split at h
  all_goals first
    | (cases h; done)
    | (cases h; exact ⟨rfl, rfl⟩)
    | (cases h; refine ⟨rfl, ?_⟩; simp only [givenHp, List.filterMap_cons, List.filterMap_nil, Option.map, *]; rfl)
def sHdRd : Spec where
  ι := ByteArray × Int
  dec l H := match l with
    | [.v (.string s), .v (.int .i64 a)] => some ((s, a), [])
    | _ => none
  args := fun (s, a) => [.v (.string s), .v (.int .i64 a)]
  pre := fun (s, a) => [⟨s.size ≤ 1000000, inferInstance⟩]
  out := fun (s, a) => .leaf (.tu [.ag [.v (.int .i64 (hhW s a)), .v (.int .i64 (hhS s a)), .v (.bool (hhG s a)), .v (.bool (hhM s a))], .v (.int .i64 (hhN s a)), .ag [.v (.int .i64 (hdE s a).1), .v (.int .i64 (hdE s a).2)]]) []
theorem sHdRd_enc : ∀ l H n i ls, sHdRd.dec l H = some (i, ls) → l = renL (rho ls n) (sHdRd.args i) ∧ givenHp H ls = renH (rho ls n) (sHdRd.hp i) := by
  intro l H n i ls h
  simp only [sHdRd] at h
  repeat' split at h
  all_goals first
    | (cases h; done)
    | (cases h; exact ⟨rfl, rfl⟩)
def omL : List (Nat × LoopFam) → Nat → Option LoopFam
  | [], _ => none
  | (i, x) :: r, k => cond (Nat.beq k i) (some x) (omL r k)
def hdB (s : ByteArray) (c : CuT) (w z : Int) (g m : Bool) (e f : Int) : List (Nat × SBlk) := [(1001, .cells 108 (cuR s c)), (1002, .cells 23 [.v (.int .i64 w), .v (.int .i64 z), .v (.bool g), .v (.bool m)]), (1003, .cells 26 [.v (.int .i64 e), .v (.int .i64 f)])]
def hdI (p : Prop) (tm : List (Nat × SV)) (hp : List (Nat × SBlk)) : LoopFam := .one { ι := Unit, p := fun _ => p, tm := fun _ => (4, .p 1002 0 0) :: (6, .p 1003 0 0) :: (7, .p 1001 0 0) :: tm, hp := fun _ => hp, μ := fun _ => 0 }
def hdPre (s : ByteArray) (a : Int) : Prop := nwE s a = 0 ∧ bgB s (nwA s a) = true ∧ (hdC1 s a).2.1 = 0
def oHd (s : ByteArray) (a : Int) : Nat → Option LoopFam := omL [
  (1007, hdI (hdPre s a) [] (hdB s (hdC1 s a) 0 0 false false 0 0)),
  (1010, hdI (hdPre s a ∧ (hdP s a).1 = 0) [(8, .v (.int .i64 (hdD s a)))] (hdB s (hdC2 s a) 0 0 false false 0 0)),
  (1014, hdI (hdPre s a ∧ (hdP s a).1 = 0) [(8, .v (.int .i64 (hdD s a))), (9, .v (.int .i64 (hdC2 s a).1))] (hdB s (hdC3 s a) (hdW s a) (-1) (hdSg s a) (hdSm s a) 0 0)),
  (1020, hdI (hdPre s a ∧ (hdP s a).1 = 0) [(8, .v (.int .i64 (hdD s a))), (9, .v (.int .i64 (hdC2 s a).1)), (10, .v (.int .i64 (hdC3 s a).1)), (11, .v (.int .u64 (hdId s a))), (12, .v (.int .i64 (hdC4 s a).1)), (13, .v (.int .i64 (hdSz s a)))] (hdB s (hdC4 s a) (hdW s a) (-1) (hdSg s a) (hdSm s a) 0 0)),
  (1023, hdI (hdPre s a ∧ (hdP s a).1 = 0) [(9, .v (.int .i64 (hdC2 s a).1)), (10, .v (.int .i64 (hdC3 s a).1)), (11, .v (.int .u64 (hdId s a))), (12, .v (.int .i64 (hdC4 s a).1)), (13, .v (.int .i64 (hdSz s a))), (14, .v (.int .u64 (hdN s a)))] (hdB s (hdC5 s a) (hdW s a) (-1) (hdSg s a) (hdSm s a) 0 0)),
  (1033, hdI (hdPre s a ∧ (hdE s a).1 = 0) [(13, .v (.int .i64 (hdSz s a))), (14, .v (.int .u64 (hdN s a)))] (hdB s (hdC5 s a) (hdW s a) (-1) (hdSg s a) (hdSm s a) 0 0)),
  (1035, hdI (hdPre s a ∧ (hdE s a).1 = 0) [] (hdB s (hdC5 s a) (hdW s a) (hdSi s a) (hdSg s a) (hdSm s a) 0 0)),
  (1037, hdI (hdPre s a ∧ (hdE s a).1 = 0) [] (hdB s (hdC5 s a) (hhW s a) (hdSi s a) (hdSg s a) (hdSm s a) 0 0))]
def GHda : List (Nat × Ctr) := (92, sHp.ctr) :: (51, sHdW.ctr) :: (53, sHdDi.ctr) :: (28, sHdFs.ctr) :: (50, sHdB.ctr) :: (52, sHdFe.ctr) :: GCe
def GHdb : List (Nat × Ctr) := (71, sHp.ctr) :: GHda
def GHdc : List (Nat × Ctr) := (49, sHdBg.ctr) :: GHdb
def GHdd : List (Nat × Ctr) := (23, sHdRd.ctr) :: GHdc
end Go.Proofs.YtbfdchahapajaaaGreatDoor
namespace Go.Proofs.YtbfdchahapajaaaGreatDoor
open Go Go.RowKit
set_option linter.unusedVariables false
set_option maxRecDepth 100000
def hpL_t (s t : ByteArray) : Prop :=
 (decide ((↑(ByteArray.size s) : Int) ≥ (↑(ByteArray.size t) : Int)) = true →
 (0 : Int) ≤ (0 : Int) ∧
 (0 : Int) ≤ (↑(ByteArray.size t) : Int) ∧
 (↑(ByteArray.size t) : Int) ≤ (↑(ByteArray.size s) : Int) ∧
 (ByteArray.toList (ByteArray.extract s (Int.toNat (0 : Int)) (Int.toNat (↑(ByteArray.size t) : Int))) == ByteArray.toList t) = hpB s t) ∧
 (decide ((↑(ByteArray.size s) : Int) ≥ (↑(ByteArray.size t) : Int)) = false → false = hpB s t)
theorem hpL_e (s t : ByteArray) : hpL_t s t = vcG Tryz.prog (Gof []) (fun _ => none) Tryz.f92 [.v (.string s), .v (.string t)] [] (.leaf ((.v (.bool (hpB s t)))) ([])) := by kernel_rfl
def hpG_t (s t : ByteArray) : Prop :=
 hpB s t = hpB s t
theorem hpG_e (s t : ByteArray) : hpG_t s t = vcG Tryz.prog (Gof GHda) (fun _ => none) Tryz.f71 [.v (.string s), .v (.string t)] [] (.leaf ((.v (.bool (hpB s t)))) ([])) := by kernel_rfl
def hdWn_t (b : Int) : Prop :=
 (0 : Int) ≤ (3 : Int) ∧
 (0 : Int) ≤ IntKind.wrap IntKind.i64 ((10 : Int) + Int.fdiv b ((2 : Int) ^ min (Int.toNat (3 : Int)) (IntKind.bits IntKind.i64))) ∧
 (0 : Int) ≤ IntKind.wrap IntKind.i64 (IntKind.wrap IntKind.i64 ((10 : Int) + Int.fdiv b ((2 : Int) ^ min (Int.toNat (3 : Int)) (IntKind.bits IntKind.i64))) - (3 : Int)) ∧
 IntKind.wrap IntKind.i64
 (IntKind.wrap IntKind.i64
 ((1 : Int) *
 (2 : Int) ^ min (Int.toNat (IntKind.wrap IntKind.i64 ((10 : Int) + Int.fdiv b ((2 : Int) ^ min (Int.toNat (3 : Int)) (IntKind.bits IntKind.i64))))) (IntKind.bits IntKind.i64)) +
 IntKind.wrap IntKind.i64
 (bits BinOp.and IntKind.i64 b (7 : Int) *
 (2 : Int) ^
 min (Int.toNat (IntKind.wrap IntKind.i64 (IntKind.wrap IntKind.i64 ((10 : Int) + Int.fdiv b ((2 : Int) ^ min (Int.toNat (3 : Int)) (IntKind.bits IntKind.i64))) - (3 : Int))))
 (IntKind.bits IntKind.i64))) =
 wdH b
theorem hdWn_e (b : Int) : hdWn_t b = vcG Tryz.prog (Gof []) (fun _ => none) Tryz.f51 [.v (.int .i64 b)] [] (.leaf ((.v (.int .i64 (wdH b)))) ([])) := by kernel_rfl
def hdDi_t  : Prop :=
 List.length [(0 : Int), (1 : Int), (2 : Int), (4 : Int)] = List.length (List.replicate (4 : Nat) (0 : Int)) ∧
 (4 : Nat) = (4 : Nat) ∧ [(0 : Int), (1 : Int), (2 : Int), (4 : Int)] = [(0 : Int), (1 : Int), (2 : Int), (4 : Int)]
theorem hdDi_e  : hdDi_t  = vcG Tryz.prog (Gof []) (fun _ => none) Tryz.f53 [] [] (.leaf ((.av (.ints .i64 [0, 1, 2, 4]))) ([])) := by kernel_rfl
def hdFs_t  : Prop :=
 List.length [(0 : Int), (2 : Int), (4 : Int), (8 : Int)] = List.length (List.replicate (4 : Nat) (0 : Int)) ∧
 (4 : Nat) = (4 : Nat) ∧ [(0 : Int), (2 : Int), (4 : Int), (8 : Int)] = [(0 : Int), (2 : Int), (4 : Int), (8 : Int)]
theorem hdFs_e  : hdFs_t  = vcG Tryz.prog (Gof []) (fun _ => none) Tryz.f28 [] [] (.leaf ((.av (.ints .i64 [0, 2, 4, 8]))) ([])) := by kernel_rfl
def hdBy_t (s : ByteArray) (a e f : Int) : Prop :=
 vldC s a (e, f).fst (e, f).snd = true ∧
 ByteArray.size s ≤ (9223372036854775807 : Nat) ∧
 numS (byO s a (e, f).fst (1 : Int)) = ouB s (a, e, f) (1 : Int) ∧
 s = s ∧
 byA s a (e, f).fst (1 : Int) = (stB s (a, e, f) (1 : Int)).fst ∧
 byE s a (e, f).fst (1 : Int) = (stB s (a, e, f) (1 : Int)).snd.fst ∧ byF s a (e, f).fst (e, f).snd (1 : Int) = (stB s (a, e, f) (1 : Int)).snd.snd
theorem hdBy_e (s : ByteArray) (a e f : Int) : hdBy_t s a e f = vcG Tryz.prog (Gof GCe) (fun _ => none) Tryz.f50 [.p 0 0 0] [(0, .cells 108 (cuR s (a, e, f)))] (.leaf ((.v (.int .i64 (ouB s (a, e, f) 1)))) ([(0, .cells 108 (cuR s (stB s (a, e, f) 1)))])) := by kernel_rfl
def hdFe_t (n : Int) (s : ByteArray) (a e f : Int) : Prop :=
 ((n == (0 : Int)) = true → (0 : Int) = feV s (a, e, f) n ∧ s = s ∧ a = (feS s (a, e, f) n).fst ∧ (e, f).fst = (feS s (a, e, f) n).snd.fst ∧ (e, f).snd = (feS s (a, e, f) n).snd.snd) ∧
 ((n == (0 : Int)) = false →
 vldC s a (e, f).fst (e, f).snd = true ∧
 ByteArray.size s ≤ (9223372036854775807 : Nat) ∧
 (1 : Int) ≤ n ∧
 n ≤ (8 : Int) ∧
 numS (byO s a (e, f).fst n) = feV s (a, e, f) n ∧
 s = s ∧ byA s a (e, f).fst n = (feS s (a, e, f) n).fst ∧ byE s a (e, f).fst n = (feS s (a, e, f) n).snd.fst ∧ byF s a (e, f).fst (e, f).snd n = (feS s (a, e, f) n).snd.snd)
theorem hdFe_e (n : Int) (s : ByteArray) (a e f : Int) : hdFe_t n s a e f = vcG Tryz.prog (Gof GCe) (fun _ => none) Tryz.f52 [.p 0 0 0, .v (.int .i64 n)] [(0, .cells 108 (cuR s (a, e, f)))] (.leaf ((.v (.int .u64 (feV s (a, e, f) n)))) ([(0, .cells 108 (cuR s (feS s (a, e, f) n)))])) := by kernel_rfl
def hdBg_t (s : ByteArray) (a e f : Int) : Prop :=
 (0 : Int) ≤ a ∧
 a ≤ min (↑(ByteArray.size s) : Int) (IntKind.wrap IntKind.i64 (a + (4 : Int))) ∧
 min (↑(ByteArray.size s) : Int) (IntKind.wrap IntKind.i64 (a + (4 : Int))) ≤ (↑(ByteArray.size s) : Int) ∧
 ((!hpB { data := #[(40 : UInt8), (181 : UInt8), (47 : UInt8), (253 : UInt8)] }
 (ByteArray.extract s (Int.toNat a) (Int.toNat (min (↑(ByteArray.size s) : Int) (IntKind.wrap IntKind.i64 (a + (4 : Int))))))) =
 true →
 (bgB s a = true →
 (14 : Int) = (stB s (a, e, f) (4 : Int)).snd.fst ∧
 a = (stB s (a, e, f) (4 : Int)).snd.snd ∧
 s = s ∧ a = (stB s (a, e, f) (4 : Int)).fst ∧ (e, f).fst = (stB s (a, e, f) (4 : Int)).snd.fst ∧ (e, f).snd = (stB s (a, e, f) (4 : Int)).snd.snd) ∧
 (¬bgB s a = true → (14 : Int) = (14 : Int) ∧ a = a ∧ s = s ∧ a = a ∧ (e, f).fst = (e, f).fst ∧ (e, f).snd = (e, f).snd)) ∧
 ((!hpB { data := #[(40 : UInt8), (181 : UInt8), (47 : UInt8), (253 : UInt8)] }
 (ByteArray.extract s (Int.toNat a) (Int.toNat (min (↑(ByteArray.size s) : Int) (IntKind.wrap IntKind.i64 (a + (4 : Int))))))) =
 false →
 vldC s a (e, f).fst (e, f).snd = true ∧
 ByteArray.size s ≤ (9223372036854775807 : Nat) ∧
 (bgB s a = true →
 byE s a (e, f).fst (4 : Int) = (stB s (a, e, f) (4 : Int)).snd.fst ∧
 byF s a (e, f).fst (e, f).snd (4 : Int) = (stB s (a, e, f) (4 : Int)).snd.snd ∧
 s = s ∧
 byA s a (e, f).fst (4 : Int) = (stB s (a, e, f) (4 : Int)).fst ∧
 byE s a (e, f).fst (4 : Int) = (stB s (a, e, f) (4 : Int)).snd.fst ∧ byF s a (e, f).fst (e, f).snd (4 : Int) = (stB s (a, e, f) (4 : Int)).snd.snd) ∧
 (¬bgB s a = true →
 byE s a (e, f).fst (4 : Int) = (14 : Int) ∧
 byF s a (e, f).fst (e, f).snd (4 : Int) = a ∧
 s = s ∧ byA s a (e, f).fst (4 : Int) = a ∧ byE s a (e, f).fst (4 : Int) = (e, f).fst ∧ byF s a (e, f).fst (e, f).snd (4 : Int) = (e, f).snd))
theorem hdBg_e (s : ByteArray) (a e f : Int) : hdBg_t s a e f = vcG Tryz.prog (Gof GHdb) (fun _ => none) Tryz.f49 [.p 0 0 0] [(0, .cells 108 (cuR s (a, e, f)))] (.ite ⟨bgB s a = true, inferInstance⟩ (.leaf (.ag [.v (.int .i64 (stB s (a, e, f) 4).2.1), .v (.int .i64 (stB s (a, e, f) 4).2.2)]) ([(0, .cells 108 (cuR s (stB s (a, e, f) 4)))])) (.leaf (.ag [.v (.int .i64 14), .v (.int .i64 a)]) ([(0, .cells 108 (cuR s (a, e, f)))]))) := by kernel_rfl
def hdRd_t (s : ByteArray) (a : Int) : Prop :=
 ((nwE s a != (0 : Int)) = true → (0 : Int) = hhW s a ∧ (0 : Int) = hhS s a ∧ false = hhG s a ∧ false = hhM s a ∧ (0 : Int) = hhN s a ∧ nwE s a = (hdE s a).fst ∧ (0 : Int) = (hdE s a).snd) ∧
 ((nwE s a != (0 : Int)) = false →
 ((bgB s (nwA s a) = true →
 vldC s (nwA s a) (nwE s a) (0 : Int) = true ∧
 nwE s a = (0 : Int) ∧
 ByteArray.size s ≤ (9223372036854775000 : Nat) ∧
 (((stB s (nwA s a, nwE s a, (0 : Int)) (4 : Int)).snd.fst != (0 : Int)) = true →
 (0 : Int) = hhW s a ∧
 (0 : Int) = hhS s a ∧
 false = hhG s a ∧
 false = hhM s a ∧
 (0 : Int) = hhN s a ∧ (stB s (nwA s a, nwE s a, (0 : Int)) (4 : Int)).snd.fst = (hdE s a).fst ∧ (stB s (nwA s a, nwE s a, (0 : Int)) (4 : Int)).snd.snd = (hdE s a).snd) ∧
 (((stB s (nwA s a, nwE s a, (0 : Int)) (4 : Int)).snd.fst != (0 : Int)) = false →
 ∃ (x0 : Unit),
 (nwE s a = (0 : Int) ∧ bgB s (nwA s a) = true ∧ (hdC1 s a).snd.fst = (0 : Int)) ∧
 s = s ∧
 (stB s (nwA s a, nwE s a, (0 : Int)) (4 : Int)).fst = (hdC1 s a).fst ∧
 (stB s (nwA s a, nwE s a, (0 : Int)) (4 : Int)).snd.fst = (hdC1 s a).snd.fst ∧
 (stB s (nwA s a, nwE s a, (0 : Int)) (4 : Int)).snd.snd = (hdC1 s a).snd.snd ∧
 (0 : Int) = (0 : Int) ∧
 (0 : Int) = (0 : Int) ∧
 false = false ∧
 false = false ∧ (stB s (nwA s a, nwE s a, (0 : Int)) (4 : Int)).snd.fst = (0 : Int) ∧ (stB s (nwA s a, nwE s a, (0 : Int)) (4 : Int)).snd.snd = (0 : Int))) ∧
 (¬bgB s (nwA s a) = true →
 vldC s (nwA s a) (nwE s a) (0 : Int) = true ∧
 nwE s a = (0 : Int) ∧
 ByteArray.size s ≤ (9223372036854775000 : Nat) ∧
 (((14 : Int) != (0 : Int)) = true →
 (0 : Int) = hhW s a ∧ (0 : Int) = hhS s a ∧ false = hhG s a ∧ false = hhM s a ∧ (0 : Int) = hhN s a ∧ (14 : Int) = (hdE s a).fst ∧ nwA s a = (hdE s a).snd) ∧
 (((14 : Int) != (0 : Int)) = false →
 ∃ (x1 : Unit),
 (nwE s a = (0 : Int) ∧ bgB s (nwA s a) = true ∧ (hdC1 s a).snd.fst = (0 : Int)) ∧
 s = s ∧
 nwA s a = (hdC1 s a).fst ∧
 (nwE s a, (0 : Int)).fst = (hdC1 s a).snd.fst ∧
 (nwE s a, (0 : Int)).snd = (hdC1 s a).snd.snd ∧
 (0 : Int) = (0 : Int) ∧ (0 : Int) = (0 : Int) ∧ false = false ∧ false = false ∧ (14 : Int) = (0 : Int) ∧ nwA s a = (0 : Int)))) ∧
 ∀ (x2 : Unit),
 nwE s a = (0 : Int) ∧ bgB s (nwA s a) = true ∧ (hdC1 s a).snd.fst = (0 : Int) →
 vldC s (hdC1 s a).fst (hdC1 s a).snd.fst (hdC1 s a).snd.snd = true ∧
 ByteArray.size s ≤ (9223372036854775807 : Nat) ∧
 ((((stB s ((hdC1 s a).fst, (hdC1 s a).snd.fst, (hdC1 s a).snd.snd) (1 : Int)).snd.fst == (0 : Int)) = true →
 ((bits BinOp.and IntKind.i64 (ouB s ((hdC1 s a).fst, (hdC1 s a).snd.fst, (hdC1 s a).snd.snd) (1 : Int)) (8 : Int) != (0 : Int)) = true →
 (0 : Int) = hhW s a ∧
 (0 : Int) = hhS s a ∧
 false = hhG s a ∧
 false = hhM s a ∧
 (0 : Int) = hhN s a ∧
 (15 : Int) = (hdE s a).fst ∧ IntKind.wrap IntKind.i64 ((stB s ((hdC1 s a).fst, (hdC1 s a).snd.fst, (hdC1 s a).snd.snd) (1 : Int)).fst - (1 : Int)) = (hdE s a).snd) ∧
 ((bits BinOp.and IntKind.i64 (ouB s ((hdC1 s a).fst, (hdC1 s a).snd.fst, (hdC1 s a).snd.snd) (1 : Int)) (8 : Int) != (0 : Int)) = false →
 ∃ (x3 : Unit),
 ((nwE s a = (0 : Int) ∧ bgB s (nwA s a) = true ∧ (hdC1 s a).snd.fst = (0 : Int)) ∧ (hdP s a).fst = (0 : Int)) ∧
 ouB s ((hdC1 s a).fst, (hdC1 s a).snd.fst, (hdC1 s a).snd.snd) (1 : Int) = hdD s a ∧
 s = s ∧
 (stB s ((hdC1 s a).fst, (hdC1 s a).snd.fst, (hdC1 s a).snd.snd) (1 : Int)).fst = (hdC2 s a).fst ∧
 (stB s ((hdC1 s a).fst, (hdC1 s a).snd.fst, (hdC1 s a).snd.snd) (1 : Int)).snd.fst = (hdC2 s a).snd.fst ∧
 (stB s ((hdC1 s a).fst, (hdC1 s a).snd.fst, (hdC1 s a).snd.snd) (1 : Int)).snd.snd = (hdC2 s a).snd.snd ∧
 (0 : Int) = (0 : Int) ∧ (0 : Int) = (0 : Int) ∧ false = false ∧ false = false ∧ (0 : Int) = (0 : Int) ∧ (0 : Int) = (0 : Int))) ∧
 (((stB s ((hdC1 s a).fst, (hdC1 s a).snd.fst, (hdC1 s a).snd.snd) (1 : Int)).snd.fst == (0 : Int)) = false →
 ∃ (x4 : Unit),
 ((nwE s a = (0 : Int) ∧ bgB s (nwA s a) = true ∧ (hdC1 s a).snd.fst = (0 : Int)) ∧ (hdP s a).fst = (0 : Int)) ∧
 ouB s ((hdC1 s a).fst, (hdC1 s a).snd.fst, (hdC1 s a).snd.snd) (1 : Int) = hdD s a ∧
 s = s ∧
 (stB s ((hdC1 s a).fst, (hdC1 s a).snd.fst, (hdC1 s a).snd.snd) (1 : Int)).fst = (hdC2 s a).fst ∧
 (stB s ((hdC1 s a).fst, (hdC1 s a).snd.fst, (hdC1 s a).snd.snd) (1 : Int)).snd.fst = (hdC2 s a).snd.fst ∧
 (stB s ((hdC1 s a).fst, (hdC1 s a).snd.fst, (hdC1 s a).snd.snd) (1 : Int)).snd.snd = (hdC2 s a).snd.snd ∧
 (0 : Int) = (0 : Int) ∧ (0 : Int) = (0 : Int) ∧ false = false ∧ false = false ∧ (0 : Int) = (0 : Int) ∧ (0 : Int) = (0 : Int))) ∧
 ∀ (x5 : Unit),
 (nwE s a = (0 : Int) ∧ bgB s (nwA s a) = true ∧ (hdC1 s a).snd.fst = (0 : Int)) ∧ (hdP s a).fst = (0 : Int) →
 (((!bits BinOp.and IntKind.i64 (hdD s a) (32 : Int) != (0 : Int)) = true →
 vldC s (hdC2 s a).fst (hdC2 s a).snd.fst (hdC2 s a).snd.snd = true ∧
 ByteArray.size s ≤ (9223372036854775807 : Nat) ∧
 (0 : Int) ≤ ouB s ((hdC2 s a).fst, (hdC2 s a).snd.fst, (hdC2 s a).snd.snd) (1 : Int) ∧
 ouB s ((hdC2 s a).fst, (hdC2 s a).snd.fst, (hdC2 s a).snd.snd) (1 : Int) ≤ (255 : Int) ∧
 ∃ (x6 : Unit),
 ((nwE s a = (0 : Int) ∧ bgB s (nwA s a) = true ∧ (hdC1 s a).snd.fst = (0 : Int)) ∧ (hdP s a).fst = (0 : Int)) ∧
 hdD s a = hdD s a ∧
 (hdC2 s a).fst = (hdC2 s a).fst ∧
 s = s ∧
 (stB s ((hdC2 s a).fst, (hdC2 s a).snd.fst, (hdC2 s a).snd.snd) (1 : Int)).fst = (hdC3 s a).fst ∧
 (stB s ((hdC2 s a).fst, (hdC2 s a).snd.fst, (hdC2 s a).snd.snd) (1 : Int)).snd.fst = (hdC3 s a).snd.fst ∧
 (stB s ((hdC2 s a).fst, (hdC2 s a).snd.fst, (hdC2 s a).snd.snd) (1 : Int)).snd.snd = (hdC3 s a).snd.snd ∧
 wdH (ouB s ((hdC2 s a).fst, (hdC2 s a).snd.fst, (hdC2 s a).snd.snd) (1 : Int)) = hdW s a ∧
 (-1 : Int) = (-1 : Int) ∧
 (bits BinOp.and IntKind.i64 (hdD s a) (32 : Int) != (0 : Int)) = hdSg s a ∧
 (bits BinOp.and IntKind.i64 (hdD s a) (4 : Int) != (0 : Int)) = hdSm s a ∧ (0 : Int) = (0 : Int) ∧ (0 : Int) = (0 : Int)) ∧
 ((!bits BinOp.and IntKind.i64 (hdD s a) (32 : Int) != (0 : Int)) = false →
 ∃ (x7 : Unit),
 ((nwE s a = (0 : Int) ∧ bgB s (nwA s a) = true ∧ (hdC1 s a).snd.fst = (0 : Int)) ∧ (hdP s a).fst = (0 : Int)) ∧
 hdD s a = hdD s a ∧
 (hdC2 s a).fst = (hdC2 s a).fst ∧
 s = s ∧
 (hdC2 s a).fst = (hdC3 s a).fst ∧
 (hdC2 s a).snd.fst = (hdC3 s a).snd.fst ∧
 (hdC2 s a).snd.snd = (hdC3 s a).snd.snd ∧
 (0 : Int) = hdW s a ∧
 (-1 : Int) = (-1 : Int) ∧
 (bits BinOp.and IntKind.i64 (hdD s a) (32 : Int) != (0 : Int)) = hdSg s a ∧
 (bits BinOp.and IntKind.i64 (hdD s a) (4 : Int) != (0 : Int)) = hdSm s a ∧ (0 : Int) = (0 : Int) ∧ (0 : Int) = (0 : Int))) ∧
 ∀ (x8 : Unit),
 (nwE s a = (0 : Int) ∧ bgB s (nwA s a) = true ∧ (hdC1 s a).snd.fst = (0 : Int)) ∧ (hdP s a).fst = (0 : Int) →
 (0 : Int) ≤ bits BinOp.and IntKind.i64 (hdD s a) (3 : Int) ∧
 bits BinOp.and IntKind.i64 (hdD s a) (3 : Int) < (↑(4 : Nat) : Int) ∧
 (4 : Nat) = List.length [(0 : Int), (1 : Int), (2 : Int), (4 : Int)] ∧
 vldC s (hdC3 s a).fst (hdC3 s a).snd.fst (hdC3 s a).snd.snd = true ∧
 ByteArray.size s ≤ (9223372036854775807 : Nat) ∧
 (0 : Int) ≤ List.getD [(0 : Int), (1 : Int), (2 : Int), (4 : Int)] (Int.toNat (bits BinOp.and IntKind.i64 (hdD s a) (3 : Int))) (0 : Int) ∧
 List.getD [(0 : Int), (1 : Int), (2 : Int), (4 : Int)] (Int.toNat (bits BinOp.and IntKind.i64 (hdD s a) (3 : Int))) (0 : Int) ≤ (8 : Int) ∧
 (0 : Int) ≤ (6 : Int) ∧
 (0 : Int) ≤ Int.fdiv (hdD s a) ((2 : Int) ^ min (Int.toNat (6 : Int)) (IntKind.bits IntKind.i64)) ∧
 Int.fdiv (hdD s a) ((2 : Int) ^ min (Int.toNat (6 : Int)) (IntKind.bits IntKind.i64)) < (↑(4 : Nat) : Int) ∧
 (4 : Nat) = List.length [(0 : Int), (2 : Int), (4 : Int), (8 : Int)] ∧
 (((List.getD [(0 : Int), (2 : Int), (4 : Int), (8 : Int)]
 (Int.toNat (Int.fdiv (hdD s a) ((2 : Int) ^ min (Int.toNat (6 : Int)) (IntKind.bits IntKind.i64)))) (0 : Int) ==
 (0 : Int)) =
 true →
 (hdSg s a = true →
 ∃ (x9 : Unit),
 ((nwE s a = (0 : Int) ∧ bgB s (nwA s a) = true ∧ (hdC1 s a).snd.fst = (0 : Int)) ∧ (hdP s a).fst = (0 : Int)) ∧
 hdD s a = hdD s a ∧
 (hdC2 s a).fst = (hdC2 s a).fst ∧
 (hdC3 s a).fst = (hdC3 s a).fst ∧
 feV s ((hdC3 s a).fst, (hdC3 s a).snd.fst, (hdC3 s a).snd.snd)
 (List.getD [(0 : Int), (1 : Int), (2 : Int), (4 : Int)] (Int.toNat (bits BinOp.and IntKind.i64 (hdD s a) (3 : Int)))
 (0 : Int)) =
 hdId s a ∧
 (feS s ((hdC3 s a).fst, (hdC3 s a).snd.fst, (hdC3 s a).snd.snd)
 (List.getD [(0 : Int), (1 : Int), (2 : Int), (4 : Int)] (Int.toNat (bits BinOp.and IntKind.i64 (hdD s a) (3 : Int)))
 (0 : Int))).fst =
 (hdC4 s a).fst ∧
 (1 : Int) = hdSz s a ∧
 s = s ∧
 (feS s ((hdC3 s a).fst, (hdC3 s a).snd.fst, (hdC3 s a).snd.snd)
 (List.getD [(0 : Int), (1 : Int), (2 : Int), (4 : Int)] (Int.toNat (bits BinOp.and IntKind.i64 (hdD s a) (3 : Int)))
 (0 : Int))).fst =
 (hdC4 s a).fst ∧
 (feS s ((hdC3 s a).fst, (hdC3 s a).snd.fst, (hdC3 s a).snd.snd)
 (List.getD [(0 : Int), (1 : Int), (2 : Int), (4 : Int)]
 (Int.toNat (bits BinOp.and IntKind.i64 (hdD s a) (3 : Int))) (0 : Int))).snd.fst =
 (hdC4 s a).snd.fst ∧
 (feS s ((hdC3 s a).fst, (hdC3 s a).snd.fst, (hdC3 s a).snd.snd)
 (List.getD [(0 : Int), (1 : Int), (2 : Int), (4 : Int)]
 (Int.toNat (bits BinOp.and IntKind.i64 (hdD s a) (3 : Int))) (0 : Int))).snd.snd =
 (hdC4 s a).snd.snd ∧
 hdW s a = hdW s a ∧
 (-1 : Int) = (-1 : Int) ∧
 hdSg s a = hdSg s a ∧ hdSm s a = hdSm s a ∧ (0 : Int) = (0 : Int) ∧ (0 : Int) = (0 : Int)) ∧
 (hdSg s a = false →
 ∃ (x10 : Unit),
 ((nwE s a = (0 : Int) ∧ bgB s (nwA s a) = true ∧ (hdC1 s a).snd.fst = (0 : Int)) ∧ (hdP s a).fst = (0 : Int)) ∧
 hdD s a = hdD s a ∧
 (hdC2 s a).fst = (hdC2 s a).fst ∧
 (hdC3 s a).fst = (hdC3 s a).fst ∧
 feV s ((hdC3 s a).fst, (hdC3 s a).snd.fst, (hdC3 s a).snd.snd)
 (List.getD [(0 : Int), (1 : Int), (2 : Int), (4 : Int)] (Int.toNat (bits BinOp.and IntKind.i64 (hdD s a) (3 : Int)))
 (0 : Int)) =
 hdId s a ∧
 (feS s ((hdC3 s a).fst, (hdC3 s a).snd.fst, (hdC3 s a).snd.snd)
 (List.getD [(0 : Int), (1 : Int), (2 : Int), (4 : Int)] (Int.toNat (bits BinOp.and IntKind.i64 (hdD s a) (3 : Int)))
 (0 : Int))).fst =
 (hdC4 s a).fst ∧
 List.getD [(0 : Int), (2 : Int), (4 : Int), (8 : Int)]
 (Int.toNat (Int.fdiv (hdD s a) ((2 : Int) ^ min (Int.toNat (6 : Int)) (IntKind.bits IntKind.i64)))) (0 : Int) =
 hdSz s a ∧
 s = s ∧
 (feS s ((hdC3 s a).fst, (hdC3 s a).snd.fst, (hdC3 s a).snd.snd)
 (List.getD [(0 : Int), (1 : Int), (2 : Int), (4 : Int)] (Int.toNat (bits BinOp.and IntKind.i64 (hdD s a) (3 : Int)))
 (0 : Int))).fst =
 (hdC4 s a).fst ∧
 (feS s ((hdC3 s a).fst, (hdC3 s a).snd.fst, (hdC3 s a).snd.snd)
 (List.getD [(0 : Int), (1 : Int), (2 : Int), (4 : Int)]
 (Int.toNat (bits BinOp.and IntKind.i64 (hdD s a) (3 : Int))) (0 : Int))).snd.fst =
 (hdC4 s a).snd.fst ∧
 (feS s ((hdC3 s a).fst, (hdC3 s a).snd.fst, (hdC3 s a).snd.snd)
 (List.getD [(0 : Int), (1 : Int), (2 : Int), (4 : Int)]
 (Int.toNat (bits BinOp.and IntKind.i64 (hdD s a) (3 : Int))) (0 : Int))).snd.snd =
 (hdC4 s a).snd.snd ∧
 hdW s a = hdW s a ∧
 (-1 : Int) = (-1 : Int) ∧
 hdSg s a = hdSg s a ∧ hdSm s a = hdSm s a ∧ (0 : Int) = (0 : Int) ∧ (0 : Int) = (0 : Int))) ∧
 ((List.getD [(0 : Int), (2 : Int), (4 : Int), (8 : Int)]
 (Int.toNat (Int.fdiv (hdD s a) ((2 : Int) ^ min (Int.toNat (6 : Int)) (IntKind.bits IntKind.i64)))) (0 : Int) ==
 (0 : Int)) =
 false →
 ∃ (x11 : Unit),
 ((nwE s a = (0 : Int) ∧ bgB s (nwA s a) = true ∧ (hdC1 s a).snd.fst = (0 : Int)) ∧ (hdP s a).fst = (0 : Int)) ∧
 hdD s a = hdD s a ∧
 (hdC2 s a).fst = (hdC2 s a).fst ∧
 (hdC3 s a).fst = (hdC3 s a).fst ∧
 feV s ((hdC3 s a).fst, (hdC3 s a).snd.fst, (hdC3 s a).snd.snd)
 (List.getD [(0 : Int), (1 : Int), (2 : Int), (4 : Int)] (Int.toNat (bits BinOp.and IntKind.i64 (hdD s a) (3 : Int))) (0 : Int)) =
 hdId s a ∧
 (feS s ((hdC3 s a).fst, (hdC3 s a).snd.fst, (hdC3 s a).snd.snd)
 (List.getD [(0 : Int), (1 : Int), (2 : Int), (4 : Int)] (Int.toNat (bits BinOp.and IntKind.i64 (hdD s a) (3 : Int)))
 (0 : Int))).fst =
 (hdC4 s a).fst ∧
 List.getD [(0 : Int), (2 : Int), (4 : Int), (8 : Int)]
 (Int.toNat (Int.fdiv (hdD s a) ((2 : Int) ^ min (Int.toNat (6 : Int)) (IntKind.bits IntKind.i64)))) (0 : Int) =
 hdSz s a ∧
 s = s ∧
 (feS s ((hdC3 s a).fst, (hdC3 s a).snd.fst, (hdC3 s a).snd.snd)
 (List.getD [(0 : Int), (1 : Int), (2 : Int), (4 : Int)] (Int.toNat (bits BinOp.and IntKind.i64 (hdD s a) (3 : Int)))
 (0 : Int))).fst =
 (hdC4 s a).fst ∧
 (feS s ((hdC3 s a).fst, (hdC3 s a).snd.fst, (hdC3 s a).snd.snd)
 (List.getD [(0 : Int), (1 : Int), (2 : Int), (4 : Int)] (Int.toNat (bits BinOp.and IntKind.i64 (hdD s a) (3 : Int)))
 (0 : Int))).snd.fst =
 (hdC4 s a).snd.fst ∧
 (feS s ((hdC3 s a).fst, (hdC3 s a).snd.fst, (hdC3 s a).snd.snd)
 (List.getD [(0 : Int), (1 : Int), (2 : Int), (4 : Int)]
 (Int.toNat (bits BinOp.and IntKind.i64 (hdD s a) (3 : Int))) (0 : Int))).snd.snd =
 (hdC4 s a).snd.snd ∧
 hdW s a = hdW s a ∧
 (-1 : Int) = (-1 : Int) ∧ hdSg s a = hdSg s a ∧ hdSm s a = hdSm s a ∧ (0 : Int) = (0 : Int) ∧ (0 : Int) = (0 : Int))) ∧
 ∀ (x12 : Unit),
 (nwE s a = (0 : Int) ∧ bgB s (nwA s a) = true ∧ (hdC1 s a).snd.fst = (0 : Int)) ∧ (hdP s a).fst = (0 : Int) →
 vldC s (hdC4 s a).fst (hdC4 s a).snd.fst (hdC4 s a).snd.snd = true ∧
 ByteArray.size s ≤ (9223372036854775807 : Nat) ∧
 (0 : Int) ≤ hdSz s a ∧
 hdSz s a ≤ (8 : Int) ∧
 ((0 : Int) ≤ (6 : Int) ∧
 ((Int.fdiv (hdD s a) ((2 : Int) ^ min (Int.toNat (6 : Int)) (IntKind.bits IntKind.i64)) == (1 : Int)) = true →
 ∃ (x13 : Unit),
 ((nwE s a = (0 : Int) ∧ bgB s (nwA s a) = true ∧ (hdC1 s a).snd.fst = (0 : Int)) ∧ (hdP s a).fst = (0 : Int)) ∧
 (hdC2 s a).fst = (hdC2 s a).fst ∧
 (hdC3 s a).fst = (hdC3 s a).fst ∧
 hdId s a = hdId s a ∧
 (hdC4 s a).fst = (hdC4 s a).fst ∧
 hdSz s a = hdSz s a ∧
 IntKind.wrap IntKind.u64 (feV s ((hdC4 s a).fst, (hdC4 s a).snd.fst, (hdC4 s a).snd.snd) (hdSz s a) + (256 : Int)) =
 hdN s a ∧
 s = s ∧
 (feS s ((hdC4 s a).fst, (hdC4 s a).snd.fst, (hdC4 s a).snd.snd) (hdSz s a)).fst = (hdC5 s a).fst ∧
 (feS s ((hdC4 s a).fst, (hdC4 s a).snd.fst, (hdC4 s a).snd.snd) (hdSz s a)).snd.fst = (hdC5 s a).snd.fst ∧
 (feS s ((hdC4 s a).fst, (hdC4 s a).snd.fst, (hdC4 s a).snd.snd) (hdSz s a)).snd.snd = (hdC5 s a).snd.snd ∧
 hdW s a = hdW s a ∧
 (-1 : Int) = (-1 : Int) ∧
 hdSg s a = hdSg s a ∧ hdSm s a = hdSm s a ∧ (0 : Int) = (0 : Int) ∧ (0 : Int) = (0 : Int)) ∧
 ((Int.fdiv (hdD s a) ((2 : Int) ^ min (Int.toNat (6 : Int)) (IntKind.bits IntKind.i64)) == (1 : Int)) = false →
 ∃ (x14 : Unit),
 ((nwE s a = (0 : Int) ∧ bgB s (nwA s a) = true ∧ (hdC1 s a).snd.fst = (0 : Int)) ∧ (hdP s a).fst = (0 : Int)) ∧
 (hdC2 s a).fst = (hdC2 s a).fst ∧
 (hdC3 s a).fst = (hdC3 s a).fst ∧
 hdId s a = hdId s a ∧
 (hdC4 s a).fst = (hdC4 s a).fst ∧
 hdSz s a = hdSz s a ∧
 feV s ((hdC4 s a).fst, (hdC4 s a).snd.fst, (hdC4 s a).snd.snd) (hdSz s a) = hdN s a ∧
 s = s ∧
 (feS s ((hdC4 s a).fst, (hdC4 s a).snd.fst, (hdC4 s a).snd.snd) (hdSz s a)).fst = (hdC5 s a).fst ∧
 (feS s ((hdC4 s a).fst, (hdC4 s a).snd.fst, (hdC4 s a).snd.snd) (hdSz s a)).snd.fst = (hdC5 s a).snd.fst ∧
 (feS s ((hdC4 s a).fst, (hdC4 s a).snd.fst, (hdC4 s a).snd.snd) (hdSz s a)).snd.snd = (hdC5 s a).snd.snd ∧
 hdW s a = hdW s a ∧
 (-1 : Int) = (-1 : Int) ∧
 hdSg s a = hdSg s a ∧ hdSm s a = hdSm s a ∧ (0 : Int) = (0 : Int) ∧ (0 : Int) = (0 : Int))) ∧
 ∀ (x15 : Unit),
 (nwE s a = (0 : Int) ∧ bgB s (nwA s a) = true ∧ (hdC1 s a).snd.fst = (0 : Int)) ∧ (hdP s a).fst = (0 : Int) →
 ((((hdC5 s a).snd.fst != (0 : Int)) = true →
 (0 : Int) = hhW s a ∧
 (0 : Int) = hhS s a ∧
 false = hhG s a ∧
 false = hhM s a ∧ (0 : Int) = hhN s a ∧ (hdC5 s a).snd.fst = (hdE s a).fst ∧ (hdC5 s a).snd.snd = (hdE s a).snd) ∧
 (((hdC5 s a).snd.fst != (0 : Int)) = false →
 ((hdId s a != (0 : Int)) = true →
 (0 : Int) = hhW s a ∧
 (0 : Int) = hhS s a ∧
 false = hhG s a ∧
 false = hhM s a ∧ (0 : Int) = hhN s a ∧ (16 : Int) = (hdE s a).fst ∧ (hdC3 s a).fst = (hdE s a).snd) ∧
 ((hdId s a != (0 : Int)) = false →
 (hdSg s a = true →
 (decide (hdN s a > (134217728 : Int)) = true →
 (0 : Int) = hhW s a ∧
 (0 : Int) = hhS s a ∧
 false = hhG s a ∧
 false = hhM s a ∧ (0 : Int) = hhN s a ∧ (17 : Int) = (hdE s a).fst ∧ (hdC4 s a).fst = (hdE s a).snd) ∧
 (decide (hdN s a > (134217728 : Int)) = false →
 ((!hdSg s a) = true →
 (decide (hdW s a > (134217728 : Int)) = true →
 (0 : Int) = hhW s a ∧
 (0 : Int) = hhS s a ∧
 false = hhG s a ∧
 false = hhM s a ∧
 (0 : Int) = hhN s a ∧ (17 : Int) = (hdE s a).fst ∧ (hdC2 s a).fst = (hdE s a).snd) ∧
 (decide (hdW s a > (134217728 : Int)) = false →
 (decide (hdN s a > (1099511627776 : Int)) = true →
 (0 : Int) = hhW s a ∧
 (0 : Int) = hhS s a ∧
 false = hhG s a ∧
 false = hhM s a ∧
 (0 : Int) = hhN s a ∧ (2 : Int) = (hdE s a).fst ∧ (hdC4 s a).fst = (hdE s a).snd) ∧
 (decide (hdN s a > (1099511627776 : Int)) = false →
 ∃ (x16 : Unit),
 ((nwE s a = (0 : Int) ∧ bgB s (nwA s a) = true ∧ (hdC1 s a).snd.fst = (0 : Int)) ∧
 (hdE s a).fst = (0 : Int)) ∧
 hdSz s a = hdSz s a ∧
 hdN s a = hdN s a ∧
 s = s ∧
 (hdC5 s a).fst = (hdC5 s a).fst ∧
 (hdC5 s a).snd.fst = (hdC5 s a).snd.fst ∧
 (hdC5 s a).snd.snd = (hdC5 s a).snd.snd ∧
 hdW s a = hdW s a ∧
 (-1 : Int) = (-1 : Int) ∧
 hdSg s a = hdSg s a ∧
 hdSm s a = hdSm s a ∧ (0 : Int) = (0 : Int) ∧ (0 : Int) = (0 : Int)))) ∧
 ((!hdSg s a) = false →
 (decide (hdN s a > (1099511627776 : Int)) = true →
 (0 : Int) = hhW s a ∧
 (0 : Int) = hhS s a ∧
 false = hhG s a ∧
 false = hhM s a ∧
 (0 : Int) = hhN s a ∧ (2 : Int) = (hdE s a).fst ∧ (hdC4 s a).fst = (hdE s a).snd) ∧
 (decide (hdN s a > (1099511627776 : Int)) = false →
 ∃ (x17 : Unit),
 ((nwE s a = (0 : Int) ∧ bgB s (nwA s a) = true ∧ (hdC1 s a).snd.fst = (0 : Int)) ∧
 (hdE s a).fst = (0 : Int)) ∧
 hdSz s a = hdSz s a ∧
 hdN s a = hdN s a ∧
 s = s ∧
 (hdC5 s a).fst = (hdC5 s a).fst ∧
 (hdC5 s a).snd.fst = (hdC5 s a).snd.fst ∧
 (hdC5 s a).snd.snd = (hdC5 s a).snd.snd ∧
 hdW s a = hdW s a ∧
 (-1 : Int) = (-1 : Int) ∧
 hdSg s a = hdSg s a ∧
 hdSm s a = hdSm s a ∧ (0 : Int) = (0 : Int) ∧ (0 : Int) = (0 : Int))))) ∧
 (hdSg s a = false →
 ((!hdSg s a) = true →
 (decide (hdW s a > (134217728 : Int)) = true →
 (0 : Int) = hhW s a ∧
 (0 : Int) = hhS s a ∧
 false = hhG s a ∧
 false = hhM s a ∧ (0 : Int) = hhN s a ∧ (17 : Int) = (hdE s a).fst ∧ (hdC2 s a).fst = (hdE s a).snd) ∧
 (decide (hdW s a > (134217728 : Int)) = false →
 (decide (hdN s a > (1099511627776 : Int)) = true →
 (0 : Int) = hhW s a ∧
 (0 : Int) = hhS s a ∧
 false = hhG s a ∧
 false = hhM s a ∧
 (0 : Int) = hhN s a ∧ (2 : Int) = (hdE s a).fst ∧ (hdC4 s a).fst = (hdE s a).snd) ∧
 (decide (hdN s a > (1099511627776 : Int)) = false →
 ∃ (x18 : Unit),
 ((nwE s a = (0 : Int) ∧ bgB s (nwA s a) = true ∧ (hdC1 s a).snd.fst = (0 : Int)) ∧
 (hdE s a).fst = (0 : Int)) ∧
 hdSz s a = hdSz s a ∧
 hdN s a = hdN s a ∧
 s = s ∧
 (hdC5 s a).fst = (hdC5 s a).fst ∧
 (hdC5 s a).snd.fst = (hdC5 s a).snd.fst ∧
 (hdC5 s a).snd.snd = (hdC5 s a).snd.snd ∧
 hdW s a = hdW s a ∧
 (-1 : Int) = (-1 : Int) ∧
 hdSg s a = hdSg s a ∧
 hdSm s a = hdSm s a ∧ (0 : Int) = (0 : Int) ∧ (0 : Int) = (0 : Int)))) ∧
 ((!hdSg s a) = false →
 (decide (hdN s a > (1099511627776 : Int)) = true →
 (0 : Int) = hhW s a ∧
 (0 : Int) = hhS s a ∧
 false = hhG s a ∧
 false = hhM s a ∧ (0 : Int) = hhN s a ∧ (2 : Int) = (hdE s a).fst ∧ (hdC4 s a).fst = (hdE s a).snd) ∧
 (decide (hdN s a > (1099511627776 : Int)) = false →
 ∃ (x19 : Unit),
 ((nwE s a = (0 : Int) ∧ bgB s (nwA s a) = true ∧ (hdC1 s a).snd.fst = (0 : Int)) ∧
 (hdE s a).fst = (0 : Int)) ∧
 hdSz s a = hdSz s a ∧
 hdN s a = hdN s a ∧
 s = s ∧
 (hdC5 s a).fst = (hdC5 s a).fst ∧
 (hdC5 s a).snd.fst = (hdC5 s a).snd.fst ∧
 (hdC5 s a).snd.snd = (hdC5 s a).snd.snd ∧
 hdW s a = hdW s a ∧
 (-1 : Int) = (-1 : Int) ∧
 hdSg s a = hdSg s a ∧
 hdSm s a = hdSm s a ∧ (0 : Int) = (0 : Int) ∧ (0 : Int) = (0 : Int))))))) ∧
 ∀ (x20 : Unit),
 (nwE s a = (0 : Int) ∧ bgB s (nwA s a) = true ∧ (hdC1 s a).snd.fst = (0 : Int)) ∧ (hdE s a).fst = (0 : Int) →
 ((decide (hdSz s a > (0 : Int)) = true →
 ∃ (x21 : Unit),
 ((nwE s a = (0 : Int) ∧ bgB s (nwA s a) = true ∧ (hdC1 s a).snd.fst = (0 : Int)) ∧ (hdE s a).fst = (0 : Int)) ∧
 s = s ∧
 (hdC5 s a).fst = (hdC5 s a).fst ∧
 (hdC5 s a).snd.fst = (hdC5 s a).snd.fst ∧
 (hdC5 s a).snd.snd = (hdC5 s a).snd.snd ∧
 hdW s a = hdW s a ∧
 IntKind.wrap IntKind.i64 (hdN s a) = hdSi s a ∧
 hdSg s a = hdSg s a ∧ hdSm s a = hdSm s a ∧ (0 : Int) = (0 : Int) ∧ (0 : Int) = (0 : Int)) ∧
 (decide (hdSz s a > (0 : Int)) = false →
 ∃ (x22 : Unit),
 ((nwE s a = (0 : Int) ∧ bgB s (nwA s a) = true ∧ (hdC1 s a).snd.fst = (0 : Int)) ∧ (hdE s a).fst = (0 : Int)) ∧
 s = s ∧
 (hdC5 s a).fst = (hdC5 s a).fst ∧
 (hdC5 s a).snd.fst = (hdC5 s a).snd.fst ∧
 (hdC5 s a).snd.snd = (hdC5 s a).snd.snd ∧
 hdW s a = hdW s a ∧
 (-1 : Int) = hdSi s a ∧
 hdSg s a = hdSg s a ∧ hdSm s a = hdSm s a ∧ (0 : Int) = (0 : Int) ∧ (0 : Int) = (0 : Int))) ∧
 ∀ (x23 : Unit),
 (nwE s a = (0 : Int) ∧ bgB s (nwA s a) = true ∧ (hdC1 s a).snd.fst = (0 : Int)) ∧ (hdE s a).fst = (0 : Int) →
 ((hdSg s a = true →
 ∃ (x24 : Unit),
 ((nwE s a = (0 : Int) ∧ bgB s (nwA s a) = true ∧ (hdC1 s a).snd.fst = (0 : Int)) ∧ (hdE s a).fst = (0 : Int)) ∧
 s = s ∧
 (hdC5 s a).fst = (hdC5 s a).fst ∧
 (hdC5 s a).snd.fst = (hdC5 s a).snd.fst ∧
 (hdC5 s a).snd.snd = (hdC5 s a).snd.snd ∧
 hdSi s a = hhW s a ∧
 hdSi s a = hdSi s a ∧
 hdSg s a = hdSg s a ∧ hdSm s a = hdSm s a ∧ (0 : Int) = (0 : Int) ∧ (0 : Int) = (0 : Int)) ∧
 (hdSg s a = false →
 ∃ (x25 : Unit),
 ((nwE s a = (0 : Int) ∧ bgB s (nwA s a) = true ∧ (hdC1 s a).snd.fst = (0 : Int)) ∧ (hdE s a).fst = (0 : Int)) ∧
 s = s ∧
 (hdC5 s a).fst = (hdC5 s a).fst ∧
 (hdC5 s a).snd.fst = (hdC5 s a).snd.fst ∧
 (hdC5 s a).snd.snd = (hdC5 s a).snd.snd ∧
 hdW s a = hhW s a ∧
 hdSi s a = hdSi s a ∧
 hdSg s a = hdSg s a ∧ hdSm s a = hdSm s a ∧ (0 : Int) = (0 : Int) ∧ (0 : Int) = (0 : Int))) ∧
 ∀ (x26 : Unit),
 (nwE s a = (0 : Int) ∧ bgB s (nwA s a) = true ∧ (hdC1 s a).snd.fst = (0 : Int)) ∧ (hdE s a).fst = (0 : Int) →
 hhW s a = hhW s a ∧
 hdSi s a = hhS s a ∧
 hdSg s a = hhG s a ∧
 hdSm s a = hhM s a ∧ (hdC5 s a).fst = hhN s a ∧ (0 : Int) = (hdE s a).fst ∧ (0 : Int) = (hdE s a).snd)
theorem hdRd_e (s : ByteArray) (a : Int) : hdRd_t s a = vcG Tryz.prog (Gof GHdc) (oHd s a) Tryz.f23 [.v (.string s), .v (.int .i64 a)] [] (.leaf ((.tu [.ag [.v (.int .i64 (hhW s a)), .v (.int .i64 (hhS s a)), .v (.bool (hhG s a)), .v (.bool (hhM s a))], .v (.int .i64 (hhN s a)), .ag [.v (.int .i64 (hdE s a).1), .v (.int .i64 (hdE s a).2)]])) ([])) := by kernel_rfl
end Go.Proofs.YtbfdchahapajaaaGreatDoor
namespace Go.Proofs.YtbfdchahapajaaaGreatDoor
open Go Go.RowKit
set_option linter.unusedVariables false
set_option linter.unusedSimpArgs false
set_option maxRecDepth 100000
theorem hpL_v (s t : ByteArray) : hpL_t s t := by
  unfold hpL_t hpB
  refine ⟨fun h => ?_, fun h => ?_⟩
  · have h : t.size ≤ s.size := by simp only [ge_iff_le, decide_eq_true_eq] at h; omega
    refine ⟨by omega, by omega, by omega, ?_⟩
    rw [decide_eq_true h]; rfl
  · have h : ¬ t.size ≤ s.size := by simp only [ge_iff_le, decide_eq_false_iff_not] at h; omega
    rw [decide_eq_false h]; rfl
theorem nz' {a : Int} (h : (a != (0 : Int)) = true) : a ≠ 0 := by simpa using h
theorem hdDi_v : hdDi_t := by unfold hdDi_t; first | rfl | trivial | decide
theorem hdFs_v : hdFs_t := by unfold hdFs_t; first | rfl | trivial | decide
theorem hpG_v (s t : ByteArray) : hpG_t s t := by unfold hpG_t; first | rfl | trivial
theorem hdWn_all : ∀ k : Fin 256, hdWn_t ((k.val : Nat) : Int) := by
  unfold hdWn_t
  decide +kernel
theorem hdWn_v (b : Int) (h0 : 0 ≤ b) (h1 : b ≤ 255) : hdWn_t b := by
  have := hdWn_all ⟨b.toNat, by omega⟩
  have e : ((b.toNat : Nat) : Int) = b := by omega
  simp only [e] at this
  exact this
theorem hdBy_v (s : ByteArray) (a e f : Int) (h : vldC s a e f = true) (hs : s.size ≤ 9223372036854775807) : hdBy_t s a e f := ⟨h, hs, rfl, rfl, rfl, rfl, rfl⟩
theorem hdFe_v (n : Int) (s : ByteArray) (a e f : Int) (h : vldC s a e f = true) (hs : s.size ≤ 9223372036854775807) (h0 : 0 ≤ n) (h8 : n ≤ 8) : hdFe_t n s a e f := by
  unfold hdFe_t feV feS
  refine ⟨fun hn => ?_, fun hn => ?_⟩
  · rw [hn]; exact ⟨rfl, rfl, rfl, rfl, rfl⟩
  · have := beq2 hn
    rw [hn]; exact ⟨h, hs, by omega, h8, rfl, rfl, rfl, rfl, rfl⟩
theorem hdBg_v (s : ByteArray) (a e f : Int) (h : vldC s a e f = true) (he : e = 0) (hs : s.size ≤ 9223372036854775000) : hdBg_t s a e f := by
  have h' := vld_iff.1 h
  unfold hdBg_t
  rw [wr (n := a + 4) (by omega) (by omega)]
  have eb : hpB { data := #[40, 181, 47, 253] } (s.extract a.toNat (min (s.size : Int) (a + 4)).toNat) = bgB s a := rfl
  rw [eb]
  refine ⟨by omega, by omega, by omega, fun hb => ?_, fun hb => ⟨h, by omega, fun _ => ⟨rfl, rfl, rfl, rfl, rfl, rfl⟩, fun hn => ?_⟩⟩
  · have hb : bgB s a = false := by simpa using hb
    rw [hb]
    exact ⟨fun h => (by cases h), fun _ => ⟨rfl, rfl, rfl, rfl, rfl, rfl⟩⟩
  · have hb : bgB s a = true := by simpa using hb
    exact absurd hb hn
section
variable {s : ByteArray} {a : Int}
theorem st_vld {c : CuT} (h : vldC s c.1 c.2.1 c.2.2 = true) (n : Int) : vldC s (stB s c n).1 (stB s c n).2.1 (stB s c n).2.2 = true := by_vld h n
theorem fe_vld {c : CuT} (h : vldC s c.1 c.2.1 c.2.2 = true) (n : Int) : vldC s (feS s c n).1 (feS s c n).2.1 (feS s c n).2.2 = true := by
  unfold feS
  cases n == 0
  · exact st_vld h n
  · exact h
theorem hv0 : vldC s (hdC0 s a).1 (hdC0 s a).2.1 (hdC0 s a).2.2 = true := nw_vld s a
theorem hv1 : vldC s (hdC1 s a).1 (hdC1 s a).2.1 (hdC1 s a).2.2 = true := st_vld hv0 4
theorem hv2 : vldC s (hdC2 s a).1 (hdC2 s a).2.1 (hdC2 s a).2.2 = true := st_vld hv1 1
theorem hv3 : vldC s (hdC3 s a).1 (hdC3 s a).2.1 (hdC3 s a).2.2 = true := by
  unfold hdC3
  cases hdSg s a
  · exact st_vld hv2 1
  · exact hv2
theorem hv4 : vldC s (hdC4 s a).1 (hdC4 s a).2.1 (hdC4 s a).2.2 = true := fe_vld hv3 _
theorem hv5 : vldC s (hdC5 s a).1 (hdC5 s a).2.1 (hdC5 s a).2.2 = true := fe_vld hv4 _
theorem ou1 {c : CuT} (h : vldC s c.1 c.2.1 c.2.2 = true) : 0 ≤ ouB s c 1 ∧ ouB s c 1 ≤ 255 := by
  have hz := by_size (n := 1) h (by omega)
  have := num1 (s := byO s c.1 c.2.1 1) (by omega)
  exact ⟨num_nn _, by unfold ouB; omega⟩
theorem hd_d : 0 ≤ hdD s a ∧ hdD s a ≤ 255 := ou1 hv1
theorem d_all : ∀ k : Fin 256, 0 ≤ bits .and .i64 ((k.val : Nat) : Int) 3 ∧ bits .and .i64 ((k.val : Nat) : Int) 3 < 4 := by decide +kernel
theorem hd_and : 0 ≤ aN (hdD s a) 3 ∧ aN (hdD s a) 3 < 4 := by
  have hd := hd_d (s := s) (a := a)
  have := d_all ⟨(hdD s a).toNat, by omega⟩
  have e : (((hdD s a).toNat : Nat) : Int) = hdD s a := by omega
  simp only [e] at this
  exact this
theorem fd64 : Int.fdiv (hdD s a) ((2 : Int) ^ min (Int.toNat (6 : Int)) (IntKind.bits IntKind.i64)) = hdD s a / 64 := by
  have e : (2 : Int) ^ min (Int.toNat (6 : Int)) (IntKind.bits IntKind.i64) = 64 := by decide
  rw [e, Int.fdiv_eq_ediv_of_nonneg _ (by omega)]
theorem get4 (l : List Int) (hl : l.length = 4) (hm : ∀ x ∈ l, 0 ≤ x ∧ x ≤ 8) (i : Nat) : 0 ≤ l.getD i 0 ∧ l.getD i 0 ≤ 8 := by
  rw [List.getD_eq_getElem?_getD]
  cases h : l[i]? with
  | none => simp
  | some x => exact hm x (List.mem_of_getElem? h)
theorem hd_dn : 0 ≤ hdDn s a ∧ hdDn s a ≤ 8 := get4 _ rfl (by simp; try omega) _
theorem hd_s0 : 0 ≤ hdS0 s a ∧ hdS0 s a ≤ 8 := get4 _ rfl (by simp; try omega) _
theorem hd_sz : 0 ≤ hdSz s a ∧ hdSz s a ≤ 8 := by
  have := hd_s0 (s := s) (a := a)
  unfold hdSz
  cases (hdS0 s a == 0) && hdSg s a
  · exact this
  · show (0 : Int) ≤ 1 ∧ (1 : Int) ≤ 8; omega
theorem fev_nn (c : CuT) (n : Int) : 0 ≤ feV s c n := by
  unfold feV
  cases n == 0
  · exact num_nn _
  · exact Int.le_refl _
theorem hd_two (h : (hdD s a / 64 == 1) = true) : hdN0 s a ≤ 65535 := by
  have e : hdD s a / 64 = 1 := beq1 h
  have e2 : hdSz s a = 2 := by
    unfold hdSz hdS0
    rw [e]; rfl
  have hz := by_size (n := 2) (hv4 (s := s) (a := a)) (by omega)
  unfold hdN0 feV
  rw [e2]
  show numS _ ≤ _
  have hb := num_bd (s := byO s (hdC4 s a).1 (hdC4 s a).2.1 2)
  have h2 : (256 : Int) ^ (byO s (hdC4 s a).1 (hdC4 s a).2.1 2).size ≤ 256 ^ 2 := by
    have := Nat.pow_le_pow_right (show 0 < 256 by omega) (show (byO s (hdC4 s a).1 (hdC4 s a).2.1 2).size ≤ 2 by omega)
    exact_mod_cast this
  omega
theorem hd_bad {e f : Int} (h : hdE s a = (e, f)) (he : e ≠ 0) : (0 : Int) = hhW s a ∧ (0 : Int) = hhS s a ∧ false = hhG s a ∧ false = hhM s a ∧ (0 : Int) = hhN s a ∧ e = (hdE s a).1 ∧ f = (hdE s a).2 := by
  have hk : hdOk s a = false := by unfold hdOk; rw [h]; exact beqF he
  unfold hhW hhS hhG hhM hhN
  rw [hk, h]
  exact ⟨rfl, rfl, rfl, rfl, rfl, rfl, rfl⟩
theorem hd_p {e f : Int} (h : hdP s a = (e, f)) (he : e ≠ 0) : hdE s a = (e, f) := by
  unfold hdE; rw [h]
  show cond (e == 0) _ _ = _
  rw [beqF he]; rfl
theorem hd_q {e f : Int} (hp : (hdP s a).1 = 0) (h : hdQ s a = (e, f)) : hdE s a = (e, f) := by
  unfold hdE; rw [hp, h]; rfl
theorem hd_ok (hp : (hdP s a).1 = 0) (h5 : (hdC5 s a).2.1 = 0) (hi : hdId s a = 0) (h1 : (hdSg s a && decide (134217728 < hdN s a)) = false) (h2 : (!hdSg s a && decide (134217728 < hdW s a)) = false) (h3 : decide (1099511627776 < hdN s a) = false) : (hdE s a).1 = 0 := by
  have : hdQ s a = (0, 0) := by
    unfold hdQ
    rw [h5, hi, h1, h2, h3]; rfl
  rw [hd_q hp this]
theorem hd_two0 (h : (hdE s a).1 = 0) : (hdE s a).2 = 0 ∧ hdN s a ≤ 1099511627776 := by
  have hp : (hdP s a).1 = 0 := by
    unfold hdE at h
    cases hq : (hdP s a).1 == 0
    · rw [hq] at h; exact h
    · exact beq1 hq
  have e : hdE s a = hdQ s a := hd_q (e := (hdQ s a).1) (f := (hdQ s a).2) hp rfl
  rw [e] at h ⊢
  unfold hdQ at h ⊢
  cases h1 : (hdC5 s a).2.1 != 0
  · rw [h1] at h
    simp only [cond_false] at h ⊢
    cases h2 : hdId s a != 0
    · rw [h2] at h
      simp only [cond_false] at h ⊢
      cases h3 : hdSg s a && decide (134217728 < hdN s a)
      · rw [h3] at h
        simp only [cond_false] at h ⊢
        cases h4 : !hdSg s a && decide (134217728 < hdW s a)
        · rw [h4] at h
          simp only [cond_false] at h ⊢
          cases h5 : decide (1099511627776 < hdN s a)
          · simp only [decide_eq_false_iff_not] at h5
            exact ⟨rfl, by omega⟩
          · rw [h5] at h; simp at h
        · rw [h4] at h; simp at h
      · rw [h3] at h; simp at h
    · rw [h2] at h; simp at h
  · rw [h1] at h
    simp only [cond_true] at h
    rw [h] at h1; cases h1
end
theorem hdRd_v (s : ByteArray) (a : Int) (hs : s.size ≤ 1000000) : hdRd_t s a := by
  have hs1 : s.size ≤ 9223372036854775807 := by omega
  have n0 : 0 ≤ hdN0 s a := fev_nn _ _
  have hn : 0 ≤ hdN s a := by unfold hdN; cases hdD s a / 64 == 1 <;> simp only [cond_true, cond_false] <;> omega
  have hb2 := ou1 (hv2 (s := s) (a := a))
  have ha := hd_and (s := s) (a := a)
  have hd := hd_d (s := s) (a := a)
  have hdn := hd_dn (s := s) (a := a)
  have hsz := hd_sz (s := s) (a := a)
  unfold hdRd_t
  rw [fd64]
  refine ⟨fun h => ?_, fun h => ⟨⟨fun hb => ⟨nw_vld s a, bne1 h, by omega, fun h1 => ?_, fun h1 => ?_⟩, fun hb => ⟨nw_vld s a, bne1 h, by omega, fun _ => ?_, fun h => (by cases h)⟩⟩, fun _ ⟨p1, p2, p3⟩ => ⟨hv1, hs1, ⟨fun he => ⟨fun h8 => ?_, fun h8 => ?_⟩, fun he => ?_⟩, fun _ ⟨p, pp⟩ => ?_⟩⟩⟩
  · refine hd_bad (hd_p ?_ (nz' h)) (nz' h)
    unfold hdP; rw [h]; rfl
  · have h1' : (hdC1 s a).2.1 ≠ 0 := nz' h1
    refine hd_bad (e := (hdC1 s a).2.1) (f := (hdC1 s a).2.2) (hd_p ?_ h1') h1'
    unfold hdP; rw [h, hb, bneT h1']; rfl
  · have hc : (hdC1 s a).2.1 = 0 := bne1 h1
    have hf : (hdC1 s a).2.2 = 0 := by have := vld_iff.1 (hv1 (s := s) (a := a)); omega
    exact ⟨(), ⟨bne1 h, hb, hc⟩, rfl, rfl, rfl, rfl, rfl, rfl, rfl, rfl, hc, hf⟩
  · refine hd_bad (hd_p ?_ (by omega)) (by omega)
    unfold hdP; rw [h, show bgB s (nwA s a) = false by simpa using hb]; rfl
  · have hw : IntKind.wrap IntKind.i64 ((hdC2 s a).1 - 1) = (hdC2 s a).1 - 1 := by
      have := vld_iff.1 (hv2 (s := s) (a := a))
      exact wr (by omega) (by omega)
    refine hd_bad (e := 15) (f := IntKind.wrap IntKind.i64 ((hdC2 s a).1 - 1)) (hd_p ?_ (by omega)) (by omega)
    rw [hw]
    unfold hdP
    rw [p1, p2, p3, show ((hdC2 s a).2.1 == 0) = true from he, show (aN (hdD s a) 8 != 0) = true from h8]; rfl
  · refine ⟨(), ⟨⟨p1, p2, p3⟩, ?_⟩, rfl, rfl, rfl, rfl, rfl, rfl, rfl, rfl, rfl, rfl, rfl⟩
    unfold hdP
    rw [p1, p2, p3, show ((hdC2 s a).2.1 == 0) = true from he, show (aN (hdD s a) 8 != 0) = false from h8]; rfl
  · refine ⟨(), ⟨⟨p1, p2, p3⟩, ?_⟩, rfl, rfl, rfl, rfl, rfl, rfl, rfl, rfl, rfl, rfl, rfl⟩
    unfold hdP
    rw [p1, p2, p3, show ((hdC2 s a).2.1 == 0) = false from he]; rfl
  refine ⟨⟨fun hg => ?_, fun hg => ?_⟩, fun _ _ => ?_⟩
  · have hg : hdSg s a = false := by have : (!hdSg s a) = true := hg; simpa using this
    refine ⟨hv2, hs1, hb2.1, hb2.2, (), ⟨p, pp⟩, rfl, rfl, rfl, ?_, ?_, ?_, ?_, rfl, rfl, rfl, rfl, rfl⟩ <;> (first | unfold hdC3 | unfold hdW) <;> rw [hg] <;> rfl
  · have hg : hdSg s a = true := by have : (!hdSg s a) = false := hg; simpa using this
    refine ⟨(), ⟨p, pp⟩, rfl, rfl, rfl, ?_, ?_, ?_, ?_, rfl, rfl, rfl, rfl, rfl⟩ <;> (first | unfold hdC3 | unfold hdW) <;> rw [hg] <;> rfl
  refine ⟨ha.1, ha.2, rfl, hv3, hs1, hdn.1, hdn.2, by omega, by omega, by omega, rfl, ⟨fun h0 => ⟨fun hg => ?_, fun hg => ?_⟩, fun h0 => ?_⟩, fun _ _ => ?_⟩
  · refine ⟨(), ⟨p, pp⟩, rfl, rfl, rfl, rfl, rfl, ?_, rfl, rfl, rfl, rfl, rfl, rfl, rfl, rfl, rfl, rfl⟩
    unfold hdSz; rw [show (hdS0 s a == 0) = true from h0, hg]; rfl
  · refine ⟨(), ⟨p, pp⟩, rfl, rfl, rfl, rfl, rfl, ?_, rfl, rfl, rfl, rfl, rfl, rfl, rfl, rfl, rfl, rfl⟩
    unfold hdSz; rw [show (hdS0 s a == 0) = true from h0, hg]; rfl
  · refine ⟨(), ⟨p, pp⟩, rfl, rfl, rfl, rfl, rfl, ?_, rfl, rfl, rfl, rfl, rfl, rfl, rfl, rfl, rfl, rfl⟩
    unfold hdSz; rw [show (hdS0 s a == 0) = false from h0]; rfl
  refine ⟨hv4, hs1, hsz.1, hsz.2, ⟨by omega, fun h1 => ?_, fun h1 => ?_⟩, fun _ _ => ?_⟩
  · have hn0 := hd_two h1
    refine ⟨(), ⟨p, pp⟩, rfl, rfl, rfl, rfl, rfl, ?_, rfl, rfl, rfl, rfl, rfl, rfl, rfl, rfl, rfl, rfl⟩
    have e : hdN s a = hdN0 s a + 256 := by unfold hdN; rw [h1]; rfl
    rw [e]
    exact wru (n := hdN0 s a + 256) (by omega) (by omega)
  · refine ⟨(), ⟨p, pp⟩, rfl, rfl, rfl, rfl, rfl, ?_, rfl, rfl, rfl, rfl, rfl, rfl, rfl, rfl, rfl, rfl⟩
    unfold hdN; rw [h1]; rfl
  have q1 : ∀ {e f : Int}, hdQ s a = (e, f) → e ≠ 0 → (0 : Int) = hhW s a ∧ (0 : Int) = hhS s a ∧ false = hhG s a ∧ false = hhM s a ∧ (0 : Int) = hhN s a ∧ e = (hdE s a).1 ∧ f = (hdE s a).2 := fun h he => hd_bad (hd_q pp h) he
  refine ⟨⟨fun h5 => ?_, fun h5 => ⟨fun hi => ?_, fun hi => ⟨fun hg => ⟨fun hN => ?_, fun hN => ⟨fun hx => ?_, fun _ => ⟨fun h4 => ?_, fun h4 => ?_⟩⟩⟩, fun hg => ⟨fun _ => ⟨fun hW => ?_, fun hW => ⟨fun h4 => ?_, fun h4 => ?_⟩⟩, fun hx => ?_⟩⟩⟩⟩, fun _ ⟨_, hE⟩ => ⟨⟨fun hz => ?_, fun hz => ?_⟩, fun _ ⟨_, _⟩ => ⟨⟨fun hg => ?_, fun hg => ?_⟩, fun _ ⟨_, _⟩ => ?_⟩⟩⟩
  · exact q1 (by unfold hdQ; rw [h5]; rfl) (nz' h5)
  · exact q1 (by unfold hdQ; rw [h5, hi]; rfl) (by omega)
  · exact q1 (by unfold hdQ; rw [h5, hi, hg, show decide (134217728 < hdN s a) = true from hN]; rfl) (by omega)
  · rw [hg] at hx; cases hx
  · exact q1 (by unfold hdQ; rw [h5, hi, hg, show decide (134217728 < hdN s a) = false from hN, show decide (1099511627776 < hdN s a) = true from h4]; rfl) (by omega)
  · exact ⟨(), ⟨p, hd_ok pp (bne1 h5) (bne1 hi) (by rw [hg, show decide (134217728 < hdN s a) = false from hN]; rfl) (by rw [hg]; rfl) h4⟩, rfl, rfl, rfl, rfl, rfl, rfl, rfl, rfl, rfl, rfl, rfl, rfl⟩
  · exact q1 (by unfold hdQ; rw [h5, hi, hg, show decide (134217728 < hdW s a) = true from hW]; rfl) (by omega)
  · exact q1 (by unfold hdQ; rw [h5, hi, hg, show decide (134217728 < hdW s a) = false from hW, show decide (1099511627776 < hdN s a) = true from h4]; rfl) (by omega)
  · exact ⟨(), ⟨p, hd_ok pp (bne1 h5) (bne1 hi) (by rw [hg]; rfl) (by rw [hg, show decide (134217728 < hdW s a) = false from hW]; rfl) h4⟩, rfl, rfl, rfl, rfl, rfl, rfl, rfl, rfl, rfl, rfl, rfl, rfl⟩
  · rw [hg] at hx; cases hx
  · have := (hd_two0 hE).2
    refine ⟨(), ⟨p, hE⟩, rfl, rfl, rfl, rfl, rfl, ?_, rfl, rfl, rfl, rfl⟩
    unfold hdSi; rw [show decide (0 < hdSz s a) = true from hz, wr (by omega) (by omega)]; rfl
  · refine ⟨(), ⟨p, hE⟩, rfl, rfl, rfl, rfl, rfl, ?_, rfl, rfl, rfl, rfl⟩
    unfold hdSi; rw [show decide (0 < hdSz s a) = false from hz]; rfl
  · refine ⟨(), ⟨p, hE⟩, rfl, rfl, rfl, rfl, ?_, rfl, rfl, rfl, rfl, rfl⟩
    unfold hhW hdOk; rw [hE, hg]; rfl
  · refine ⟨(), ⟨p, hE⟩, rfl, rfl, rfl, rfl, ?_, rfl, rfl, rfl, rfl, rfl⟩
    unfold hhW hdOk; rw [hE, hg]; rfl
  · have hk : hdOk s a = true := by unfold hdOk; rw [hE]; rfl
    refine ⟨rfl, ?_, ?_, ?_, ?_, hE.symm, (hd_two0 hE).1.symm⟩
    · unfold hhS; rw [hk]; rfl
    · unfold hhG; rw [hk]; rfl
    · unfold hhM; rw [hk]; rfl
    · unfold hhN; rw [hk]; rfl
theorem hpL_sound : Sound Tryz.prog 92 sHp.ctr := sHp.sound (by kernel_rfl) sHp_enc fun ⟨s, t⟩ hc => by
  exact satG AllOk.nil mixed Tryz.func92 (hpL_e s t) (hpL_v s t)
theorem hdWn_sound : Sound Tryz.prog 51 sHdW.ctr := sHdW.sound (by kernel_rfl) sHdW_enc fun b hc => by
  have h0 := hc _ (.head _)
  have h1 := hc _ (.tail _ (.head _))
  exact satG AllOk.nil mixed Tryz.func51 (hdWn_e b) (hdWn_v b h0 h1)
theorem hdDi_sound : Sound Tryz.prog 53 sHdDi.ctr := sHdDi.sound (by kernel_rfl) sHdDi_enc fun _ hc => by
  exact satG AllOk.nil mixed Tryz.func53 (hdDi_e ) (hdDi_v)
theorem hdFs_sound : Sound Tryz.prog 28 sHdFs.ctr := sHdFs.sound (by kernel_rfl) sHdFs_enc fun _ hc => by
  exact satG AllOk.nil mixed Tryz.func28 (hdFs_e ) (hdFs_v)
theorem hdBy_sound : Sound Tryz.prog 50 sHdB.ctr := sHdB.sound (by kernel_rfl) sHdB_enc fun ⟨s, a, e, f⟩ hc => by
  have h0 := hc _ (.head _)
  have h1 := hc _ (.tail _ (.head _))
  exact satG GCe_ok mixed Tryz.func50 (hdBy_e s a e f) (hdBy_v s a e f h0 h1)
theorem hdFe_sound : Sound Tryz.prog 52 sHdFe.ctr := sHdFe.sound (by kernel_rfl) sHdFe_enc fun ⟨n, s, a, e, f⟩ hc => by
  have h0 := hc _ (.head _)
  have h1 := hc _ (.tail _ (.head _))
  have h2 := hc _ (.tail _ (.tail _ (.head _)))
  have h3 := hc _ (.tail _ (.tail _ (.tail _ (.head _))))
  exact satG GCe_ok mixed Tryz.func52 (hdFe_e n s a e f) (hdFe_v n s a e f h0 h1 h2 h3)
theorem GHda_ok : AllOk Tryz.prog GHda := .cons hpL_sound <| .cons hdWn_sound <| .cons hdDi_sound <| .cons hdFs_sound <| .cons hdBy_sound <| .cons hdFe_sound <| GCe_ok
theorem hpG_sound : Sound Tryz.prog 71 sHp.ctr := sHp.sound (by kernel_rfl) sHp_enc fun ⟨s, t⟩ hc => by
  exact satG GHda_ok mixed Tryz.func71 (hpG_e s t) (hpG_v s t)
theorem GHdb_ok : AllOk Tryz.prog GHdb := .cons hpG_sound <| GHda_ok
theorem hdBg_sound : Sound Tryz.prog 49 sHdBg.ctr := sHdBg.sound (by kernel_rfl) sHdBg_enc fun ⟨s, a, e, f⟩ hc => by
  have h0 := hc _ (.head _)
  have h1 := hc _ (.tail _ (.head _))
  have h2 := hc _ (.tail _ (.tail _ (.head _)))
  exact satG GHdb_ok mixed Tryz.func49 (hdBg_e s a e f) (hdBg_v s a e f h0 h1 h2)
theorem GHdc_ok : AllOk Tryz.prog GHdc := .cons hdBg_sound <| GHdb_ok
theorem hdRd_sound : Sound Tryz.prog 23 sHdRd.ctr := sHdRd.sound (by kernel_rfl) sHdRd_enc fun ⟨s, a⟩ hc => by
  have h0 := hc _ (.head _)
  exact satG GHdc_ok mixed Tryz.func23 (hdRd_e s a) (hdRd_v s a h0)
theorem GHdd_ok : AllOk Tryz.prog GHdd := .cons hdRd_sound <| GHdc_ok
end Go.Proofs.YtbfdchahapajaaaGreatDoor
namespace Go.Proofs.YtbfdchahapajaaaGreatDoor
open Go Go.RowKit
set_option linter.unusedVariables false
set_option linter.unusedSimpArgs false
def agZ (k : IntKind) (xs : List Int) : SV := .ag (xs.map fun x => .v (.int k x))
section
variable {D : Nat → Prop} {w : World} {β : Nat → Option Loc}
theorem reps_ints {k : IntKind} : ∀ (xs : List Int), Reps D w β (xs.map fun x => .v (.int k x)) (xs.map (Value.int k))
  | [] => by simp [Reps]
  | x :: xs => by
    simp only [List.map_cons, Reps]
    exact ⟨_, _, rfl, by simp [Rep], reps_ints xs⟩
theorem ints_reps {k : IntKind} : ∀ (xs : List Int) {us : List Value}, Reps D w β (xs.map fun x => .v (.int k x)) us → us = xs.map (Value.int k)
  | [], _, h => by simpa [Reps] using h
  | x :: xs, _, h => by
    simp only [List.map_cons, Reps] at h
    obtain ⟨u, us', rfl, h1, h2⟩ := h
    simp only [Rep] at h1
    rw [h1, ints_reps xs h2, List.map_cons]
theorem av_ag {k : IntKind} {xs : List Int} {u : Value} (h : Rep D w β (.av (.ints k xs)) u) : Rep D w β (agZ k xs) u := by
  unfold agZ
  simp only [Rep] at h ⊢
  subst h
  exact ⟨_, rfl, reps_ints xs⟩
theorem ag_av {k : IntKind} {xs : List Int} {u : Value} (h : Rep D w β (agZ k xs) u) : Rep D w β (.av (.ints k xs)) u := by
  unfold agZ at h
  simp only [Rep] at h ⊢
  obtain ⟨us, rfl, h⟩ := h
  rw [ints_reps xs h]
end
theorem Sat.outAg {P : Program} {f : FuncId} {args : List SV} {hp hp' : List (Nat × SBlk)} {k : IntKind} {xs : List Int} (h : Sat P f args hp (.av (.ints k xs)) hp') : Sat P f args hp (agZ k xs) hp' := by
  intro D β w us h1 h2 h3 h4
  refine (h D β w us h1 h2 h3 h4).mono ?_
  rintro e w' ⟨v, D', β', he, ha⟩
  exact ⟨v, D', β', he, { ha with ret := av_ag ha.ret }⟩
theorem Sat.inAg {P : Program} {f : FuncId} {hp hp' : List (Nat × SBlk)} {k : IntKind} {xs : List Int} {ret : SV} (h : Sat P f [.av (.ints k xs)] hp ret hp') : Sat P f [agZ k xs] hp ret hp' := by
  intro D β w us h1 h2 h3 h4
  refine h D β w us ?_ h2 h3 h4
  simp only [Reps] at h1 ⊢
  obtain ⟨u, us', he, hr, hs⟩ := h1
  exact ⟨u, us', he, ag_av hr, hs⟩
theorem SatC.ret0 {C : (Ending → World → Prop) → Prop} {en : Value → Ending} {w : World} {us : List Value} {args : List SV} {hp : List (Nat × SBlk)} {ret : SV} {hp' : List (Nat × SBlk)} (h : SatC C en w (.nilIface :: us) (.v .nilIface :: args) hp ret hp') : SatC C en w us args hp ret hp' := by
  intro D β h1 h2 h3 h4
  refine h D β ?_ h2 h3 h4
  simp only [Reps]
  exact ⟨_, _, rfl, by simp [Rep], h1⟩
theorem satRD {P : Program} {G : List (Nat × Ctr)} (hG : AllOk P G) (hm : P.follows .mixedOrders = true) {Ω : Nat → Option LoopFam} {f : FuncId} {fn : Func} (hf : P.funcs[f]? = some fn) {v : SV} {args : List SV} {hp : List (Nat × SBlk)} {out : Out}
    {T : Prop} (e : T = vcRD P (Gof G) Ω fn v args hp out) (h : T) (w : World) (us : List Value) {u u1 : FrameMode} {pv : Value}
    (hrec : ∀ (c₀ : Frame) (cs : List Frame), c₀.mode = u → (recoverD (c₀ :: cs) = some (pv, { c₀ with mode := u1 } :: cs)) ∨ (recoverD (c₀ :: cs) = none ∧ pv = .nilIface ∧ u1 = u)) :
    SatC (fun R => CallsDIn Fence.wide 0 P f us.toArray u w fun e u' w' => u' = u1 ∧ R e w') .returned w (pv :: us) (v :: args) hp out.get.1 out.get.2 := satR_of hG hm hf rfl (e ▸ h) w us hrec
end Go.Proofs.YtbfdchahapajaaaGreatDoor
namespace Go.Proofs.YtbfdchahapajaaaGreatDoor
open Go Go.RowKit
set_option linter.unusedVariables false
def moK (k : Int) : Int := cond (k == 0) 35 (cond (k == 1) 31 (cond (k == 2) 52 0))
def bhN (s : ByteArray) (c : CuT) : Int := ouB s c 3
def bhK (s : ByteArray) (c : CuT) : Int := IntKind.wrap .i64 (bits .and .u64 ((bhN s c).fdiv (2 ^ (min (Int.toNat 1) 64))) 3)
def bhZ (s : ByteArray) (c : CuT) : Int := IntKind.wrap .i64 ((bhN s c).fdiv (2 ^ (min (Int.toNat 3) 64)))
def bhL (s : ByteArray) (c : CuT) : Bool := bits .and .u64 (bhN s c) 1 == 1
def bhC (s : ByteArray) (c : CuT) : CuT := cond ((stB s c 3).2.1 == 0 && bhK s c == 3) ((stB s c 3).1, faE (stB s c 3).2.1 15, faF s (stB s c 3).2.1 (stB s c 3).2.2 c.1) (stB s c 3)
def brI (b : ByteArray) (a w : Int) (o : ByteArray) (m : Int) : Bool := decide (a < 0) || (decide (a > (b.size : Int)) || (decide (w < 0) || (decide (w > 134217728) || (decide (m < 0) || (decide (m > 1048576) || decide ((o.size : Int) > m))))))
def brS (b : ByteArray) (a : Int) : CuT := (nwA b a, nwE b a, 0)
def brC (b : ByteArray) (a : Int) : CuT := bhC b (brS b a)
def brK (b : ByteArray) (a : Int) : Int := bhK b (brS b a)
def brZ (b : ByteArray) (a : Int) : Int := bhZ b (brS b a)
def brX (b : ByteArray) (a : Int) : Int := cond (brK b a == 1) 1 (brZ b a)
def brD (b : ByteArray) (a : Int) : CuT := stB b (brC b a) (brX b a)
def repS (s : ByteArray) (c : Int) : ByteArray := ⟨(List.replicate c.toNat s.data.toList).flatten.toArray⟩
def brY (b : ByteArray) (a : Int) : ByteArray := byO b (brC b a).1 (brC b a).2.1 (brX b a)
def brB (b : ByteArray) (a : Int) : ByteArray := cond (brK b a == 1) (repS (brY b a) (brZ b a)) (brY b a)
def brE (b : ByteArray) (a w : Int) (o : ByteArray) (m : Int) : Int × Int := cond (brI b a w o m) (2, 0) (cond ((brC b a).2.1 != 0) ((brC b a).2.1, (brC b a).2.2) (cond (decide (brZ b a > min w 131072)) (19, a) (cond ((brK b a == 1 || brK b a == 0) && decide ((o.size : Int) + brZ b a > m)) (18, a) (cond ((brD b a).2.1 != 0) ((brD b a).2.1, (brD b a).2.2) (0, 0)))))
def brG (b : ByteArray) (a w : Int) (o : ByteArray) (m : Int) : Bool := (brE b a w o m).1 == 0
end Go.Proofs.YtbfdchahapajaaaGreatDoor
namespace Go.Proofs.YtbfdchahapajaaaGreatDoor
open Go Go.RowKit
set_option linter.unusedVariables false
set_option linter.unusedSimpArgs false
set_option maxRecDepth 100000
def unV : List SV := [.v (.int .i64 0), .v (.int .i64 0), .v (.int .i64 0), .v (.slice none 0 0), .v (.int .i64 (-1)), .v (.int .i64 0), .v (.int .i64 0), .v (.slice none 0 0), .v (.int .i64 (-1)), .v (.int .i64 0), .v (.int .i64 0), .v (.slice none 0 0), .v (.int .i64 (-1)), .v (.int .i64 0), .v (.int .i64 0), .v (.slice none 0 0)]
def lay3 : Nat → Option LoopFam := fun k => cond (Nat.beq k 0) (some (.unr 4)) none
def frV : List SV := [.v (.int .i64 1), .v (.int .i64 4), .v (.int .i64 8), .v (.slice none 0 0), .v (.int .i64 (-1)), .v (.int .i64 0), .v (.int .i64 0), .v (.slice none 0 0), .v (.int .i64 (-1)), .v (.int .i64 0), .v (.int .i64 0), .v (.slice none 0 0), .v (.int .i64 (-1)), .v (.int .i64 0), .v (.int .i64 0), .v (.slice none 0 0)]
def cutI (p : Prop) (tm : List (Nat × SV)) (hp : List (Nat × SBlk)) : LoopFam := .one { ι := Unit, p := fun _ => p, tm := fun _ => tm, hp := fun _ => hp, μ := fun _ => 0 }
def lay3u : Nat → Option LoopFam := omL [(0, .unf 4 [700016]), (1004, cutI True [(1, .p 1001 0 0), (3, .v (.int .i64 0))] [(1001, .cells 97 frV)])]
def sBkFi : Spec where
  ι := Unit
  dec l H := match l with
    | [] => some ((), [])
    | _ => none
  args := fun _ => []
  out := fun _ => .leaf (.ag [.v (.int .i64 1), .v (.int .i64 4), .v (.int .i64 8)]) []
theorem sBkFi_enc : ∀ l H n i ls, sBkFi.dec l H = some (i, ls) → l = renL (rho ls n) (sBkFi.args i) ∧ givenHp H ls = renH (rho ls n) (sBkFi.hp i) := by
  intro l H n i ls h
  simp only [sBkFi] at h
  repeat' split at h
  all_goals first
    | (cases h; done)
    | (cases h; exact ⟨rfl, rfl⟩)
def sBkRc : Spec where
  ι := Unit
  dec l H := match l with
    | [.ag [.v (.int .i64 1), .v (.int .i64 4), .v (.int .i64 8)]] => some ((), [])
    | _ => none
  args := fun _ => [.ag [.v (.int .i64 1), .v (.int .i64 4), .v (.int .i64 8)]]
  out := fun _ => .leaf (.v (.int .i64 0)) []
theorem sBkRc_enc : ∀ l H n i ls, sBkRc.dec l H = some (i, ls) → l = renL (rho ls n) (sBkRc.args i) ∧ givenHp H ls = renH (rho ls n) (sBkRc.hp i) := by
  intro l H n i ls h
  simp only [sBkRc] at h
  repeat' split at h
  all_goals first
    | (cases h; done)
    | (cases h; exact ⟨rfl, rfl⟩)
def sRep : Spec where
  ι := ByteArray × Int
  dec l H := match l with
    | [.v (.string s), .v (.int .i64 c)] => some ((s, c), [])
    | _ => none
  args := fun (s, c) => [.v (.string s), .v (.int .i64 c)]
  pre := fun (s, c) => [⟨0 ≤ c, inferInstance⟩, ⟨c ≤ 4294967296, inferInstance⟩, ⟨s.size * c.toNat ≤ 140737488355328, inferInstance⟩]
  out := fun (s, c) => .leaf (.v (.string (repS s c))) []
theorem sRep_enc : ∀ l H n i ls, sRep.dec l H = some (i, ls) → l = renL (rho ls n) (sRep.args i) ∧ givenHp H ls = renH (rho ls n) (sRep.hp i) := by
  intro l H n i ls h
  simp only [sRep] at h
  repeat' split at h
  all_goals first
    | (cases h; done)
    | (cases h; exact ⟨rfl, rfl⟩)
def sBkUn : Spec where
  ι := Unit
  dec l H := match l with
    | [] => some ((), [])
    | _ => none
  args := fun _ => []
  out := fun _ => .leaf (.ag unV) []
theorem sBkUn_enc : ∀ l H n i ls, sBkUn.dec l H = some (i, ls) → l = renL (rho ls n) (sBkUn.args i) ∧ givenHp H ls = renH (rho ls n) (sBkUn.hp i) := by
  intro l H n i ls h
  simp only [sBkUn] at h
  repeat' split at h
  all_goals first
    | (cases h; done)
    | (cases h; exact ⟨rfl, rfl⟩)
def sBkFr : Spec where
  ι := Unit
  dec l H := match l with
    | [] => some ((), [])
    | _ => none
  args := fun _ => []
  out := fun _ => .leaf (.ag frV) []
theorem sBkFr_enc : ∀ l H n i ls, sBkFr.dec l H = some (i, ls) → l = renL (rho ls n) (sBkFr.args i) ∧ givenHp H ls = renH (rho ls n) (sBkFr.hp i) := by
  intro l H n i ls h
  simp only [sBkFr] at h
  repeat' split at h
  all_goals first
    | (cases h; done)
    | (cases h; exact ⟨rfl, rfl⟩)
def sBkEm : Spec where
  ι := Unit
  dec l H := match l with
    | [.ag [.v (.int .i64 0), .v (.slice none 0 0)]] => some ((), [])
    | _ => none
  args := fun _ => [.ag [.v (.int .i64 0), .v (.slice none 0 0)]]
  out := fun _ => .leaf (.v (.bool true)) []
theorem sBkEm_enc : ∀ l H n i ls, sBkEm.dec l H = some (i, ls) → l = renL (rho ls n) (sBkEm.args i) ∧ givenHp H ls = renH (rho ls n) (sBkEm.hp i) := by
  intro l H n i ls h
  simp only [sBkEm] at h
  repeat' split at h
  all_goals first
    | (cases h; done)
    | (cases h; exact ⟨rfl, rfl⟩)
def sBkCl : Spec where
  ι := Unit
  dec l H := match l with
    | [.v (.slice none 0 0)] => some ((), [])
    | _ => none
  args := fun _ => [.v (.slice none 0 0)]
  out := fun _ => .leaf (.v (.slice none 0 0)) []
theorem sBkCl_enc : ∀ l H n i ls, sBkCl.dec l H = some (i, ls) → l = renL (rho ls n) (sBkCl.args i) ∧ givenHp H ls = renH (rho ls n) (sBkCl.hp i) := by
  intro l H n i ls h
  simp only [sBkCl] at h
  repeat' split at h
  all_goals first
    | (cases h; done)
    | (cases h; exact ⟨rfl, rfl⟩)
def sBkCk : Spec where
  ι := Unit
  dec l H := match l with
    | [.ag [.v (.int .i64 1), .v (.int .i64 4), .v (.int .i64 8), .v (.slice none 0 0), .v (.int .i64 (-1)), .v (.int .i64 0), .v (.int .i64 0), .v (.slice none 0 0), .v (.int .i64 (-1)), .v (.int .i64 0), .v (.int .i64 0), .v (.slice none 0 0), .v (.int .i64 (-1)), .v (.int .i64 0), .v (.int .i64 0), .v (.slice none 0 0)]] => some ((), [])
    | _ => none
  args := fun _ => [.ag [.v (.int .i64 1), .v (.int .i64 4), .v (.int .i64 8), .v (.slice none 0 0), .v (.int .i64 (-1)), .v (.int .i64 0), .v (.int .i64 0), .v (.slice none 0 0), .v (.int .i64 (-1)), .v (.int .i64 0), .v (.int .i64 0), .v (.slice none 0 0), .v (.int .i64 (-1)), .v (.int .i64 0), .v (.int .i64 0), .v (.slice none 0 0)]]
  out := fun _ => .leaf (.v (.int .i64 0)) []
theorem sBkCk_enc : ∀ l H n i ls, sBkCk.dec l H = some (i, ls) → l = renL (rho ls n) (sBkCk.args i) ∧ givenHp H ls = renH (rho ls n) (sBkCk.hp i) := by
  intro l H n i ls h
  simp only [sBkCk] at h
  repeat' split at h
  all_goals first
    | (cases h; done)
    | (cases h; exact ⟨rfl, rfl⟩)
def sBkOw : Spec where
  ι := Unit
  dec l H := match l with
    | [.ag [.v (.int .i64 1), .v (.int .i64 4), .v (.int .i64 8), .v (.slice none 0 0), .v (.int .i64 (-1)), .v (.int .i64 0), .v (.int .i64 0), .v (.slice none 0 0), .v (.int .i64 (-1)), .v (.int .i64 0), .v (.int .i64 0), .v (.slice none 0 0), .v (.int .i64 (-1)), .v (.int .i64 0), .v (.int .i64 0), .v (.slice none 0 0)]] => some ((), [])
    | _ => none
  args := fun _ => [.ag [.v (.int .i64 1), .v (.int .i64 4), .v (.int .i64 8), .v (.slice none 0 0), .v (.int .i64 (-1)), .v (.int .i64 0), .v (.int .i64 0), .v (.slice none 0 0), .v (.int .i64 (-1)), .v (.int .i64 0), .v (.int .i64 0), .v (.slice none 0 0), .v (.int .i64 (-1)), .v (.int .i64 0), .v (.int .i64 0), .v (.slice none 0 0)]]
  out := fun _ => .leaf (.ag frV) []
theorem sBkOw_enc : ∀ l H n i ls, sBkOw.dec l H = some (i, ls) → l = renL (rho ls n) (sBkOw.args i) ∧ givenHp H ls = renH (rho ls n) (sBkOw.hp i) := by
  intro l H n i ls h
  simp only [sBkOw] at h
  repeat' split at h
  all_goals first
    | (cases h; done)
    | (cases h; exact ⟨rfl, rfl⟩)
def sBkVa : Spec where
  ι := Int
  dec l H := match l with
    | [.v (.int .i64 k)] => some (k, [])
    | _ => none
  args := fun k => [.v (.int .i64 k)]
  out := fun k => .leaf (.v (.bool (decide (0 ≤ k) && decide (k ≤ 2)))) []
theorem sBkVa_enc : ∀ l H n i ls, sBkVa.dec l H = some (i, ls) → l = renL (rho ls n) (sBkVa.args i) ∧ givenHp H ls = renH (rho ls n) (sBkVa.hp i) := by
  intro l H n i ls h
  simp only [sBkVa] at h
  repeat' split at h
  all_goals first
    | (cases h; done)
    | (cases h; exact ⟨rfl, rfl⟩)
def sBkMo : Spec where
  ι := Int
  dec l H := match l with
    | [.v (.int .i64 k)] => some (k, [])
    | _ => none
  args := fun k => [.v (.int .i64 k)]
  pre := fun k => [⟨0 ≤ k, inferInstance⟩, ⟨k ≤ 2, inferInstance⟩]
  out := fun k => .leaf (.v (.int .i64 (moK k))) []
theorem sBkMo_enc : ∀ l H n i ls, sBkMo.dec l H = some (i, ls) → l = renL (rho ls n) (sBkMo.args i) ∧ givenHp H ls = renH (rho ls n) (sBkMo.hp i) := by
  intro l H n i ls h
  simp only [sBkMo] at h
  repeat' split at h
  all_goals first
    | (cases h; done)
    | (cases h; exact ⟨rfl, rfl⟩)
def sBkMs : Spec where
  ι := Int
  dec l H := match l with
    | [.v (.int .i64 k)] => some (k, [])
    | _ => none
  args := fun k => [.v (.int .i64 k)]
  pre := fun k => [⟨0 ≤ k, inferInstance⟩, ⟨k ≤ 2, inferInstance⟩]
  out := fun k => .leaf (.tu [.v (.int .i64 (moK k)), .v (.int .i64 0)]) []
theorem sBkMs_enc : ∀ l H n i ls, sBkMs.dec l H = some (i, ls) → l = renL (rho ls n) (sBkMs.args i) ∧ givenHp H ls = renH (rho ls n) (sBkMs.hp i) := by
  intro l H n i ls h
  simp only [sBkMs] at h
  repeat' split at h
  all_goals first
    | (cases h; done)
    | (cases h; exact ⟨rfl, rfl⟩)
def sBkTc : Spec where
  ι := Int
  dec l H := match l with
    | [.v (.int .i64 k), .ag [.v (.int .i64 (-1)), .v (.int .i64 0), .v (.int .i64 0), .v (.slice none 0 0)]] => some (k, [])
    | _ => none
  args := fun k => [.v (.int .i64 k), .ag [.v (.int .i64 (-1)), .v (.int .i64 0), .v (.int .i64 0), .v (.slice none 0 0)]]
  pre := fun k => [⟨0 ≤ k, inferInstance⟩, ⟨k ≤ 2, inferInstance⟩]
  out := fun k => .leaf (.v (.int .i64 0)) []
theorem sBkTc_enc : ∀ l H n i ls, sBkTc.dec l H = some (i, ls) → l = renL (rho ls n) (sBkTc.args i) ∧ givenHp H ls = renH (rho ls n) (sBkTc.hp i) := by
  intro l H n i ls h
  simp only [sBkTc] at h
  repeat' split at h
  all_goals first
    | (cases h; done)
    | (cases h; exact ⟨rfl, rfl⟩)
def sBkHd : Spec where
  ι := ByteArray × Int × Int × Int
  dec l H := match l with
    | [.p l0 0 0] => match H l0 with
      | some (.cells 113 [.v (.string s), .v (.int .i64 a), .v (.int .i64 e), .v (.int .i64 f)]) => some ((s, a, e, f), [l0])
      | _ => none
    | _ => none
  args := fun (s, a, e, f) => [.p 0 0 0]
  hp := fun (s, a, e, f) => [(0, .cells 113 [.v (.string s), .v (.int .i64 a), .v (.int .i64 e), .v (.int .i64 f)])]
  pre := fun (s, a, e, f) => [⟨vldC s a e f = true, inferInstance⟩, ⟨s.size ≤ 9223372036854775807, inferInstance⟩]
  out := fun (s, a, e, f) => .leaf (.tu [.v (.int .i64 (bhK s (a, e, f))), .v (.int .i64 (bhZ s (a, e, f))), .v (.bool (bhL s (a, e, f)))]) [(0, .cells 113 (cuR s (bhC s (a, e, f))))]
theorem sBkHd_enc : ∀ l H n i ls, sBkHd.dec l H = some (i, ls) → l = renL (rho ls n) (sBkHd.args i) ∧ givenHp H ls = renH (rho ls n) (sBkHd.hp i) := by
  intro l H n i ls h
  simp only [sBkHd] at h
  repeat' split at h
  all_goals first
    | (cases h; done)
    | (cases h; exact ⟨rfl, rfl⟩)
    | (cases h; refine ⟨rfl, ?_⟩; simp only [givenHp, List.filterMap_cons, List.filterMap_nil, Option.map, *]; rfl)
def GBa : List (Nat × Ctr) := (69, sRep.ctr) :: (63, sBkFi.ctr) :: (62, sBkUn.ctr) :: (106, sBkEm.ctr) :: (83, sBkCl.ctr) :: (141, sBkVa.ctr) :: (142, sBkMo.ctr) :: GHdd
def GBb : List (Nat × Ctr) := (103, sBkMs.ctr) :: (45, sBkFr.ctr) :: GBa
def GBc : List (Nat × Ctr) := (80, sBkTc.ctr) :: (54, sBkHd.ctr) :: GBb
def GBd : List (Nat × Ctr) := (78, sBkRc.ctr) :: GBc
def zrV : List SV := [.v (.int .i64 0), .v (.int .i64 0), .v (.int .i64 0), .v (.slice none 0 0), .v (.int .i64 0), .v (.int .i64 0), .v (.int .i64 0), .v (.slice none 0 0), .v (.int .i64 0), .v (.int .i64 0), .v (.int .i64 0), .v (.slice none 0 0), .v (.int .i64 0), .v (.int .i64 0), .v (.int .i64 0), .v (.slice none 0 0)]
def stV (r1 r2 r3 m1 s1 l1 m2 s2 l2 m3 s3 l3 : Int) : List SV := [.v (.int .i64 r1), .v (.int .i64 r2), .v (.int .i64 r3), .v (.slice none 0 0), .v (.int .i64 m1), .v (.int .i64 s1), .v (.int .i64 l1), .v (.slice none 0 0), .v (.int .i64 m2), .v (.int .i64 s2), .v (.int .i64 l2), .v (.slice none 0 0), .v (.int .i64 m3), .v (.int .i64 s3), .v (.int .i64 l3), .v (.slice none 0 0)]
def bkH (g : ByteArray) (st : List SV) (l : Bool) (n fe fa : Int) : List (Nat × SBlk) := [(0, .cells 9 [.v (.string g)]), (1, .cells 97 st), (2, .cells 4 [.v (.bool l)]), (3, .cells 3 [.v (.int .i64 n)]), (4, .cells 26 [.v (.int .i64 fe), .v (.int .i64 fa)])]
def bkPs : List SV := [.p 0 0 0, .p 1 0 0, .p 2 0 0, .p 3 0 0, .p 4 0 0]
def PBk : List (Nat × (List SV → Option SV)) := (66, fun l => match l with
  | [.v (.int .i64 e), .v (.int .i64 a)] => some (.ifc 136 (.ag [.v (.int .i64 e), .v (.int .i64 a)]))
  | _ => none) :: []
def sBkR1 : Spec where
  ι := ByteArray × Int × Int × Int × Int × Int × Int × Int × Int × Int × Int × Int × Int × Bool × Int × Int × Int
  own := true
  dec l H := match l with
    | [.p l0 0 0, .p l1 0 0, .p l2 0 0, .p l3 0 0, .p l4 0 0] => match H l0 with
      | some (.cells 9 [.v (.string g)]) => match H l1 with
        | some (.cells 97 [.v (.int .i64 r1), .v (.int .i64 r2), .v (.int .i64 r3), .v (.slice none 0 0), .v (.int .i64 m1), .v (.int .i64 s1), .v (.int .i64 q1), .v (.slice none 0 0), .v (.int .i64 m2), .v (.int .i64 s2), .v (.int .i64 q2), .v (.slice none 0 0), .v (.int .i64 m3), .v (.int .i64 s3), .v (.int .i64 q3), .v (.slice none 0 0)]) => match H l2 with
          | some (.cells 4 [.v (.bool l)]) => match H l3 with
            | some (.cells 3 [.v (.int .i64 n)]) => match H l4 with
              | some (.cells 26 [.v (.int .i64 fe), .v (.int .i64 fa)]) => some ((g, r1, r2, r3, m1, s1, q1, m2, s2, q2, m3, s3, q3, l, n, fe, fa), [l0, l1, l2, l3, l4])
              | _ => none
            | _ => none
          | _ => none
        | _ => none
      | _ => none
    | _ => none
  args := fun (g, r1, r2, r3, m1, s1, q1, m2, s2, q2, m3, s3, q3, l, n, fe, fa) => [.p 0 0 0, .p 1 0 0, .p 2 0 0, .p 3 0 0, .p 4 0 0]
  hp := fun (g, r1, r2, r3, m1, s1, q1, m2, s2, q2, m3, s3, q3, l, n, fe, fa) => [(0, .cells 9 [.v (.string g)]), (1, .cells 97 [.v (.int .i64 r1), .v (.int .i64 r2), .v (.int .i64 r3), .v (.slice none 0 0), .v (.int .i64 m1), .v (.int .i64 s1), .v (.int .i64 q1), .v (.slice none 0 0), .v (.int .i64 m2), .v (.int .i64 s2), .v (.int .i64 q2), .v (.slice none 0 0), .v (.int .i64 m3), .v (.int .i64 s3), .v (.int .i64 q3), .v (.slice none 0 0)]), (2, .cells 4 [.v (.bool l)]), (3, .cells 3 [.v (.int .i64 n)]), (4, .cells 26 [.v (.int .i64 fe), .v (.int .i64 fa)])]
  out := fun (g, r1, r2, r3, m1, s1, q1, m2, s2, q2, m3, s3, q3, l, n, fe, fa) => .leaf (.tu []) [(0, .cells 9 [.v (.string g)]), (1, .cells 97 (stV r1 r2 r3 m1 s1 q1 m2 s2 q2 m3 s3 q3)), (2, .cells 4 [.v (.bool l)]), (3, .cells 3 [.v (.int .i64 n)]), (4, .cells 26 [.v (.int .i64 fe), .v (.int .i64 fa)])]
theorem sBkR1_enc : ∀ l H n i ls, sBkR1.dec l H = some (i, ls) → l = renL (rho ls n) (sBkR1.args i) ∧ givenHp H ls = renH (rho ls n) (sBkR1.hp i) := by
  intro l H n i ls h
  simp only [sBkR1] at h
  repeat' split at h
  all_goals first
    | (cases h; done)
    | (cases h; exact ⟨rfl, rfl⟩)
    | (cases h; refine ⟨rfl, ?_⟩; simp only [givenHp, List.filterMap_cons, List.filterMap_nil, Option.map, *]; rfl)
def sBkR2 : Spec where
  ι := Int × Int × ByteArray × Int × Int × Int × Int × Int × Int × Int × Int × Int × Int × Int × Int × Bool × Int × Int × Int
  own := true
  dec l H := match l with
    | [.ifc 136 (.ag [.v (.int .i64 e), .v (.int .i64 a)]), .p l0 0 0, .p l1 0 0, .p l2 0 0, .p l3 0 0, .p l4 0 0] => match H l0 with
      | some (.cells 9 [.v (.string g)]) => match H l1 with
        | some (.cells 97 [.v (.int .i64 r1), .v (.int .i64 r2), .v (.int .i64 r3), .v (.slice none 0 0), .v (.int .i64 m1), .v (.int .i64 s1), .v (.int .i64 q1), .v (.slice none 0 0), .v (.int .i64 m2), .v (.int .i64 s2), .v (.int .i64 q2), .v (.slice none 0 0), .v (.int .i64 m3), .v (.int .i64 s3), .v (.int .i64 q3), .v (.slice none 0 0)]) => match H l2 with
          | some (.cells 4 [.v (.bool l)]) => match H l3 with
            | some (.cells 3 [.v (.int .i64 n)]) => match H l4 with
              | some (.cells 26 [.v (.int .i64 fe), .v (.int .i64 fa)]) => some ((e, a, g, r1, r2, r3, m1, s1, q1, m2, s2, q2, m3, s3, q3, l, n, fe, fa), [l0, l1, l2, l3, l4])
              | _ => none
            | _ => none
          | _ => none
        | _ => none
      | _ => none
    | _ => none
  args := fun (e, a, g, r1, r2, r3, m1, s1, q1, m2, s2, q2, m3, s3, q3, l, n, fe, fa) => [.ifc 136 (.ag [.v (.int .i64 e), .v (.int .i64 a)]), .p 0 0 0, .p 1 0 0, .p 2 0 0, .p 3 0 0, .p 4 0 0]
  hp := fun (e, a, g, r1, r2, r3, m1, s1, q1, m2, s2, q2, m3, s3, q3, l, n, fe, fa) => [(0, .cells 9 [.v (.string g)]), (1, .cells 97 [.v (.int .i64 r1), .v (.int .i64 r2), .v (.int .i64 r3), .v (.slice none 0 0), .v (.int .i64 m1), .v (.int .i64 s1), .v (.int .i64 q1), .v (.slice none 0 0), .v (.int .i64 m2), .v (.int .i64 s2), .v (.int .i64 q2), .v (.slice none 0 0), .v (.int .i64 m3), .v (.int .i64 s3), .v (.int .i64 q3), .v (.slice none 0 0)]), (2, .cells 4 [.v (.bool l)]), (3, .cells 3 [.v (.int .i64 n)]), (4, .cells 26 [.v (.int .i64 fe), .v (.int .i64 fa)])]
  out := fun (e, a, g, r1, r2, r3, m1, s1, q1, m2, s2, q2, m3, s3, q3, l, n, fe, fa) => .leaf (.tu []) [(0, .cells 9 [.v (.string ByteArray.empty)]), (1, .cells 97 zrV), (2, .cells 4 [.v (.bool false)]), (3, .cells 3 [.v (.int .i64 0)]), (4, .cells 26 [.v (.int .i64 e), .v (.int .i64 a)])]
theorem sBkR2_enc : ∀ l H n i ls, sBkR2.dec l H = some (i, ls) → l = renL (rho ls n) (sBkR2.args i) ∧ givenHp H ls = renH (rho ls n) (sBkR2.hp i) := by
  intro l H n i ls h
  simp only [sBkR2] at h
  repeat' split at h
  all_goals first
    | (cases h; done)
    | (cases h; exact ⟨rfl, rfl⟩)
    | (cases h; refine ⟨rfl, ?_⟩; simp only [givenHp, List.filterMap_cons, List.filterMap_nil, Option.map, *]; rfl)
def DBk : List (Nat × DC) := (65, DC.of sBkR1 sBkR2) :: []
def GBe : List (Nat × Ctr) := (64, sBkCk.ctr) :: (68, sBkOw.ctr) :: GBd
def brT (b : ByteArray) (a w : Int) (o : ByteArray) (m : Int) : List (Nat × SV) := [(0, .v (.string b)), (1, .v (.int .i64 a)), (3, .v (.string o)), (4, .v (.int .i64 w)), (5, .v (.int .i64 m)), (8, .p 505 0 0), (12, .p 500 0 0), (13, .p 501 0 0), (14, .p 502 0 0), (15, .p 503 0 0), (16, .p 504 0 0)]
def brH (l : Bool) : List (Nat × SBlk) := [(500, .cells 9 [.v (.string ByteArray.empty)]), (501, .cells 97 zrV), (502, .cells 4 [.v (.bool l)]), (503, .cells 3 [.v (.int .i64 0)]), (504, .cells 26 [.v (.int .i64 0), .v (.int .i64 0)]), (505, .cells 97 frV)]
def brQ (b : ByteArray) (a w : Int) (o : ByteArray) (m : Int) : Prop := brI b a w o m = false ∧ ((brC b a).2.1 = 0 ∧ (brZ b a ≤ min w 131072 ∧ ((brK b a == 1 || brK b a == 0) && decide ((o.size : Int) + brZ b a > m)) = false))
def oBr (b : ByteArray) (a w : Int) (o : ByteArray) (m : Int) : Nat → Option LoopFam := omL [
  (1007, cutI (brI b a w o m = false) ((66, .fn (.func 65) [] [.p 500 0 0, .p 501 0 0, .p 502 0 0, .p 503 0 0, .p 504 0 0]) :: brT b a w o m) (brH false)),
  (1021, cutI (brQ b a w o m) ((18, .p 1001 0 0) :: (19, .v (.int .i64 (brK b a))) :: (20, .v (.int .i64 (brZ b a))) :: (22, .v (.int .i64 (brX b a))) :: brT b a w o m) ((1001, .cells 113 (cuR b (brC b a))) :: brH (bhL b (brS b a))))]
def sBkRd : Spec where
  ι := ByteArray × Int × Int × ByteArray × Int
  dec l H := match l with
    | [.v (.string b), .v (.int .i64 a), .ag [.v (.int .i64 1), .v (.int .i64 4), .v (.int .i64 8), .v (.slice none 0 0), .v (.int .i64 (-1)), .v (.int .i64 0), .v (.int .i64 0), .v (.slice none 0 0), .v (.int .i64 (-1)), .v (.int .i64 0), .v (.int .i64 0), .v (.slice none 0 0), .v (.int .i64 (-1)), .v (.int .i64 0), .v (.int .i64 0), .v (.slice none 0 0)], .v (.string o), .v (.int .i64 w), .v (.int .i64 m)] => some ((b, a, w, o, m), [])
    | _ => none
  args := fun (b, a, w, o, m) => [.v (.string b), .v (.int .i64 a), .ag [.v (.int .i64 1), .v (.int .i64 4), .v (.int .i64 8), .v (.slice none 0 0), .v (.int .i64 (-1)), .v (.int .i64 0), .v (.int .i64 0), .v (.slice none 0 0), .v (.int .i64 (-1)), .v (.int .i64 0), .v (.int .i64 0), .v (.slice none 0 0), .v (.int .i64 (-1)), .v (.int .i64 0), .v (.int .i64 0), .v (.slice none 0 0)], .v (.string o), .v (.int .i64 w), .v (.int .i64 m)]
  pre := fun (b, a, w, o, m) => [⟨b.size ≤ 1000000, inferInstance⟩, ⟨(brC b a).2.1 = 0 → brK b a = 0 ∨ brK b a = 1, inferInstance⟩]
  out := fun (b, a, w, o, m) => .ite ⟨brG b a w o m = true, inferInstance⟩ (.leaf (.tu [.v (.string (o ++ brB b a)), .ag frV, .v (.bool (bhL b (brS b a))), .v (.int .i64 (brD b a).1), .ag [.v (.int .i64 0), .v (.int .i64 0)]]) []) (.leaf (.tu [.v (.string ByteArray.empty), .ag zrV, .v (.bool false), .v (.int .i64 0), .ag [.v (.int .i64 (brE b a w o m).1), .v (.int .i64 (brE b a w o m).2)]]) [])
theorem sBkRd_enc : ∀ l H n i ls, sBkRd.dec l H = some (i, ls) → l = renL (rho ls n) (sBkRd.args i) ∧ givenHp H ls = renH (rho ls n) (sBkRd.hp i) := by
  intro l H n i ls h
  simp only [sBkRd] at h
  repeat' split at h
  all_goals first
    | (cases h; done)
    | (cases h; exact ⟨rfl, rfl⟩)
def GBf : List (Nat × Ctr) := (47, sBkRd.ctr) :: GBe
end Go.Proofs.YtbfdchahapajaaaGreatDoor
