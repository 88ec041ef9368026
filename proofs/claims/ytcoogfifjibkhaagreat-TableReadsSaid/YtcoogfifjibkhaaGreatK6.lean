/-
  Texts joined: VP, VPt, VQ, VR, VSf, VS, VSt, VTp, VT, Nil, VU, VUt, VW. Conditions: each theorem's own.
-/
import Derived.Test.YtcoogfifjibkhaaGreatK5
import Derived.Test.YtcoogfifjibkhaaGreatK3
namespace Go.Proofs.YtcoogfifjibkhaaGreat
open Go Go.RowKit
set_option linter.unusedVariables false
set_option linter.unusedSimpArgs false
set_option maxRecDepth 100000
def sGrt0 : Spec where
  ι := Unit
  dec l H := match l with
    | [] => some ((), [])
    | _ => none
  args := fun _ => []
  out := fun _ => .leaf (.av (.ints .i64 [9, 8, 9])) []
theorem sGrt0_enc : ∀ l H n i ls, sGrt0.dec l H = some (i, ls) → l = renL (rho ls n) (sGrt0.args i) ∧ givenHp H ls = renH (rho ls n) (sGrt0.hp i) := by
  intro l H n i ls h
  simp only [sGrt0] at h
  repeat' split at h
  all_goals first
    | (cases h; done)
    | (cases h; exact ⟨rfl, rfl⟩)
def sGrtR : Spec where
  ι := Int
  dec l H := match l with
    | [.v (.int .i64 k)] => some (k, [])
    | _ => none
  args := fun k => [.v (.int .i64 k)]
  out := fun k => .leaf (.tu [.v (.int .i64 (grtI k)), .v (.int .i64 (kdE k))]) []
theorem sGrtR_enc : ∀ l H n i ls, sGrtR.dec l H = some (i, ls) → l = renL (rho ls n) (sGrtR.args i) ∧ givenHp H ls = renH (rho ls n) (sGrtR.hp i) := by
  intro l H n i ls h
  simp only [sGrtR] at h
  repeat' split at h
  all_goals first
    | (cases h; done)
    | (cases h; exact ⟨rfl, rfl⟩)
def sEmp : Spec where
  ι := Int × List Int
  dec l H := match l with
    | [.ag [.v (.int .i64 g), .dat (.ints .i64 p)]] => some ((g, p), [])
    | _ => none
  args := fun (g, p) => [.ag [.v (.int .i64 g), .dat (.ints .i64 p)]]
  out := fun (g, p) => .leaf (.v (.bool (emD g p))) []
theorem sEmp_enc : ∀ l H n i ls, sEmp.dec l H = some (i, ls) → l = renL (rho ls n) (sEmp.args i) ∧ givenHp H ls = renH (rho ls n) (sEmp.hp i) := by
  intro l H n i ls h
  simp only [sEmp] at h
  repeat' split at h
  all_goals first
    | (cases h; done)
    | (cases h; exact ⟨rfl, rfl⟩)
def sSaD : Spec where
  ι := Int × List Int × Int × List Int
  dec l H := match l with
    | [.ag [.v (.int .i64 g), .dat (.ints .i64 p)], .ag [.v (.int .i64 h), .dat (.ints .i64 q)]] => some ((g, p, h, q), [])
    | _ => none
  args := fun (g, p, h, q) => [.ag [.v (.int .i64 g), .dat (.ints .i64 p)], .ag [.v (.int .i64 h), .dat (.ints .i64 q)]]
  pre := fun (g, p, h, q) => [⟨p.length ≤ 4294967296, inferInstance⟩]
  out := fun (g, p, h, q) => .leaf (.v (.bool (saD g p h q))) []
theorem sSaD_enc : ∀ l H n i ls, sSaD.dec l H = some (i, ls) → l = renL (rho ls n) (sSaD.args i) ∧ givenHp H ls = renH (rho ls n) (sSaD.hp i) := by
  intro l H n i ls h
  simp only [sSaD] at h
  repeat' split at h
  all_goals first
    | (cases h; done)
    | (cases h; exact ⟨rfl, rfl⟩)
def sSaT : Spec where
  ι := Int × Int × Int × List Int × Int × Int × Int × List Int
  dec l H := match l with
    | [.ag [.v (.int .i64 m), .v (.int .i64 s), .v (.int .i64 g), .dat (.ints .i64 p)], .ag [.v (.int .i64 n), .v (.int .i64 t), .v (.int .i64 h), .dat (.ints .i64 q)]] => some ((m, s, g, p, n, t, h, q), [])
    | _ => none
  args := fun (m, s, g, p, n, t, h, q) => [.ag [.v (.int .i64 m), .v (.int .i64 s), .v (.int .i64 g), .dat (.ints .i64 p)], .ag [.v (.int .i64 n), .v (.int .i64 t), .v (.int .i64 h), .dat (.ints .i64 q)]]
  pre := fun (m, s, g, p, n, t, h, q) => [⟨p.length ≤ 4294967296, inferInstance⟩]
  out := fun (m, s, g, p, n, t, h, q) => .leaf (.v (.bool (saT m s g p n t h q))) []
theorem sSaT_enc : ∀ l H n i ls, sSaT.dec l H = some (i, ls) → l = renL (rho ls n) (sSaT.args i) ∧ givenHp H ls = renH (rho ls n) (sSaT.hp i) := by
  intro l H n i ls h
  simp only [sSaT] at h
  repeat' split at h
  all_goals first
    | (cases h; done)
    | (cases h; exact ⟨rfl, rfl⟩)
def sTbC : Spec where
  ι := Int × Int × Int × Int × List Int
  dec l H := match l with
    | [.v (.int .i64 k), .ag [.v (.int .i64 m), .v (.int .i64 s), .v (.int .i64 g), .dat (.ints .i64 p)]] => some ((k, m, s, g, p), [])
    | _ => none
  args := fun (k, m, s, g, p) => [.v (.int .i64 k), .ag [.v (.int .i64 m), .v (.int .i64 s), .v (.int .i64 g), .dat (.ints .i64 p)]]
  pre := fun (k, m, s, g, p) => [⟨p.length ≤ 4294967296, inferInstance⟩]
  out := fun (k, m, s, g, p) => .leaf (.v (.int .i64 (tbE k m s g p))) []
theorem sTbC_enc : ∀ l H n i ls, sTbC.dec l H = some (i, ls) → l = renL (rho ls n) (sTbC.args i) ∧ givenHp H ls = renH (rho ls n) (sTbC.hp i) := by
  intro l H n i ls h
  simp only [sTbC] at h
  repeat' split at h
  all_goals first
    | (cases h; done)
    | (cases h; exact ⟨rfl, rfl⟩)
def sProb : Spec where
  ι := Int × List Int × Int
  dec l H := match l with
    | [.ag [.v (.int .i64 g), .dat (.ints .i64 p)], .v (.int .i64 s)] => some ((g, p, s), [])
    | _ => none
  args := fun (g, p, s) => [.ag [.v (.int .i64 g), .dat (.ints .i64 p)], .v (.int .i64 s)]
  pre := fun (g, p, s) => [⟨0 ≤ s, inferInstance⟩]
  out := fun (g, p, s) => .leaf (.v (.int .i64 (p.getD s.toNat 0))) []
theorem sProb_enc : ∀ l H n i ls, sProb.dec l H = some (i, ls) → l = renL (rho ls n) (sProb.args i) ∧ givenHp H ls = renH (rho ls n) (sProb.hp i) := by
  intro l H n i ls h
  simp only [sProb] at h
  repeat' split at h
  all_goals first
    | (cases h; done)
    | (cases h; exact ⟨rfl, rfl⟩)
def sCost : Spec where
  ι := Int × List Int × List Int
  dec l H := match l with
    | [.ag [.v (.int .i64 g), .dat (.ints .i64 p)], .dat (.ints .i64 l)] => some ((g, p, l), [])
    | _ => none
  args := fun (g, p, l) => [.ag [.v (.int .i64 g), .dat (.ints .i64 p)], .dat (.ints .i64 l)]
  pre := fun (g, p, l) => [⟨p.length ≤ 4294967296, inferInstance⟩, ⟨l.length ≤ 4294967296, inferInstance⟩]
  out := fun (g, p, l) => .leaf (.tu [.v (.int .i64 (coN g p l)), .v (.int .i64 (coE g p l))]) []
theorem sCost_enc : ∀ l H n i ls, sCost.dec l H = some (i, ls) → l = renL (rho ls n) (sCost.args i) ∧ givenHp H ls = renH (rho ls n) (sCost.hp i) := by
  intro l H n i ls h
  simp only [sCost] at h
  repeat' split at h
  all_goals first
    | (cases h; done)
    | (cases h; exact ⟨rfl, rfl⟩)
def sBad : Spec where
  ι := Int × Int
  dec l H := match l with
    | [.ag [.v (.int .i64 e), .v (.int .i64 a)]] => some ((e, a), [])
    | _ => none
  args := fun (e, a) => [.ag [.v (.int .i64 e), .v (.int .i64 a)]]
  out := fun (e, a) => .leaf (.v (.bool (e != 0))) []
theorem sBad_enc : ∀ l H n i ls, sBad.dec l H = some (i, ls) → l = renL (rho ls n) (sBad.args i) ∧ givenHp H ls = renH (rho ls n) (sBad.hp i) := by
  intro l H n i ls h
  simp only [sBad] at h
  repeat' split at h
  all_goals first
    | (cases h; done)
    | (cases h; exact ⟨rfl, rfl⟩)
def sTRead : Spec where
  ι := Int × Int × ByteArray × Int × Int × Int × Int × List Int
  dec l H := match l with
    | [.v (.int .i64 k), .v (.int .i64 m), .v (.string s), .v (.int .i64 a), .ag [.v (.int .i64 lm), .v (.int .i64 ls), .v (.int .i64 lg), .dat (.ints .i64 lp)]] => some ((k, m, s, a, lm, ls, lg, lp), [])
    | _ => none
  args := fun (k, m, s, a, lm, ls, lg, lp) => [.v (.int .i64 k), .v (.int .i64 m), .v (.string s), .v (.int .i64 a), .ag [.v (.int .i64 lm), .v (.int .i64 ls), .v (.int .i64 lg), .dat (.ints .i64 lp)]]
  pre := fun (k, m, s, a, lm, ls, lg, lp) => [⟨s.size ≤ 700, inferInstance⟩, ⟨lp.length ≤ 4294967296, inferInstance⟩]
  out := fun (k, m, s, a, lm, ls, lg, lp) => .leaf (.tu [.ag [.v (.int .i64 (trM k m s a lm ls lg lp)), .v (.int .i64 (trS k m s a lm ls lg lp)), .v (.int .i64 (trG k m s a lm ls lg lp)), .dat (.ints .i64 (trP k m s a lm ls lg lp))], .v (.int .i64 (trN k m s a lm ls lg lp)), .ag [.v (.int .i64 (trE k m s a lm ls lg lp)), .v (.int .i64 (trA k m s a lm ls lg lp))]]) []
theorem sTRead_enc : ∀ l H n i ls, sTRead.dec l H = some (i, ls) → l = renL (rho ls n) (sTRead.args i) ∧ givenHp H ls = renH (rho ls n) (sTRead.hp i) := by
  intro l H n i ls h
  simp only [sTRead] at h
  repeat' split at h
  all_goals first
    | (cases h; done)
    | (cases h; exact ⟨rfl, rfl⟩)
def dHp (g : Int) (p : List Int) : List (Nat × SBlk) := [(1001, .cells 24 [.v (.int .i64 g), .dat (.ints .i64 p)])]
def oCost (g : Int) (p l : List Int) : LoopInv := { ι := Nat, p := fun i => i ≤ l.length ∧ cosM p 0 (l.take i) = false ∧ dchk g p = 0 ∧ chA l = 0, tm := fun i => [(2, .p 1001 0 0), (8, .v (.int .i64 (cosC g p 0 (l.take i)))), (22, .dat (.ints .i64 l)), (23, .v (.int .i64 l.length)), (24, .v (.int .i64 (i : Nat)))], hp := fun _ => dHp g p, μ := fun i => l.length - i }
def oSaT (m s g : Int) (p : List Int) (n t h : Int) (q : List Int) : LoopInv := { ι := Nat, p := fun i => i ≤ p.length ∧ p.take i = q.take i ∧ p.length = q.length ∧ m = n ∧ s = t ∧ g = h, tm := fun i => [(2, .p 1001 0 0), (3, .p 1002 0 0), (5, .v (.int .i64 (i : Nat)))], hp := fun _ => [(1001, .cells 26 [.v (.int .i64 m), .v (.int .i64 s), .v (.int .i64 g), .dat (.ints .i64 p)]), (1002, .cells 26 [.v (.int .i64 n), .v (.int .i64 t), .v (.int .i64 h), .dat (.ints .i64 q)])], μ := fun i => p.length - i }
def oTrC (k m : Int) (s : ByteArray) (a lm ls lg : Int) (lp : List Int) (e : Int) : LoopInv := { ι := Unit, p := fun _ => True, tm := fun _ => [(0, .v (.int .i64 k)), (1, .v (.int .i64 m)), (2, .v (.string s)), (3, .v (.int .i64 a)), (9, .p 1001 0 0), (10, .p 1002 0 0), (12, .p 1003 0 0), (13, .v (.int .i64 (grtI k))), (14, .v (.int .i64 e))], hp := fun _ => [(1001, .cells 26 [.v (.int .i64 lm), .v (.int .i64 ls), .v (.int .i64 lg), .dat (.ints .i64 lp)]), (1002, .cells 26 [.v (.int .i64 0), .v (.int .i64 0), .v (.int .i64 0), .v (.slice none 0 0)]), (1003, .cells 40 [.v (.int .i64 0), .v (.int .i64 0)])], μ := fun _ => 0 }
def oTr (k m : Int) (s : ByteArray) (a lm ls lg : Int) (lp : List Int) : Nat → Option LoopFam := omg [(1004, .one (oTrC k m s a lm ls lg lp (trR k s a))), (1006, .one (oTrC k m s a lm ls lg lp (trC k s a lm ls lg lp))), (1008, .one (oTrC k m s a lm ls lg lp (trD k m s a lm ls lg lp)))]
def GPa : List (Nat × Ctr) := (27, sGrt0.ctr) :: (31, sGrtR.ctr) :: (52, sEmp.ctr) :: (60, sEmp.ctr) :: (51, sSaD.ctr) :: (61, sSaT.ctr) :: (42, sProb.ctr) :: (47, sBad.ctr) :: (41, sChA.ctr) :: GKe
def GPb : List (Nat × Ctr) := (21, sTbC.ctr) :: (34, sTbC.ctr) :: (12, sCost.ctr) :: GPa
def GPc : List (Nat × Ctr) := (15, sTRead.ctr) :: (16, sTRead.ctr) :: GPb
end Go.Proofs.YtcoogfifjibkhaaGreat
namespace Go.Proofs.YtcoogfifjibkhaaGreat
open Go Go.RowKit
set_option linter.unusedVariables false
set_option maxRecDepth 100000
def grt0E_t  : Prop :=
 List.length [(9 : Int), (8 : Int), (9 : Int)] = List.length (List.replicate (3 : Nat) (0 : Int)) ∧ (3 : Nat) = (3 : Nat) ∧ [(9 : Int), (8 : Int), (9 : Int)] = [(9 : Int), (8 : Int), (9 : Int)]
theorem grt0E_e  : grt0E_t  = vcG Tryz.prog (Gof GKe) (fun _ => none) Tryz.f27 [] [] (.leaf ((.av (.ints .i64 [9, 8, 9]))) ([])) := by kernel_rfl
def grtRE_t (k : Int) : Prop :=
 ((k == (0 : Int)) = true →
 ((k == (0 : Int)) = true → (9 : Int) = grtI k ∧ (0 : Int) = kdE k) ∧
 ((k == (0 : Int)) = false → ((k == (1 : Int)) = true → (8 : Int) = grtI k ∧ (0 : Int) = kdE k) ∧ ((k == (1 : Int)) = false → (0 : Int) = grtI k ∧ (11 : Int) = kdE k))) ∧
 ((k == (0 : Int)) = false →
 ((k == (2 : Int)) = true → (9 : Int) = grtI k ∧ (0 : Int) = kdE k) ∧
 ((k == (2 : Int)) = false → ((k == (1 : Int)) = true → (8 : Int) = grtI k ∧ (0 : Int) = kdE k) ∧ ((k == (1 : Int)) = false → (0 : Int) = grtI k ∧ (11 : Int) = kdE k)))
theorem grtRE_e (k : Int) : grtRE_t k = vcG Tryz.prog (Gof GKe) (fun _ => none) Tryz.f31 [.v (.int .i64 k)] [] (.leaf ((.tu [.v (.int .i64 (grtI k)), .v (.int .i64 (kdE k))])) ([])) := by kernel_rfl
def empE_t (g : Int) (p : List Int) : Prop :=
 ((g == (0 : Int)) = true → ((↑(List.length p) : Int) == (0 : Int)) = emD g p) ∧ ((g == (0 : Int)) = false → false = emD g p)
theorem empE_e (g : Int) (p : List Int) : empE_t g p = vcG Tryz.prog (Gof GKe) (fun _ => none) Tryz.f52 [.ag [.v (.int .i64 g), .dat (.ints .i64 p)]] [] (.leaf ((.v (.bool (emD g p)))) ([])) := by kernel_rfl
def rempE_t (g : Int) (p : List Int) : Prop :=
 ((g == (0 : Int)) = true → ((↑(List.length p) : Int) == (0 : Int)) = emD g p) ∧ ((g == (0 : Int)) = false → false = emD g p)
theorem rempE_e (g : Int) (p : List Int) : rempE_t g p = vcG Tryz.prog (Gof GKe) (fun _ => none) Tryz.f60 [.ag [.v (.int .i64 g), .dat (.ints .i64 p)]] [] (.leaf ((.v (.bool (emD g p)))) ([])) := by kernel_rfl
def sadE_t (g : Int) (p : List Int) (h : Int) (q : List Int) : Prop :=
 ((g == h) = true → List.length p ≤ (4294967296 : Nat) ∧ eqI p q = saD g p h q) ∧ ((g == h) = false → false = saD g p h q)
theorem sadE_e (g : Int) (p : List Int) (h : Int) (q : List Int) : sadE_t g p h q = vcG Tryz.prog (Gof GKe) (fun _ => none) Tryz.f51 [.ag [.v (.int .i64 g), .dat (.ints .i64 p)], .ag [.v (.int .i64 h), .dat (.ints .i64 q)]] [] (.leaf ((.v (.bool (saD g p h q)))) ([])) := by kernel_rfl
def satE_t (m s g : Int) (p : List Int) (n t h : Int) (q : List Int) : Prop :=
 ((m != n) = true → false = saT m s g p n t h q) ∧
 ((m != n) = false →
 ((s != t) = true → false = saT m s g p n t h q) ∧
 ((s != t) = false →
 ((g != h) = true → false = saT m s g p n t h q) ∧
 ((g != h) = false →
 (((↑(List.length p) : Int) != (↑(List.length q) : Int)) = true → false = saT m s g p n t h q) ∧
 (((↑(List.length p) : Int) != (↑(List.length q) : Int)) = false →
 (∃ (x0 : Nat),
 (x0 ≤ List.length p ∧ List.take x0 p = List.take x0 q ∧ List.length p = List.length q ∧ m = n ∧ s = t ∧ g = h) ∧
 (0 : Int) = (↑x0 : Int) ∧ m = m ∧ s = s ∧ g = g ∧ p = p ∧ n = n ∧ t = t ∧ h = h ∧ q = q) ∧
 ∀ (x1 : Nat),
 x1 ≤ List.length p ∧ List.take x1 p = List.take x1 q ∧ List.length p = List.length q ∧ m = n ∧ s = t ∧ g = h →
 (decide ((↑x1 : Int) < (↑(List.length p) : Int)) = true →
 (0 : Int) ≤ (↑x1 : Int) ∧
 (↑x1 : Int) < (↑(List.length p) : Int) ∧
 (0 : Int) ≤ (↑x1 : Int) ∧
 (↑x1 : Int) < (↑(List.length q) : Int) ∧
 ((List.getD p (Int.toNat (↑x1 : Int)) (0 : Int) != List.getD q (Int.toNat (↑x1 : Int)) (0 : Int)) = true → false = saT m s g p n t h q) ∧
 ((List.getD p (Int.toNat (↑x1 : Int)) (0 : Int) != List.getD q (Int.toNat (↑x1 : Int)) (0 : Int)) = false →
 ∃ (y2 : Nat),
 (y2 ≤ List.length p ∧ List.take y2 p = List.take y2 q ∧ List.length p = List.length q ∧ m = n ∧ s = t ∧ g = h) ∧
 Nat.sub (List.length p) y2 < Nat.sub (List.length p) x1 ∧
 IntKind.wrap IntKind.i64 ((↑x1 : Int) + (1 : Int)) = (↑y2 : Int) ∧ m = m ∧ s = s ∧ g = g ∧ p = p ∧ n = n ∧ t = t ∧ h = h ∧ q = q)) ∧
 (decide ((↑x1 : Int) < (↑(List.length p) : Int)) = false → true = saT m s g p n t h q)))))
theorem satE_e (m s g : Int) (p : List Int) (n t h : Int) (q : List Int) : satE_t m s g p n t h q = vcG Tryz.prog (Gof GKe) (one (oSaT m s g p n t h q)) Tryz.f61 [.ag [.v (.int .i64 m), .v (.int .i64 s), .v (.int .i64 g), .dat (.ints .i64 p)], .ag [.v (.int .i64 n), .v (.int .i64 t), .v (.int .i64 h), .dat (.ints .i64 q)]] [] (.leaf ((.v (.bool (saT m s g p n t h q)))) ([])) := by kernel_rfl
def probE_t (g : Int) (p : List Int) (s : Int) : Prop :=
 (decide (s ≥ (↑(List.length p) : Int)) = true → (0 : Int) = List.getD p (Int.toNat s) (0 : Int)) ∧
 (decide (s ≥ (↑(List.length p) : Int)) = false → (0 : Int) ≤ s ∧ s < (↑(List.length p) : Int) ∧ List.getD p (Int.toNat s) (0 : Int) = List.getD p (Int.toNat s) (0 : Int))
theorem probE_e (g : Int) (p : List Int) (s : Int) : probE_t g p s = vcG Tryz.prog (Gof GKe) (fun _ => none) Tryz.f42 [.ag [.v (.int .i64 g), .dat (.ints .i64 p)], .v (.int .i64 s)] [] (.leaf ((.v (.int .i64 (p.getD s.toNat 0)))) ([])) := by kernel_rfl
def badE_t (e a : Int) : Prop :=
 (e != (0 : Int)) = (e != (0 : Int))
theorem badE_e (e a : Int) : badE_t e a = vcG Tryz.prog (Gof GKe) (fun _ => none) Tryz.f47 [.ag [.v (.int .i64 e), .v (.int .i64 a)]] [] (.leaf ((.v (.bool (e != 0)))) ([])) := by kernel_rfl
def tbcE_t (k m s g : Int) (p : List Int) : Prop :=
 ((kdE k != (0 : Int)) = true → (11 : Int) = tbE k m s g p) ∧
 ((kdE k != (0 : Int)) = false →
 ((m == (0 : Int)) = true →
 ((s == (0 : Int)) = true →
 List.length p ≤ (4294967296 : Nat) ∧ ((!saD g p (preL k) (preP k)) = true → (2 : Int) = tbE k m s g p) ∧ ((!saD g p (preL k) (preP k)) = false → (0 : Int) = tbE k m s g p)) ∧
 ((s == (0 : Int)) = false → (2 : Int) = tbE k m s g p)) ∧
 ((m == (0 : Int)) = false →
 ((m == (1 : Int)) = true →
 (decide (s < (0 : Int)) = true → (24 : Int) = tbE k m s g p) ∧
 (decide (s < (0 : Int)) = false →
 (decide (s > mostI k) = true → (24 : Int) = tbE k m s g p) ∧
 (decide (s > mostI k) = false → ((!emD g p) = true → (2 : Int) = tbE k m s g p) ∧ ((!emD g p) = false → (0 : Int) = tbE k m s g p)))) ∧
 ((m == (1 : Int)) = false →
 ((m == (2 : Int)) = true →
 List.length p ≤ (4294967296 : Nat) ∧
 ((dchk g p != (0 : Int)) = true → dchk g p = tbE k m s g p) ∧
 ((dchk g p != (0 : Int)) = false →
 (0 : Int) ≤ k ∧
 k < (↑(3 : Nat) : Int) ∧
 (3 : Nat) = List.length [(9 : Int), (8 : Int), (9 : Int)] ∧
 (decide (g > List.getD [(9 : Int), (8 : Int), (9 : Int)] (Int.toNat k) (0 : Int)) = true → (31 : Int) = tbE k m s g p) ∧
 (decide (g > List.getD [(9 : Int), (8 : Int), (9 : Int)] (Int.toNat k) (0 : Int)) = false →
 (decide ((↑(List.length p) : Int) > IntKind.wrap IntKind.i64 (mostI k + (1 : Int))) = true → (23 : Int) = tbE k m s g p) ∧
 (decide ((↑(List.length p) : Int) > IntKind.wrap IntKind.i64 (mostI k + (1 : Int))) = false →
 ((!s == (0 : Int)) = true → (2 : Int) = tbE k m s g p) ∧ ((!s == (0 : Int)) = false → (0 : Int) = tbE k m s g p))))) ∧
 ((m == (2 : Int)) = false →
 ((m == (-1 : Int)) = true →
 ((s == (0 : Int)) = true → ((!emD g p) = true → (2 : Int) = tbE k m s g p) ∧ ((!emD g p) = false → (0 : Int) = tbE k m s g p)) ∧
 ((s == (0 : Int)) = false → (2 : Int) = tbE k m s g p)) ∧
 ((m == (-1 : Int)) = false → (11 : Int) = tbE k m s g p)))))
theorem tbcE_e (k m s g : Int) (p : List Int) : tbcE_t k m s g p = vcG Tryz.prog (Gof GPa) (fun _ => none) Tryz.f21 [.v (.int .i64 k), .ag [.v (.int .i64 m), .v (.int .i64 s), .v (.int .i64 g), .dat (.ints .i64 p)]] [] (.leaf ((.v (.int .i64 (tbE k m s g p)))) ([])) := by kernel_rfl
def rtbcE_t (k m s g : Int) (p : List Int) : Prop :=
 ((kdE k != (0 : Int)) = true → kdE k = tbE k m s g p) ∧
 ((kdE k != (0 : Int)) = false →
 ((m == (-1 : Int)) = true →
 ((s != (0 : Int)) = true → (2 : Int) = tbE k m s g p) ∧ ((s != (0 : Int)) = false → ((!emD g p) = true → (2 : Int) = tbE k m s g p) ∧ ((!emD g p) = false → (0 : Int) = tbE k m s g p))) ∧
 ((m == (-1 : Int)) = false →
 ((m == (0 : Int)) = true →
 List.length p ≤ (4294967296 : Nat) ∧
 ((!saT m s g p (0 : Int) (0 : Int) (preL k) (preP k)) = true → (2 : Int) = tbE k m s g p) ∧ ((!saT m s g p (0 : Int) (0 : Int) (preL k) (preP k)) = false → (0 : Int) = tbE k m s g p)) ∧
 ((m == (0 : Int)) = false →
 ((m == (1 : Int)) = true →
 (decide (s < (0 : Int)) = true → (24 : Int) = tbE k m s g p) ∧
 (decide (s < (0 : Int)) = false →
 (decide (s > mostI k) = true → (24 : Int) = tbE k m s g p) ∧
 (decide (s > mostI k) = false → ((!emD g p) = true → (2 : Int) = tbE k m s g p) ∧ ((!emD g p) = false → (0 : Int) = tbE k m s g p)))) ∧
 ((m == (1 : Int)) = false →
 ((m == (2 : Int)) = true →
 List.length p ≤ (4294967296 : Nat) ∧
 ((dchk g p != (0 : Int)) = true → dchk g p = tbE k m s g p) ∧
 ((dchk g p != (0 : Int)) = false →
 (decide (g > grtI k) = true → (31 : Int) = tbE k m s g p) ∧
 (decide (g > grtI k) = false →
 (decide ((↑(List.length p) : Int) > IntKind.wrap IntKind.i64 (mostI k + (1 : Int))) = true → (23 : Int) = tbE k m s g p) ∧
 (decide ((↑(List.length p) : Int) > IntKind.wrap IntKind.i64 (mostI k + (1 : Int))) = false →
 ((s != (0 : Int)) = true → (2 : Int) = tbE k m s g p) ∧ ((s != (0 : Int)) = false → (0 : Int) = tbE k m s g p))))) ∧
 ((m == (2 : Int)) = false → (11 : Int) = tbE k m s g p)))))
theorem rtbcE_e (k m s g : Int) (p : List Int) : rtbcE_t k m s g p = vcG Tryz.prog (Gof GPa) (fun _ => none) Tryz.f34 [.v (.int .i64 k), .ag [.v (.int .i64 m), .v (.int .i64 s), .v (.int .i64 g), .dat (.ints .i64 p)]] [] (.leaf ((.v (.int .i64 (tbE k m s g p)))) ([])) := by kernel_rfl
def costE_t (g : Int) (p l : List Int) : Prop :=
 List.length p ≤ (4294967296 : Nat) ∧
 ((dchk g p != (0 : Int)) = true → (0 : Int) = coN g p l ∧ dchk g p = coE g p l) ∧
 ((dchk g p != (0 : Int)) = false →
 List.length l ≤ (4294967296 : Nat) ∧
 ((chA l != (0 : Int)) = true → (0 : Int) = coN g p l ∧ chA l = coE g p l) ∧
 ((chA l != (0 : Int)) = false →
 (∃ (x0 : Nat),
 (x0 ≤ List.length l ∧ cosM p (0 : Nat) (List.take x0 l) = false ∧ dchk g p = (0 : Int) ∧ chA l = (0 : Int)) ∧
 (0 : Int) = cosC g p (0 : Nat) (List.take x0 l) ∧ l = l ∧ (↑(List.length l) : Int) = (↑(List.length l) : Int) ∧ (0 : Int) = (↑x0 : Int) ∧ g = g ∧ p = p) ∧
 ∀ (x1 : Nat),
 x1 ≤ List.length l ∧ cosM p (0 : Nat) (List.take x1 l) = false ∧ dchk g p = (0 : Int) ∧ chA l = (0 : Int) →
 (decide ((↑x1 : Int) < (↑(List.length l) : Int)) = true →
 (0 : Int) ≤ (↑x1 : Int) ∧
 (↑x1 : Int) < (↑(List.length l) : Int) ∧
 ((List.getD l (Int.toNat (↑x1 : Int)) (0 : Int) == (0 : Int)) = true →
 ∃ (y2 : Nat),
 (y2 ≤ List.length l ∧ cosM p (0 : Nat) (List.take y2 l) = false ∧ dchk g p = (0 : Int) ∧ chA l = (0 : Int)) ∧
 Nat.sub (List.length l) y2 < Nat.sub (List.length l) x1 ∧
 cosC g p (0 : Nat) (List.take x1 l) = cosC g p (0 : Nat) (List.take y2 l) ∧
 l = l ∧ (↑(List.length l) : Int) = (↑(List.length l) : Int) ∧ IntKind.wrap IntKind.i64 ((↑x1 : Int) + (1 : Int)) = (↑y2 : Int) ∧ g = g ∧ p = p) ∧
 ((List.getD l (Int.toNat (↑x1 : Int)) (0 : Int) == (0 : Int)) = false →
 (0 : Int) ≤ (↑x1 : Int) ∧
 ((List.getD p (Int.toNat (↑x1 : Int)) (0 : Int) == (0 : Int)) = true → (0 : Int) = coN g p l ∧ (7 : Int) = coE g p l) ∧
 ((List.getD p (Int.toNat (↑x1 : Int)) (0 : Int) == (0 : Int)) = false →
 (decide (List.getD p (Int.toNat (↑x1 : Int)) (0 : Int) < (0 : Int)) = true →
 (1 : Int) ≤ (9223372036854775807 : Int) ∧
 ∃ (y3 : Nat),
 (y3 ≤ List.length l ∧ cosM p (0 : Nat) (List.take y3 l) = false ∧ dchk g p = (0 : Int) ∧ chA l = (0 : Int)) ∧
 Nat.sub (List.length l) y3 < Nat.sub (List.length l) x1 ∧
 IntKind.wrap IntKind.i64
 (cosC g p (0 : Nat) (List.take x1 l) +
 IntKind.wrap IntKind.i64 (List.getD l (Int.toNat (↑x1 : Int)) (0 : Int) * IntKind.wrap IntKind.i64 (g - hiI (1 : Int)))) =
 cosC g p (0 : Nat) (List.take y3 l) ∧
 l = l ∧ (↑(List.length l) : Int) = (↑(List.length l) : Int) ∧ IntKind.wrap IntKind.i64 ((↑x1 : Int) + (1 : Int)) = (↑y3 : Int) ∧ g = g ∧ p = p) ∧
 (decide (List.getD p (Int.toNat (↑x1 : Int)) (0 : Int) < (0 : Int)) = false →
 List.getD p (Int.toNat (↑x1 : Int)) (0 : Int) ≤ (9223372036854775807 : Int) ∧
 ∃ (y4 : Nat),
 (y4 ≤ List.length l ∧ cosM p (0 : Nat) (List.take y4 l) = false ∧ dchk g p = (0 : Int) ∧ chA l = (0 : Int)) ∧
 Nat.sub (List.length l) y4 < Nat.sub (List.length l) x1 ∧
 IntKind.wrap IntKind.i64
 (cosC g p (0 : Nat) (List.take x1 l) +
 IntKind.wrap IntKind.i64
 (List.getD l (Int.toNat (↑x1 : Int)) (0 : Int) * IntKind.wrap IntKind.i64 (g - hiI (List.getD p (Int.toNat (↑x1 : Int)) (0 : Int))))) =
 cosC g p (0 : Nat) (List.take y4 l) ∧
 l = l ∧ (↑(List.length l) : Int) = (↑(List.length l) : Int) ∧ IntKind.wrap IntKind.i64 ((↑x1 : Int) + (1 : Int)) = (↑y4 : Int) ∧ g = g ∧ p = p)))) ∧
 (decide ((↑x1 : Int) < (↑(List.length l) : Int)) = false → cosC g p (0 : Nat) (List.take x1 l) = coN g p l ∧ (0 : Int) = coE g p l)))
theorem costE_e (g : Int) (p l : List Int) : costE_t g p l = vcG Tryz.prog (Gof GPa) (one (oCost g p l)) Tryz.f12 [.ag [.v (.int .i64 g), .dat (.ints .i64 p)], .dat (.ints .i64 l)] [] (.leaf ((.tu [.v (.int .i64 (coN g p l)), .v (.int .i64 (coE g p l))])) ([])) := by kernel_rfl
def treadE_t (k m : Int) (s : ByteArray) (a lm ls lg : Int) (lp : List Int) : Prop :=
 ((kdE k != (0 : Int)) = true →
 (0 : Int) = trM k m s a lm ls lg lp ∧
 (0 : Int) = trS k m s a lm ls lg lp ∧
 (0 : Int) = trG k m s a lm ls lg lp ∧
 List.length (trP k m s a lm ls lg lp) = (0 : Nat) ∧ (0 : Int) = trN k m s a lm ls lg lp ∧ (11 : Int) = trE k m s a lm ls lg lp ∧ (0 : Int) = trA k m s a lm ls lg lp) ∧
 ((kdE k != (0 : Int)) = false →
 (decide (a < (0 : Int)) = true →
 (0 : Int) = trM k m s a lm ls lg lp ∧
 (0 : Int) = trS k m s a lm ls lg lp ∧
 (0 : Int) = trG k m s a lm ls lg lp ∧
 List.length (trP k m s a lm ls lg lp) = (0 : Nat) ∧ (0 : Int) = trN k m s a lm ls lg lp ∧ (2 : Int) = trE k m s a lm ls lg lp ∧ (0 : Int) = trA k m s a lm ls lg lp) ∧
 (decide (a < (0 : Int)) = false →
 (decide (a > (↑(ByteArray.size s) : Int)) = true →
 (0 : Int) = trM k m s a lm ls lg lp ∧
 (0 : Int) = trS k m s a lm ls lg lp ∧
 (0 : Int) = trG k m s a lm ls lg lp ∧
 List.length (trP k m s a lm ls lg lp) = (0 : Nat) ∧ (0 : Int) = trN k m s a lm ls lg lp ∧ (2 : Int) = trE k m s a lm ls lg lp ∧ (0 : Int) = trA k m s a lm ls lg lp) ∧
 (decide (a > (↑(ByteArray.size s) : Int)) = false →
 List.length lp ≤ (4294967296 : Nat) ∧
 ((tbE k lm ls lg lp != (0 : Int)) = true →
 (0 : Int) = trM k m s a lm ls lg lp ∧
 (0 : Int) = trS k m s a lm ls lg lp ∧
 (0 : Int) = trG k m s a lm ls lg lp ∧
 List.length (trP k m s a lm ls lg lp) = (0 : Nat) ∧ (0 : Int) = trN k m s a lm ls lg lp ∧ tbE k lm ls lg lp = trE k m s a lm ls lg lp ∧ (0 : Int) = trA k m s a lm ls lg lp) ∧
 ((tbE k lm ls lg lp != (0 : Int)) = false →
 ((m == (0 : Int)) = true →
 (((0 : Int) != (0 : Int)) = true →
 (0 : Int) = trM k m s a lm ls lg lp ∧
 (0 : Int) = trS k m s a lm ls lg lp ∧
 (0 : Int) = trG k m s a lm ls lg lp ∧
 List.length (trP k m s a lm ls lg lp) = (0 : Nat) ∧ (0 : Int) = trN k m s a lm ls lg lp ∧ (0 : Int) = trE k m s a lm ls lg lp ∧ (0 : Int) = trA k m s a lm ls lg lp) ∧
 (((0 : Int) != (0 : Int)) = false →
 m = trM k m s a lm ls lg lp ∧
 (0 : Int) = trS k m s a lm ls lg lp ∧
 preL k = trG k m s a lm ls lg lp ∧
 preP k = trP k m s a lm ls lg lp ∧ a = trN k m s a lm ls lg lp ∧ (0 : Int) = trE k m s a lm ls lg lp ∧ (0 : Int) = trA k m s a lm ls lg lp)) ∧
 ((m == (0 : Int)) = false →
 ((m == (1 : Int)) = true →
 ((a == (↑(ByteArray.size s) : Int)) = true →
 (((5 : Int) != (0 : Int)) = true →
 (0 : Int) = trM k m s a lm ls lg lp ∧
 (0 : Int) = trS k m s a lm ls lg lp ∧
 (0 : Int) = trG k m s a lm ls lg lp ∧
 List.length (trP k m s a lm ls lg lp) = (0 : Nat) ∧ (0 : Int) = trN k m s a lm ls lg lp ∧ (5 : Int) = trE k m s a lm ls lg lp ∧ a = trA k m s a lm ls lg lp) ∧
 (((5 : Int) != (0 : Int)) = false →
 m = trM k m s a lm ls lg lp ∧
 (0 : Int) = trS k m s a lm ls lg lp ∧
 (0 : Int) = trG k m s a lm ls lg lp ∧
 List.length (trP k m s a lm ls lg lp) = (0 : Nat) ∧ a = trN k m s a lm ls lg lp ∧ (0 : Int) = trE k m s a lm ls lg lp ∧ (0 : Int) = trA k m s a lm ls lg lp)) ∧
 ((a == (↑(ByteArray.size s) : Int)) = false →
 (0 : Int) ≤ a ∧
 a < (↑(ByteArray.size s) : Int) ∧
 (decide (IntKind.wrap IntKind.i64 (↑(UInt8.toNat (List.getD s.data.toList (Int.toNat a) (0 : UInt8))) : Int) > mostI k) = true →
 (((24 : Int) != (0 : Int)) = true →
 (0 : Int) = trM k m s a lm ls lg lp ∧
 (0 : Int) = trS k m s a lm ls lg lp ∧
 (0 : Int) = trG k m s a lm ls lg lp ∧
 List.length (trP k m s a lm ls lg lp) = (0 : Nat) ∧
 (0 : Int) = trN k m s a lm ls lg lp ∧ (24 : Int) = trE k m s a lm ls lg lp ∧ a = trA k m s a lm ls lg lp) ∧
 (((24 : Int) != (0 : Int)) = false →
 m = trM k m s a lm ls lg lp ∧
 (0 : Int) = trS k m s a lm ls lg lp ∧
 (0 : Int) = trG k m s a lm ls lg lp ∧
 List.length (trP k m s a lm ls lg lp) = (0 : Nat) ∧
 a = trN k m s a lm ls lg lp ∧ (0 : Int) = trE k m s a lm ls lg lp ∧ (0 : Int) = trA k m s a lm ls lg lp)) ∧
 (decide (IntKind.wrap IntKind.i64 (↑(UInt8.toNat (List.getD s.data.toList (Int.toNat a) (0 : UInt8))) : Int) > mostI k) = false →
 (0 : Int) ≤ a ∧
 a < (↑(ByteArray.size s) : Int) ∧
 (((0 : Int) != (0 : Int)) = true →
 (0 : Int) = trM k m s a lm ls lg lp ∧
 (0 : Int) = trS k m s a lm ls lg lp ∧
 (0 : Int) = trG k m s a lm ls lg lp ∧
 List.length (trP k m s a lm ls lg lp) = (0 : Nat) ∧
 (0 : Int) = trN k m s a lm ls lg lp ∧ (0 : Int) = trE k m s a lm ls lg lp ∧ (0 : Int) = trA k m s a lm ls lg lp) ∧
 (((0 : Int) != (0 : Int)) = false →
 m = trM k m s a lm ls lg lp ∧
 IntKind.wrap IntKind.i64 (↑(UInt8.toNat (List.getD s.data.toList (Int.toNat a) (0 : UInt8))) : Int) = trS k m s a lm ls lg lp ∧
 (0 : Int) = trG k m s a lm ls lg lp ∧
 List.length (trP k m s a lm ls lg lp) = (0 : Nat) ∧
 IntKind.wrap IntKind.i64 (a + (1 : Int)) = trN k m s a lm ls lg lp ∧
 (0 : Int) = trE k m s a lm ls lg lp ∧ (0 : Int) = trA k m s a lm ls lg lp)))) ∧
 ((m == (1 : Int)) = false →
 ((m == (2 : Int)) = true →
 (0 : Int) ≤ k ∧
 k < (↑(3 : Nat) : Int) ∧
 (3 : Nat) = List.length [(9 : Int), (8 : Int), (9 : Int)] ∧
 ByteArray.size s ≤ (1000000 : Nat) ∧
 (((readF (2000 : Int) s a (List.getD [(9 : Int), (8 : Int), (9 : Int)] (Int.toNat k) (0 : Int)) (IntKind.wrap IntKind.i64 (mostI k + (1 : Int)))).snd.snd.fst !=
 (0 : Int)) =
 true →
 (0 : Int) = trM k m s a lm ls lg lp ∧
 (0 : Int) = trS k m s a lm ls lg lp ∧
 (0 : Int) = trG k m s a lm ls lg lp ∧
 List.length (trP k m s a lm ls lg lp) = (0 : Nat) ∧
 (0 : Int) = trN k m s a lm ls lg lp ∧
 (readF (2000 : Int) s a (List.getD [(9 : Int), (8 : Int), (9 : Int)] (Int.toNat k) (0 : Int))
 (IntKind.wrap IntKind.i64 (mostI k + (1 : Int)))).snd.snd.fst =
 trE k m s a lm ls lg lp ∧
 (readF (2000 : Int) s a (List.getD [(9 : Int), (8 : Int), (9 : Int)] (Int.toNat k) (0 : Int))
 (IntKind.wrap IntKind.i64 (mostI k + (1 : Int)))).snd.snd.snd =
 trA k m s a lm ls lg lp) ∧
 (((readF (2000 : Int) s a (List.getD [(9 : Int), (8 : Int), (9 : Int)] (Int.toNat k) (0 : Int)) (IntKind.wrap IntKind.i64 (mostI k + (1 : Int)))).snd.snd.fst !=
 (0 : Int)) =
 false →
 m = trM k m s a lm ls lg lp ∧
 (0 : Int) = trS k m s a lm ls lg lp ∧
 (readF (2000 : Int) s a (List.getD [(9 : Int), (8 : Int), (9 : Int)] (Int.toNat k) (0 : Int)) (IntKind.wrap IntKind.i64 (mostI k + (1 : Int)))).fst.fst =
 trG k m s a lm ls lg lp ∧
 (readF (2000 : Int) s a (List.getD [(9 : Int), (8 : Int), (9 : Int)] (Int.toNat k) (0 : Int))
 (IntKind.wrap IntKind.i64 (mostI k + (1 : Int)))).fst.snd =
 trP k m s a lm ls lg lp ∧
 (readF (2000 : Int) s a (List.getD [(9 : Int), (8 : Int), (9 : Int)] (Int.toNat k) (0 : Int))
 (IntKind.wrap IntKind.i64 (mostI k + (1 : Int)))).snd.fst =
 trN k m s a lm ls lg lp ∧
 (0 : Int) = trE k m s a lm ls lg lp ∧ (0 : Int) = trA k m s a lm ls lg lp)) ∧
 ((m == (2 : Int)) = false →
 ((m == (3 : Int)) = true →
 ((lm == (-1 : Int)) = true →
 (((26 : Int) != (0 : Int)) = true →
 (0 : Int) = trM k m s a lm ls lg lp ∧
 (0 : Int) = trS k m s a lm ls lg lp ∧
 (0 : Int) = trG k m s a lm ls lg lp ∧
 List.length (trP k m s a lm ls lg lp) = (0 : Nat) ∧
 (0 : Int) = trN k m s a lm ls lg lp ∧ (26 : Int) = trE k m s a lm ls lg lp ∧ a = trA k m s a lm ls lg lp) ∧
 (((26 : Int) != (0 : Int)) = false →
 lm = trM k m s a lm ls lg lp ∧
 ls = trS k m s a lm ls lg lp ∧
 lg = trG k m s a lm ls lg lp ∧
 lp = trP k m s a lm ls lg lp ∧ a = trN k m s a lm ls lg lp ∧ (0 : Int) = trE k m s a lm ls lg lp ∧ (0 : Int) = trA k m s a lm ls lg lp)) ∧
 ((lm == (-1 : Int)) = false →
 (((0 : Int) != (0 : Int)) = true →
 (0 : Int) = trM k m s a lm ls lg lp ∧
 (0 : Int) = trS k m s a lm ls lg lp ∧
 (0 : Int) = trG k m s a lm ls lg lp ∧
 List.length (trP k m s a lm ls lg lp) = (0 : Nat) ∧
 (0 : Int) = trN k m s a lm ls lg lp ∧ (0 : Int) = trE k m s a lm ls lg lp ∧ (0 : Int) = trA k m s a lm ls lg lp) ∧
 (((0 : Int) != (0 : Int)) = false →
 lm = trM k m s a lm ls lg lp ∧
 ls = trS k m s a lm ls lg lp ∧
 lg = trG k m s a lm ls lg lp ∧
 lp = trP k m s a lm ls lg lp ∧ a = trN k m s a lm ls lg lp ∧ (0 : Int) = trE k m s a lm ls lg lp ∧ (0 : Int) = trA k m s a lm ls lg lp))) ∧
 ((m == (3 : Int)) = false →
 (((11 : Int) != (0 : Int)) = true →
 (0 : Int) = trM k m s a lm ls lg lp ∧
 (0 : Int) = trS k m s a lm ls lg lp ∧
 (0 : Int) = trG k m s a lm ls lg lp ∧
 List.length (trP k m s a lm ls lg lp) = (0 : Nat) ∧
 (0 : Int) = trN k m s a lm ls lg lp ∧ (11 : Int) = trE k m s a lm ls lg lp ∧ (0 : Int) = trA k m s a lm ls lg lp) ∧
 (((11 : Int) != (0 : Int)) = false →
 m = trM k m s a lm ls lg lp ∧
 (0 : Int) = trS k m s a lm ls lg lp ∧
 (0 : Int) = trG k m s a lm ls lg lp ∧
 List.length (trP k m s a lm ls lg lp) = (0 : Nat) ∧
 a = trN k m s a lm ls lg lp ∧ (0 : Int) = trE k m s a lm ls lg lp ∧ (0 : Int) = trA k m s a lm ls lg lp)))))))))
theorem treadE_e (k m : Int) (s : ByteArray) (a lm ls lg : Int) (lp : List Int) : treadE_t k m s a lm ls lg lp = vcG Tryz.prog (Gof GPb) (fun _ => none) Tryz.f15 [.v (.int .i64 k), .v (.int .i64 m), .v (.string s), .v (.int .i64 a), .ag [.v (.int .i64 lm), .v (.int .i64 ls), .v (.int .i64 lg), .dat (.ints .i64 lp)]] [] (.leaf ((.tu [.ag [.v (.int .i64 (trM k m s a lm ls lg lp)), .v (.int .i64 (trS k m s a lm ls lg lp)), .v (.int .i64 (trG k m s a lm ls lg lp)), .dat (.ints .i64 (trP k m s a lm ls lg lp))], .v (.int .i64 (trN k m s a lm ls lg lp)), .ag [.v (.int .i64 (trE k m s a lm ls lg lp)), .v (.int .i64 (trA k m s a lm ls lg lp))]])) ([])) := by kernel_rfl
def rtreadE_t (k m : Int) (s : ByteArray) (a lm ls lg : Int) (lp : List Int) : Prop :=
 (((kdE k == (0 : Int)) = true →
 (decide (a < (0 : Int)) = true →
 ∃ (x0 : Unit),
 True ∧
 k = k ∧
 m = m ∧
 s = s ∧
 a = a ∧
 grtI k = grtI k ∧
 (2 : Int) = trR k s a ∧
 lm = lm ∧
 ls = ls ∧
 lg = lg ∧
 lp = lp ∧
 (0 : Int) = (0 : Int) ∧
 (0 : Int) = (0 : Int) ∧
 (0 : Int) = (0 : Int) ∧ Value.slice none (0 : Nat) (0 : Nat) = Value.slice none (0 : Nat) (0 : Nat) ∧ (0 : Int) = (0 : Int) ∧ (0 : Int) = (0 : Int)) ∧
 (decide (a < (0 : Int)) = false →
 (decide (a > (↑(ByteArray.size s) : Int)) = true →
 ∃ (x1 : Unit),
 True ∧
 k = k ∧
 m = m ∧
 s = s ∧
 a = a ∧
 grtI k = grtI k ∧
 (2 : Int) = trR k s a ∧
 lm = lm ∧
 ls = ls ∧
 lg = lg ∧
 lp = lp ∧
 (0 : Int) = (0 : Int) ∧
 (0 : Int) = (0 : Int) ∧
 (0 : Int) = (0 : Int) ∧ Value.slice none (0 : Nat) (0 : Nat) = Value.slice none (0 : Nat) (0 : Nat) ∧ (0 : Int) = (0 : Int) ∧ (0 : Int) = (0 : Int)) ∧
 (decide (a > (↑(ByteArray.size s) : Int)) = false →
 ∃ (x2 : Unit),
 True ∧
 k = k ∧
 m = m ∧
 s = s ∧
 a = a ∧
 grtI k = grtI k ∧
 kdE k = trR k s a ∧
 lm = lm ∧
 ls = ls ∧
 lg = lg ∧
 lp = lp ∧
 (0 : Int) = (0 : Int) ∧
 (0 : Int) = (0 : Int) ∧
 (0 : Int) = (0 : Int) ∧ Value.slice none (0 : Nat) (0 : Nat) = Value.slice none (0 : Nat) (0 : Nat) ∧ (0 : Int) = (0 : Int) ∧ (0 : Int) = (0 : Int)))) ∧
 ((kdE k == (0 : Int)) = false →
 ∃ (x3 : Unit),
 True ∧
 k = k ∧
 m = m ∧
 s = s ∧
 a = a ∧
 grtI k = grtI k ∧
 kdE k = trR k s a ∧
 lm = lm ∧
 ls = ls ∧
 lg = lg ∧
 lp = lp ∧
 (0 : Int) = (0 : Int) ∧
 (0 : Int) = (0 : Int) ∧
 (0 : Int) = (0 : Int) ∧ Value.slice none (0 : Nat) (0 : Nat) = Value.slice none (0 : Nat) (0 : Nat) ∧ (0 : Int) = (0 : Int) ∧ (0 : Int) = (0 : Int))) ∧
 ∀ (x4 : Unit),
 True →
 (((trR k s a == (0 : Int)) = true →
 List.length lp ≤ (4294967296 : Nat) ∧
 ∃ (x5 : Unit),
 True ∧
 k = k ∧
 m = m ∧
 s = s ∧
 a = a ∧
 grtI k = grtI k ∧
 tbE k lm ls lg lp = trC k s a lm ls lg lp ∧
 lm = lm ∧
 ls = ls ∧
 lg = lg ∧
 lp = lp ∧
 (0 : Int) = (0 : Int) ∧
 (0 : Int) = (0 : Int) ∧
 (0 : Int) = (0 : Int) ∧ Value.slice none (0 : Nat) (0 : Nat) = Value.slice none (0 : Nat) (0 : Nat) ∧ (0 : Int) = (0 : Int) ∧ (0 : Int) = (0 : Int)) ∧
 ((trR k s a == (0 : Int)) = false →
 ∃ (x6 : Unit),
 True ∧
 k = k ∧
 m = m ∧
 s = s ∧
 a = a ∧
 grtI k = grtI k ∧
 trR k s a = trC k s a lm ls lg lp ∧
 lm = lm ∧
 ls = ls ∧
 lg = lg ∧
 lp = lp ∧
 (0 : Int) = (0 : Int) ∧
 (0 : Int) = (0 : Int) ∧
 (0 : Int) = (0 : Int) ∧ Value.slice none (0 : Nat) (0 : Nat) = Value.slice none (0 : Nat) (0 : Nat) ∧ (0 : Int) = (0 : Int) ∧ (0 : Int) = (0 : Int))) ∧
 ∀ (x7 : Unit),
 True →
 (((trC k s a lm ls lg lp == (0 : Int)) = true →
 (decide (m < (0 : Int)) = true →
 ∃ (x8 : Unit),
 True ∧
 k = k ∧
 m = m ∧
 s = s ∧
 a = a ∧
 grtI k = grtI k ∧
 (11 : Int) = trD k m s a lm ls lg lp ∧
 lm = lm ∧
 ls = ls ∧
 lg = lg ∧
 lp = lp ∧
 (0 : Int) = (0 : Int) ∧
 (0 : Int) = (0 : Int) ∧
 (0 : Int) = (0 : Int) ∧ Value.slice none (0 : Nat) (0 : Nat) = Value.slice none (0 : Nat) (0 : Nat) ∧ (0 : Int) = (0 : Int) ∧ (0 : Int) = (0 : Int)) ∧
 (decide (m < (0 : Int)) = false →
 (decide (m > (3 : Int)) = true →
 ∃ (x9 : Unit),
 True ∧
 k = k ∧
 m = m ∧
 s = s ∧
 a = a ∧
 grtI k = grtI k ∧
 (11 : Int) = trD k m s a lm ls lg lp ∧
 lm = lm ∧
 ls = ls ∧
 lg = lg ∧
 lp = lp ∧
 (0 : Int) = (0 : Int) ∧
 (0 : Int) = (0 : Int) ∧
 (0 : Int) = (0 : Int) ∧
 Value.slice none (0 : Nat) (0 : Nat) = Value.slice none (0 : Nat) (0 : Nat) ∧ (0 : Int) = (0 : Int) ∧ (0 : Int) = (0 : Int)) ∧
 (decide (m > (3 : Int)) = false →
 ∃ (x10 : Unit),
 True ∧
 k = k ∧
 m = m ∧
 s = s ∧
 a = a ∧
 grtI k = grtI k ∧
 trC k s a lm ls lg lp = trD k m s a lm ls lg lp ∧
 lm = lm ∧
 ls = ls ∧
 lg = lg ∧
 lp = lp ∧
 (0 : Int) = (0 : Int) ∧
 (0 : Int) = (0 : Int) ∧
 (0 : Int) = (0 : Int) ∧
 Value.slice none (0 : Nat) (0 : Nat) = Value.slice none (0 : Nat) (0 : Nat) ∧ (0 : Int) = (0 : Int) ∧ (0 : Int) = (0 : Int)))) ∧
 ((trC k s a lm ls lg lp == (0 : Int)) = false →
 ∃ (x11 : Unit),
 True ∧
 k = k ∧
 m = m ∧
 s = s ∧
 a = a ∧
 grtI k = grtI k ∧
 trC k s a lm ls lg lp = trD k m s a lm ls lg lp ∧
 lm = lm ∧
 ls = ls ∧
 lg = lg ∧
 lp = lp ∧
 (0 : Int) = (0 : Int) ∧
 (0 : Int) = (0 : Int) ∧
 (0 : Int) = (0 : Int) ∧ Value.slice none (0 : Nat) (0 : Nat) = Value.slice none (0 : Nat) (0 : Nat) ∧ (0 : Int) = (0 : Int) ∧ (0 : Int) = (0 : Int))) ∧
 ∀ (x12 : Unit),
 True →
 ((trD k m s a lm ls lg lp != (0 : Int)) = true →
 (0 : Int) = trM k m s a lm ls lg lp ∧
 (0 : Int) = trS k m s a lm ls lg lp ∧
 (0 : Int) = trG k m s a lm ls lg lp ∧
 List.length (trP k m s a lm ls lg lp) = (0 : Nat) ∧
 (0 : Int) = trN k m s a lm ls lg lp ∧ trD k m s a lm ls lg lp = trE k m s a lm ls lg lp ∧ (0 : Int) = trA k m s a lm ls lg lp) ∧
 ((trD k m s a lm ls lg lp != (0 : Int)) = false →
 ((m == (0 : Int)) = true →
 (0 : Int) = trM k m s a lm ls lg lp ∧
 (0 : Int) = trS k m s a lm ls lg lp ∧
 preL k = trG k m s a lm ls lg lp ∧
 preP k = trP k m s a lm ls lg lp ∧ a = trN k m s a lm ls lg lp ∧ (0 : Int) = trE k m s a lm ls lg lp ∧ (0 : Int) = trA k m s a lm ls lg lp) ∧
 ((m == (0 : Int)) = false →
 ((m == (1 : Int)) = true →
 ((a == (↑(ByteArray.size s) : Int)) = true →
 (0 : Int) = trM k m s a lm ls lg lp ∧
 (0 : Int) = trS k m s a lm ls lg lp ∧
 (0 : Int) = trG k m s a lm ls lg lp ∧
 List.length (trP k m s a lm ls lg lp) = (0 : Nat) ∧ (0 : Int) = trN k m s a lm ls lg lp ∧ (5 : Int) = trE k m s a lm ls lg lp ∧ a = trA k m s a lm ls lg lp) ∧
 ((a == (↑(ByteArray.size s) : Int)) = false →
 (0 : Int) ≤ a ∧
 a < (↑(ByteArray.size s) : Int) ∧
 (decide (IntKind.wrap IntKind.i64 (↑(UInt8.toNat (List.getD s.data.toList (Int.toNat a) (0 : UInt8))) : Int) > mostI k) = true →
 (0 : Int) = trM k m s a lm ls lg lp ∧
 (0 : Int) = trS k m s a lm ls lg lp ∧
 (0 : Int) = trG k m s a lm ls lg lp ∧
 List.length (trP k m s a lm ls lg lp) = (0 : Nat) ∧
 (0 : Int) = trN k m s a lm ls lg lp ∧ (24 : Int) = trE k m s a lm ls lg lp ∧ a = trA k m s a lm ls lg lp) ∧
 (decide (IntKind.wrap IntKind.i64 (↑(UInt8.toNat (List.getD s.data.toList (Int.toNat a) (0 : UInt8))) : Int) > mostI k) = false →
 (0 : Int) ≤ a ∧
 a < (↑(ByteArray.size s) : Int) ∧
 (1 : Int) = trM k m s a lm ls lg lp ∧
 IntKind.wrap IntKind.i64 (↑(UInt8.toNat (List.getD s.data.toList (Int.toNat a) (0 : UInt8))) : Int) = trS k m s a lm ls lg lp ∧
 (0 : Int) = trG k m s a lm ls lg lp ∧
 List.length (trP k m s a lm ls lg lp) = (0 : Nat) ∧
 IntKind.wrap IntKind.i64 (a + (1 : Int)) = trN k m s a lm ls lg lp ∧
 (0 : Int) = trE k m s a lm ls lg lp ∧ (0 : Int) = trA k m s a lm ls lg lp))) ∧
 ((m == (1 : Int)) = false →
 ((m == (2 : Int)) = true →
 ByteArray.size s ≤ (1000000 : Nat) ∧
 (((readF (600 : Int) s a (grtI k) (IntKind.wrap IntKind.i64 (mostI k + (1 : Int)))).snd.snd.fst != (0 : Int)) = true →
 (0 : Int) = trM k m s a lm ls lg lp ∧
 (0 : Int) = trS k m s a lm ls lg lp ∧
 (0 : Int) = trG k m s a lm ls lg lp ∧
 List.length (trP k m s a lm ls lg lp) = (0 : Nat) ∧
 (0 : Int) = trN k m s a lm ls lg lp ∧
 (readF (600 : Int) s a (grtI k) (IntKind.wrap IntKind.i64 (mostI k + (1 : Int)))).snd.snd.fst = trE k m s a lm ls lg lp ∧
 (readF (600 : Int) s a (grtI k) (IntKind.wrap IntKind.i64 (mostI k + (1 : Int)))).snd.snd.snd = trA k m s a lm ls lg lp) ∧
 (((readF (600 : Int) s a (grtI k) (IntKind.wrap IntKind.i64 (mostI k + (1 : Int)))).snd.snd.fst != (0 : Int)) = false →
 (2 : Int) = trM k m s a lm ls lg lp ∧
 (0 : Int) = trS k m s a lm ls lg lp ∧
 (readF (600 : Int) s a (grtI k) (IntKind.wrap IntKind.i64 (mostI k + (1 : Int)))).fst.fst = trG k m s a lm ls lg lp ∧
 (readF (600 : Int) s a (grtI k) (IntKind.wrap IntKind.i64 (mostI k + (1 : Int)))).fst.snd = trP k m s a lm ls lg lp ∧
 (readF (600 : Int) s a (grtI k) (IntKind.wrap IntKind.i64 (mostI k + (1 : Int)))).snd.fst = trN k m s a lm ls lg lp ∧
 (0 : Int) = trE k m s a lm ls lg lp ∧ (0 : Int) = trA k m s a lm ls lg lp)) ∧
 ((m == (2 : Int)) = false →
 ((lm == (-1 : Int)) = true →
 (0 : Int) = trM k m s a lm ls lg lp ∧
 (0 : Int) = trS k m s a lm ls lg lp ∧
 (0 : Int) = trG k m s a lm ls lg lp ∧
 List.length (trP k m s a lm ls lg lp) = (0 : Nat) ∧
 (0 : Int) = trN k m s a lm ls lg lp ∧ (26 : Int) = trE k m s a lm ls lg lp ∧ a = trA k m s a lm ls lg lp) ∧
 ((lm == (-1 : Int)) = false →
 lm = trM k m s a lm ls lg lp ∧
 ls = trS k m s a lm ls lg lp ∧
 lg = trG k m s a lm ls lg lp ∧
 lp = trP k m s a lm ls lg lp ∧ a = trN k m s a lm ls lg lp ∧ (0 : Int) = trE k m s a lm ls lg lp ∧ (0 : Int) = trA k m s a lm ls lg lp)))))
theorem rtreadE_e (k m : Int) (s : ByteArray) (a lm ls lg : Int) (lp : List Int) : rtreadE_t k m s a lm ls lg lp = vcG Tryz.prog (Gof GPb) (oTr k m s a lm ls lg lp) Tryz.f16 [.v (.int .i64 k), .v (.int .i64 m), .v (.string s), .v (.int .i64 a), .ag [.v (.int .i64 lm), .v (.int .i64 ls), .v (.int .i64 lg), .dat (.ints .i64 lp)]] [] (.leaf ((.tu [.ag [.v (.int .i64 (trM k m s a lm ls lg lp)), .v (.int .i64 (trS k m s a lm ls lg lp)), .v (.int .i64 (trG k m s a lm ls lg lp)), .dat (.ints .i64 (trP k m s a lm ls lg lp))], .v (.int .i64 (trN k m s a lm ls lg lp)), .ag [.v (.int .i64 (trE k m s a lm ls lg lp)), .v (.int .i64 (trA k m s a lm ls lg lp))]])) ([])) := by kernel_rfl
end Go.Proofs.YtcoogfifjibkhaaGreat
namespace Go.Proofs.YtcoogfifjibkhaaGreat
open Go Go.RowKit
set_option linter.unusedVariables false
set_option linter.unusedSimpArgs false
set_option maxRecDepth 100000
theorem bne0 {a : Int} (h : (a != 0) = true) : (a == 0) = false := by simpa using h
theorem bne1 {a : Int} (h : (a != 0) = false) : a = 0 := by simpa using h
theorem beq1 {a b : Int} (h : (a == b) = true) : a = b := by simpa using h
theorem beq2 {a b : Int} (h : (a == b) = false) : a ≠ b := by simpa using h
theorem beqF {a b : Int} (h : a ≠ b) : (a == b) = false := by simpa using h
theorem most_bd (k : Int) : 0 ≤ mostI k ∧ mostI k ≤ 52 := by
  unfold mostI
  cases k == 0 <;> cases k == 1 <;> cases k == 2 <;> simp only [cond_true, cond_false] <;> omega
theorem kd_ok0 {k : Int} (h : kdE k = 0) : k = 0 ∨ k = 1 ∨ k = 2 := by
  apply Classical.byContradiction
  intro hn
  rw [(kd_out hn).1] at h
  cases h
theorem grt_at {k : Int} (h : kdE k = 0) : [(9 : Int), 8, 9].getD k.toNat 0 = grtI k := by
  rcases kd_ok0 h with rfl | rfl | rfl <;> rfl
theorem grtRE_v (k : Int) : grtRE_t k := by
  unfold grtRE_t
  by_cases h0 : k = 0
  · subst h0; simp [grtI, kdE]
  by_cases h1 : k = 1
  · subst h1; simp [grtI, kdE]
  by_cases h2 : k = 2
  · subst h2; simp [grtI, kdE]
  obtain ⟨a, b, c⟩ := kd_out (k := k) (by omega)
  rw [a, c, beqF h0, beqF h1, beqF h2]
  simp
theorem empE_v (g : Int) (p : List Int) : empE_t g p := by
  unfold empE_t emD
  have e : ((p.length : Int) == 0) = Nat.beq p.length 0 := by
    cases p with
    | nil => rfl
    | cons x r => rw [List.length_cons, beqF (by omega)]; rfl
  refine ⟨fun h => ?_, fun h => ?_⟩ <;> rw [h]
  · rw [Bool.true_and]; exact e
  · rfl
theorem rempE_v (g : Int) (p : List Int) : rempE_t g p := empE_v g p
theorem sadE_v (g : Int) (p : List Int) (h : Int) (q : List Int) (hp : p.length ≤ 4294967296) : sadE_t g p h q := by
  unfold sadE_t saD
  refine ⟨fun h => ?_, fun h => ?_⟩ <;> rw [h]
  · exact ⟨hp, (Bool.true_and _).symm⟩
  · rfl
theorem probE_v (g : Int) (p : List Int) (s : Int) (h : 0 ≤ s) : probE_t g p s := by
  unfold probE_t
  refine ⟨fun hx => ?_, fun hx => ?_⟩
  · have hx : (p.length : Int) ≤ s := by simpa using hx
    rw [List.getD_eq_getElem?_getD, List.getElem?_eq_none (by omega)]
    rfl
  · have hx : ¬ (p.length : Int) ≤ s := by simpa using hx
    exact ⟨h, by omega, (by first | rfl | trivial)⟩
theorem grtRE_sound : Sound Tryz.prog 31 sGrtR.ctr := sGrtR.sound (by kernel_rfl) sGrtR_enc fun k hc => by
  exact satG GKe_ok mixed Tryz.func31 (grtRE_e k) (grtRE_v k)
theorem empE_sound : Sound Tryz.prog 52 sEmp.ctr := sEmp.sound (by kernel_rfl) sEmp_enc fun ⟨g, p⟩ hc => by
  exact satG GKe_ok mixed Tryz.func52 (empE_e g p) (empE_v g p)
theorem rempE_sound : Sound Tryz.prog 60 sEmp.ctr := sEmp.sound (by kernel_rfl) sEmp_enc fun ⟨g, p⟩ hc => by
  exact satG GKe_ok mixed Tryz.func60 (rempE_e g p) (rempE_v g p)
theorem sadE_sound : Sound Tryz.prog 51 sSaD.ctr := sSaD.sound (by kernel_rfl) sSaD_enc fun ⟨g, p, h, q⟩ hc => by
  have h0 := hc _ (.head _)
  exact satG GKe_ok mixed Tryz.func51 (sadE_e g p h q) (sadE_v g p h q h0)
theorem probE_sound : Sound Tryz.prog 42 sProb.ctr := sProb.sound (by kernel_rfl) sProb_enc fun ⟨g, p, s⟩ hc => by
  have h0 := hc _ (.head _)
  exact satG GKe_ok mixed Tryz.func42 (probE_e g p s) (probE_v g p s h0)
theorem tbcE_v (k m s g : Int) (p : List Int) (hp : p.length ≤ 4294967296) : tbcE_t k m s g p := by
  obtain ⟨m0, m1⟩ := most_bd k
  unfold tbcE_t tbE
  rw [wr (n := mostI k + 1) (by omega) (by omega)]
  refine ⟨fun h => by rw [bne0 h]; rfl, fun h => ?_⟩
  have hk := bne1 h
  have hkk := kd_ok0 hk
  rw [hk, grt_at hk]
  refine ⟨fun hm => ?_, fun hm => ⟨fun hm1 => ?_, fun hm1 => ⟨fun hm2 => ?_, fun hm2 => ⟨fun hm3 => ?_, fun hm3 => ?_⟩⟩⟩⟩
  · rw [hm]
    unfold tb0
    refine ⟨fun hs => ?_, fun hs => by rw [hs]; rfl⟩
    rw [hs]
    refine ⟨hp, fun h => ?_, fun h => ?_⟩
    · rw [show saD g p (preL k) (preP k) = false by simpa using h]; rfl
    · rw [show saD g p (preL k) (preP k) = true by simpa using h]; rfl
  · rw [hm, hm1]
    unfold tb1
    refine ⟨fun hs => by rw [hs]; rfl, fun hs => ⟨fun ht => ?_, fun ht => ⟨fun h => ?_, fun h => ?_⟩⟩⟩
    · rw [hs, show decide (mostI k < s) = true from ht]; rfl
    · rw [hs, show decide (mostI k < s) = false from ht, show emD g p = false by simpa using h]; rfl
    · rw [hs, show decide (mostI k < s) = false from ht, show emD g p = true by simpa using h]; rfl
  · rw [hm, hm1, hm2]
    unfold tb2
    refine ⟨hp, fun h => by rw [bne0 h]; rfl, fun h => ⟨by omega, by omega, (by first | rfl | trivial), fun ha => ?_, fun ha => ⟨fun hb => ?_, fun hb => ⟨fun hc => ?_, fun hc => ?_⟩⟩⟩⟩
    · rw [bne1 h, show decide (grtI k < g) = true from ha]; rfl
    · rw [bne1 h, show decide (grtI k < g) = false from ha, show decide (mostI k + 1 < (p.length : Int)) = true from hb]; rfl
    · rw [bne1 h, show decide (grtI k < g) = false from ha, show decide (mostI k + 1 < (p.length : Int)) = false from hb, show (s == 0) = false by simpa using hc]; rfl
    · rw [bne1 h, show decide (grtI k < g) = false from ha, show decide (mostI k + 1 < (p.length : Int)) = false from hb, show (s == 0) = true by simpa using hc]; rfl
  · rw [hm, hm1, hm2, hm3]
    unfold tbN
    refine ⟨fun hs => ?_, fun hs => by rw [hs]; rfl⟩
    rw [hs]
    refine ⟨fun h => ?_, fun h => ?_⟩
    · rw [show emD g p = false by simpa using h]; rfl
    · rw [show emD g p = true by simpa using h]; rfl
  · rw [hm, hm1, hm2, hm3]; rfl
theorem satE_v (m s g : Int) (p : List Int) (n t h : Int) (q : List Int) (hp : p.length ≤ 4294967296) : satE_t m s g p n t h q := by
  unfold satE_t
  have bad : (m ≠ n ∨ s ≠ t ∨ g ≠ h ∨ p ≠ q) → false = saT m s g p n t h q := by
    intro hx
    cases hb : saT m s g p n t h q
    · rfl
    · unfold saT saD eqI at hb
      simp only [Bool.and_eq_true, beq_iff_eq] at hb
      obtain ⟨a, b, c, d⟩ := hb
      rcases hx with hx | hx | hx | hx
      · exact absurd a hx
      · exact absurd b hx
      · exact absurd c hx
      · exact absurd d hx
  refine ⟨fun hx => bad (.inl (by simpa using hx)), fun hm => ⟨fun hx => bad (.inr (.inl (by simpa using hx))), fun hs => ⟨fun hx => bad (.inr (.inr (.inl (by simpa using hx)))), fun hg => ⟨fun hx => bad (.inr (.inr (.inr fun e => ?_))), fun hl => ?_⟩⟩⟩⟩
  · subst e; simp at hx
  have hm : m = n := by simpa using hm
  have hs : s = t := by simpa using hs
  have hg : g = h := by simpa using hg
  have hl : p.length = q.length := by simp at hl; omega
  simp only [toNat_cast]
  refine ⟨⟨0, ⟨Nat.zero_le _, (by first | rfl | trivial), hl, hm, hs, hg⟩, (by first | rfl | trivial), (by first | rfl | trivial), (by first | rfl | trivial), (by first | rfl | trivial), (by first | rfl | trivial), (by first | rfl | trivial), (by first | rfl | trivial), (by first | rfl | trivial), (by first | rfl | trivial)⟩, fun i ⟨hi, he, _⟩ => ⟨fun hlt => ?_, fun hge => ?_⟩⟩
  · have hlt : i < p.length := by simpa using hlt
    refine ⟨by omega, by omega, by omega, by omega, fun hx => bad (.inr (.inr (.inr fun e => ?_))), fun hx => ⟨i + 1, ⟨by omega, ?_, hl, hm, hs, hg⟩, by rw [Nat.sub_eq, Nat.sub_eq]; omega, cnt_wrap64 (by omega), (by first | rfl | trivial), (by first | rfl | trivial), (by first | rfl | trivial), (by first | rfl | trivial), (by first | rfl | trivial), (by first | rfl | trivial), (by first | rfl | trivial), (by first | rfl | trivial)⟩⟩
    · subst e; simp at hx
    · rw [take_succ p 0 hlt, take_succ q 0 (by omega), he, show p.getD i 0 = q.getD i 0 by simpa using hx]
  · have hge : i = p.length := by simp at hge; omega
    rw [hge, List.take_length, hl, List.take_length] at he
    subst hm hs hg he
    unfold saT saD eqI
    simp
theorem rtbcE_v (k m s g : Int) (p : List Int) (hp : p.length ≤ 4294967296) : rtbcE_t k m s g p := by
  obtain ⟨m0, m1⟩ := most_bd k
  unfold rtbcE_t tbE
  rw [wr (n := mostI k + 1) (by omega) (by omega)]
  refine ⟨fun h => ?_, fun h => ?_⟩
  · rw [bne0 h]
    rcases Classical.em (k = 0 ∨ k = 1 ∨ k = 2) with hk | hk
    · rw [kd_in hk] at h; cases h
    · exact (kd_out hk).1
  have hk := bne1 h
  rw [hk]
  refine ⟨fun hm3 => ?_, fun hm3 => ⟨fun hm => ?_, fun hm => ⟨fun hm1 => ?_, fun hm1 => ⟨fun hm2 => ?_, fun hm2 => ?_⟩⟩⟩⟩
  · have e := beq1 hm3
    subst e
    unfold tbN
    refine ⟨fun hs => ?_, fun hs => ⟨fun h => ?_, fun h => ?_⟩⟩
    · rw [bne0 hs]; rfl
    · rw [bne1 hs, show emD g p = false by simpa using h]; rfl
    · rw [bne1 hs, show emD g p = true by simpa using h]; rfl
  · have e := beq1 hm
    subst e
    unfold tb0
    have e0 : saT 0 s g p 0 0 (preL k) (preP k) = ((s == 0) && saD g p (preL k) (preP k)) := rfl
    rw [e0]
    cases hx : ((s == 0) && saD g p (preL k) (preP k))
    · exact ⟨hp, fun _ => rfl, fun h => (by cases h)⟩
    · exact ⟨hp, fun h => (by cases h), fun _ => rfl⟩
  · rw [hm, hm1]
    unfold tb1
    refine ⟨fun hs => by rw [hs]; rfl, fun hs => ⟨fun ht => ?_, fun ht => ⟨fun h => ?_, fun h => ?_⟩⟩⟩
    · rw [hs, show decide (mostI k < s) = true from ht]; rfl
    · rw [hs, show decide (mostI k < s) = false from ht, show emD g p = false by simpa using h]; rfl
    · rw [hs, show decide (mostI k < s) = false from ht, show emD g p = true by simpa using h]; rfl
  · rw [hm, hm1, hm2]
    unfold tb2
    refine ⟨hp, fun h => by rw [bne0 h]; rfl, fun h => ⟨fun ha => ?_, fun ha => ⟨fun hb => ?_, fun hb => ⟨fun hc => ?_, fun hc => ?_⟩⟩⟩⟩
    · rw [bne1 h, show decide (grtI k < g) = true from ha]; rfl
    · rw [bne1 h, show decide (grtI k < g) = false from ha, show decide (mostI k + 1 < (p.length : Int)) = true from hb]; rfl
    · rw [bne1 h, show decide (grtI k < g) = false from ha, show decide (mostI k + 1 < (p.length : Int)) = false from hb, bne0 hc]; rfl
    · rw [bne1 h, show decide (grtI k < g) = false from ha, show decide (mostI k + 1 < (p.length : Int)) = false from hb, bne1 hc]; rfl
  · rw [hm, hm1, hm2, hm3]; rfl
theorem cosC_take {g : Int} {p l : List Int} {i : Nat} (h : i < l.length) : cosC g p 0 (l.take (i + 1)) = cosC g p 0 (l.take i) + cond (l.getD i 0 == 0) 0 (cosOne g p i (l.getD i 0)) := by
  rw [take_succ l 0 h, cosC_app]
  have e : 0 + (l.take i).length = i := by rw [List.length_take]; omega
  rw [e]
  show _ + cond (l.getD i 0 == 0) 0 (cosOne g p i (l.getD i 0) + 0) = _
  cases l.getD i 0 == 0
  · simp only [cond_false]; omega
  · rfl
theorem cosM_take {p l : List Int} {i : Nat} (h : i < l.length) : cosM p 0 (l.take (i + 1)) = (cosM p 0 (l.take i) || (!(l.getD i 0 == 0) && cosB p i)) := by
  rw [take_succ l 0 h, cosM_app]
  have e : 0 + (l.take i).length = i := by rw [List.length_take]; omega
  rw [e]
  show (_ || ((!(l.getD i 0 == 0) && cosB p i) || false)) = _
  rw [Bool.or_false]
theorem cosM_bad {p l : List Int} {i : Nat} (h : i < l.length) (hn : (l.getD i 0 == 0) = false) (hb : cosB p i = true) : cosM p 0 l = true := by
  have e : l = l.take (i + 1) ++ l.drop (i + 1) := (List.take_append_drop _ _).symm
  rw [e, cosM_app, cosM_take h, hn, hb]
  simp
structure OkA (l : List Int) : Prop where
  len : l.length ≤ 256
  nn : ∀ x ∈ l, 0 ≤ x
  sum : sumI l ≤ 1099511627776
theorem chA0 {l : List Int} (h : chA l = 0) : OkA l := by
  unfold chA at h
  cases h1 : decide (256 < l.length)
  · rw [h1, cond_false] at h
    cases h2 : okA l
    · rw [h2] at h; cases h
    · obtain ⟨a, b⟩ := okA_iff.1 h2
      simp only [decide_eq_false_iff_not] at h1
      exact ⟨by omega, fun x hx => (a x hx).1, b⟩
  · rw [h1] at h; cases h
theorem cosC_bd {g : Int} {p l : List Int} (hd : dchk g p = 0) (hc : OkA l) : ∀ i, i ≤ l.length → cosM p 0 (l.take i) = false → 0 ≤ cosC g p 0 (l.take i) ∧ cosC g p 0 (l.take i) ≤ 12 * sumI (l.take i)
  | 0, _, _ => by simp [cosC, sumI]
  | i + 1, hi, hm => by
    rw [cosM_take (by omega)] at hm
    simp only [Bool.or_eq_false_iff] at hm
    have ih := cosC_bd hd hc i (by omega) hm.1
    have hx := hc.nn _ (getD_mem' (show i < l.length by omega))
    rw [cosC_take (by omega), sumI_take (by omega)]
    cases hz : l.getD i 0 == 0
    · have hm2 := hm.2
      rw [hz] at hm2
      have hb : cosB p i = false := by simpa using hm2
      unfold cosB at hb
      have h0 := beq2 hb
      have hs : i < p.length := by
        apply Nat.lt_of_not_le
        intro hle
        apply h0
        rw [List.getD_eq_getElem?_getD, List.getElem?_eq_none hle]; rfl
      have := cosOne_bd (g := g) hd hs h0 hx
      simp only [cond_false]
      omega
    · have := beq1 hz
      simp only [cond_true]
      omega
theorem one_wr {g : Int} {p : List Int} (hd : dchk g p = 0) {s : Nat} (h0 : (p.getD s 0 == 0) = false) {n : Int} (hn : 0 ≤ n) (hn2 : n ≤ 1099511627776) :
    IntKind.wrap IntKind.i64 (n * IntKind.wrap IntKind.i64 (g - hiI (max 1 (p.getD s 0)))) = cosOne g p s n ∧ 0 ≤ cosOne g p s n ∧ cosOne g p s n ≤ n * 12 := by
  have h0 := beq2 h0
  have hs : s < p.length := by
    apply Nat.lt_of_not_le
    intro hle
    apply h0
    rw [List.getD_eq_getElem?_getD, List.getElem?_eq_none hle]; rfl
  have a := cosOne_bd (g := g) hd hs h0 hn
  have b := cosOne_bd (g := g) hd hs h0 (n := 1) (by omega)
  refine ⟨?_, a⟩
  have e : cosOne g p s n = n * (g - hiI (max 1 (p.getD s 0))) := rfl
  have e1 : cosOne g p s 1 = 1 * (g - hiI (max 1 (p.getD s 0))) := rfl
  rw [wr (n := g - hiI (max 1 (p.getD s 0))) (by omega) (by omega), ← e, wr (by omega) (by omega)]
theorem costE_v (g : Int) (p l : List Int) (hp : p.length ≤ 4294967296) (hl : l.length ≤ 4294967296) : costE_t g p l := by
  unfold costE_t coN coE
  refine ⟨hp, fun h => by rw [bne0 h]; exact ⟨by simp only [cond_false]; rw [bne0 h]; rfl, rfl⟩, fun h => ?_⟩
  have hd := bne1 h
  rw [hd]
  refine ⟨hl, fun h => by rw [bne0 h]; exact ⟨by simp only [cond_false, BEq.rfl, cond_true]; rw [bne0 h]; rfl, rfl⟩, fun h => ?_⟩
  have hc := bne1 h
  rw [hc]
  have hk := chA0 hc
  have hlen := hk.len
  have hsum := hk.sum
  have hD := dchk0 hd
  simp only [toNat_cast]
  refine ⟨⟨0, ⟨Nat.zero_le _, (by first | rfl | trivial), (by first | rfl | trivial), (by first | rfl | trivial)⟩, (by first | rfl | trivial), (by first | rfl | trivial), (by first | rfl | trivial), (by first | rfl | trivial), (by first | rfl | trivial), (by first | rfl | trivial)⟩, fun i ⟨hi, hm, _, _⟩ => ⟨fun hlt => ?_, fun hge => ?_⟩⟩
  · have hlt : i < l.length := by simpa using hlt
    have hx := hk.nn _ (getD_mem' hlt)
    have hx2 := mem_sum hk.nn _ (getD_mem' hlt)
    have hb := cosC_bd (g := g) hd hk i hi hm
    have hsi := sumI_le hk.nn i
    refine ⟨by omega, by omega, fun hz => ⟨i + 1, ⟨by omega, ?_, (by first | rfl | trivial), (by first | rfl | trivial)⟩, by rw [Nat.sub_eq, Nat.sub_eq]; omega, ?_, (by first | rfl | trivial), (by first | rfl | trivial), cnt_wrap (by omega), (by first | rfl | trivial), (by first | rfl | trivial)⟩, fun hz => ⟨by omega, fun hq => ?_, fun hq => ?_⟩⟩
    · rw [cosM_take hlt, hm, hz]; rfl
    · rw [cosC_take hlt, hz]; simp only [cond_true]; omega
    · rw [cosM_bad hlt hz hq]; exact ⟨rfl, rfl⟩
    · obtain ⟨e, o1, o2⟩ := one_wr (g := g) hd hq hx (by omega)
      have hp : i < p.length := by
        apply Nat.lt_of_not_le
        intro hle
        apply beq2 hq
        rw [List.getD_eq_getElem?_getD, List.getElem?_eq_none hle]; rfl
      have hpm := pts_mem (getD_mem' hp)
      have hps := hD.sum
      have hup : (2 : Int) ^ g.toNat ≤ 4096 := by
        have := hD.g12
        exact (pw12 (i := g.toNat) (by omega)).2
      have hlo := hD.lo _ (getD_mem' hp)
      have hmx := max_pt hlo (beq2 hq)
      have hne := beq2 hq
      have fin : IntKind.wrap IntKind.i64 (cosC g p 0 (l.take i) + cosOne g p i (l.getD i 0)) = cosC g p 0 (l.take (i + 1)) := by
        rw [cosC_take hlt, hz, wr (by omega) (by omega)]; rfl
      have mk : cosM p 0 (l.take (i + 1)) = false := by rw [cosM_take hlt, hm, hz, show cosB p i = false from hq]; rfl
      refine ⟨fun hneg => ⟨by omega, i + 1, ⟨by omega, mk, (by first | rfl | trivial), (by first | rfl | trivial)⟩, by rw [Nat.sub_eq, Nat.sub_eq]; omega, ?_, (by first | rfl | trivial), (by first | rfl | trivial), cnt_wrap (by omega), (by first | rfl | trivial), (by first | rfl | trivial)⟩, fun hpos => ⟨?_, i + 1, ⟨by omega, mk, (by first | rfl | trivial), (by first | rfl | trivial)⟩, by rw [Nat.sub_eq, Nat.sub_eq]; omega, ?_, (by first | rfl | trivial), (by first | rfl | trivial), cnt_wrap (by omega), (by first | rfl | trivial), (by first | rfl | trivial)⟩⟩
      · simp only [decide_eq_true_eq] at hneg
        rw [show max 1 (p.getD i 0) = 1 by omega] at e
        rw [e]; exact fin
      · simp only [decide_eq_false_iff_not] at hpos
        have : pt (p.getD i 0) = p.getD i 0 := by rw [← hmx]; omega
        omega
      · simp only [decide_eq_false_iff_not] at hpos
        rw [show max 1 (p.getD i 0) = p.getD i 0 by omega] at e
        rw [e]; exact fin
  · have hge : i = l.length := by simp at hge; omega
    rw [hge, List.take_length] at hm ⊢
    rw [hm]; exact ⟨rfl, rfl⟩
theorem grt0E_v : grt0E_t := ⟨rfl, rfl, rfl⟩
theorem grt0E_sound : Sound Tryz.prog 27 sGrt0.ctr := sGrt0.sound (by kernel_rfl) sGrt0_enc fun _ hc => by
  exact satG GKe_ok mixed Tryz.func27 (grt0E_e ) (grt0E_v)
theorem satE_sound : Sound Tryz.prog 61 sSaT.ctr := sSaT.sound (by kernel_rfl) sSaT_enc fun ⟨m, s, g, p, n, t, h, q⟩ hc => by
  have h0 := hc _ (.head _)
  exact satG GKe_ok mixed Tryz.func61 (satE_e m s g p n t h q) (satE_v m s g p n t h q h0)
theorem badE_sound : Sound Tryz.prog 47 sBad.ctr := sBad.sound (by kernel_rfl) sBad_enc fun ⟨e, a⟩ hc => by
  exact satG GKe_ok mixed Tryz.func47 (badE_e e a) ((by unfold badE_t; rfl))
theorem GPa_ok : AllOk Tryz.prog GPa := .cons grt0E_sound <| .cons grtRE_sound <| .cons empE_sound <| .cons rempE_sound <| .cons sadE_sound <| .cons satE_sound <| .cons probE_sound <| .cons badE_sound <| .cons chAE_sound <| GKe_ok
theorem tbcE_sound : Sound Tryz.prog 21 sTbC.ctr := sTbC.sound (by kernel_rfl) sTbC_enc fun ⟨k, m, s, g, p⟩ hc => by
  have h0 := hc _ (.head _)
  exact satG GPa_ok mixed Tryz.func21 (tbcE_e k m s g p) (tbcE_v k m s g p h0)
theorem rtbcE_sound : Sound Tryz.prog 34 sTbC.ctr := sTbC.sound (by kernel_rfl) sTbC_enc fun ⟨k, m, s, g, p⟩ hc => by
  have h0 := hc _ (.head _)
  exact satG GPa_ok mixed Tryz.func34 (rtbcE_e k m s g p) (rtbcE_v k m s g p h0)
theorem costE_sound : Sound Tryz.prog 12 sCost.ctr := sCost.sound (by kernel_rfl) sCost_enc fun ⟨g, p, l⟩ hc => by
  have h0 := hc _ (.head _)
  have h1 := hc _ (.tail _ (.head _))
  exact satG GPa_ok mixed Tryz.func12 (costE_e g p l) (costE_v g p l h0 h1)
theorem GPb_ok : AllOk Tryz.prog GPb := .cons tbcE_sound <| .cons rtbcE_sound <| .cons costE_sound <| GPa_ok
end Go.Proofs.YtcoogfifjibkhaaGreat
namespace Go.Proofs.YtcoogfifjibkhaaGreat
open Go Go.RowKit
set_option linter.unusedVariables false
set_option linter.unusedSimpArgs false
set_option maxRecDepth 100000
section
variable {k m : Int} {s : ByteArray} {a lm ls lg : Int} {lp : List Int}
theorem tr_zero (h : trB k m s a lm ls lg lp = false) : (0 : Int) = trM k m s a lm ls lg lp ∧ (0 : Int) = trS k m s a lm ls lg lp ∧ (0 : Int) = trG k m s a lm ls lg lp ∧ (trP k m s a lm ls lg lp).length = 0 ∧ (0 : Int) = trN k m s a lm ls lg lp := by
  unfold trM trS trG trP trN
  rw [h]
  exact ⟨rfl, rfl, rfl, rfl, rfl⟩
theorem tr_pre {e : Int} (hc : trC k s a lm ls lg lp = e) (he : e ≠ 0) : (0 : Int) = trM k m s a lm ls lg lp ∧ (0 : Int) = trS k m s a lm ls lg lp ∧ (0 : Int) = trG k m s a lm ls lg lp ∧ (trP k m s a lm ls lg lp).length = 0 ∧ (0 : Int) = trN k m s a lm ls lg lp ∧ e = trE k m s a lm ls lg lp ∧ (0 : Int) = trA k m s a lm ls lg lp := by
  have hE : trE k m s a lm ls lg lp = e := by unfold trE; rw [hc, beqF he]; rfl
  obtain ⟨h1, h2, h3, h4, h5⟩ := tr_zero (k := k) (m := m) (s := s) (a := a) (lm := lm) (ls := ls) (lg := lg) (lp := lp) (by unfold trB; rw [hE, beqF he])
  exact ⟨h1, h2, h3, h4, h5, hE.symm, by unfold trA; rw [hc, beqF he]; rfl⟩
theorem tr_mid {e y : Int} (hc : trC k s a lm ls lg lp = 0) (hx : trX k m s a lm = e) (hy : trY k m s a lm = y) (he : e ≠ 0) : (0 : Int) = trM k m s a lm ls lg lp ∧ (0 : Int) = trS k m s a lm ls lg lp ∧ (0 : Int) = trG k m s a lm ls lg lp ∧ (trP k m s a lm ls lg lp).length = 0 ∧ (0 : Int) = trN k m s a lm ls lg lp ∧ e = trE k m s a lm ls lg lp ∧ y = trA k m s a lm ls lg lp := by
  have hE : trE k m s a lm ls lg lp = e := by unfold trE; rw [hc, hx]; rfl
  obtain ⟨h1, h2, h3, h4, h5⟩ := tr_zero (k := k) (m := m) (s := s) (a := a) (lm := lm) (ls := ls) (lg := lg) (lp := lp) (by unfold trB; rw [hE, beqF he])
  exact ⟨h1, h2, h3, h4, h5, hE.symm, by unfold trA; rw [hc, hy]; rfl⟩
theorem tr_good (hc : trC k s a lm ls lg lp = 0) (hx : trX k m s a lm = 0) : trB k m s a lm ls lg lp = true ∧ (0 : Int) = trE k m s a lm ls lg lp ∧ (0 : Int) = trA k m s a lm ls lg lp := by
  have hE : trE k m s a lm ls lg lp = 0 := by unfold trE; rw [hc, hx]; rfl
  refine ⟨by unfold trB; rw [hE]; rfl, hE.symm, ?_⟩
  unfold trA trY
  rw [hc, hx]; rfl
theorem trC_ok (h : trC k s a lm ls lg lp = 0) : kdE k = 0 ∧ 0 ≤ a ∧ a ≤ (s.size : Int) ∧ tbE k lm ls lg lp = 0 := by
  unfold trC at h
  cases h1 : kdE k == 0
  · rw [h1] at h; cases h
  · rw [h1, cond_true] at h
    cases h2 : decide (a < 0) || decide ((s.size : Int) < a)
    · rw [h2, cond_false] at h
      simp only [Bool.or_eq_false_iff, decide_eq_false_iff_not] at h2
      exact ⟨beq1 h1, by omega, by omega, h⟩
    · rw [h2] at h; cases h
end
theorem treadE_v (k m : Int) (s : ByteArray) (a lm ls lg : Int) (lp : List Int) (hs : s.size ≤ 700) (hl : lp.length ≤ 4294967296) : treadE_t k m s a lm ls lg lp := by
  obtain ⟨m0, m1⟩ := most_bd k
  unfold treadE_t
  rw [wr (n := mostI k + 1) (by omega) (by omega)]
  refine ⟨fun h => ?_, fun h => ?_⟩
  · exact tr_pre (by unfold trC; rw [bne0 h]; rfl) (by omega)
  have hk := bne1 h
  have hkk := kd_ok0 hk
  rw [grt_at hk]
  refine ⟨fun ha => ?_, fun ha => ⟨fun hb => ?_, fun hb => ⟨hl, fun ht => ?_, fun ht => ?_⟩⟩⟩
  · exact tr_pre (by unfold trC; rw [hk, ha]; rfl) (by omega)
  · exact tr_pre (by unfold trC; rw [hk, ha, show decide ((s.size : Int) < a) = true from hb]; rfl) (by omega)
  · exact tr_pre (by unfold trC; rw [hk, ha, show decide ((s.size : Int) < a) = false from hb]; rfl) (by simpa using ht)
  have hc : trC k s a lm ls lg lp = 0 := by unfold trC; rw [hk, ha, show decide ((s.size : Int) < a) = false from hb]; exact bne1 ht
  simp only [gt_iff_lt, decide_eq_false_iff_not] at ha hb
  refine ⟨fun hm => ⟨fun hx => (by cases hx), fun _ => ?_⟩, fun hm => ⟨fun hm1 => ⟨fun he => ⟨fun _ => ?_, fun hx => (by cases hx)⟩, fun he => ⟨by omega, by have := beq2 he; omega, ?_⟩⟩, fun hm1 => ⟨fun hm2 => ⟨by omega, by omega, (by first | rfl | trivial), by omega, fun hx => ?_, fun hx => ?_⟩, fun hm2 => ⟨fun hm3 => ⟨fun hr => ⟨fun _ => ?_, fun hx => (by cases hx)⟩, fun hr => ⟨fun hx => (by cases hx), fun _ => ?_⟩⟩, fun hm3 => ⟨fun _ => ?_, fun hx => (by cases hx)⟩⟩⟩⟩⟩
  · have e := beq1 hm
    subst e
    obtain ⟨h1, h2, h3⟩ := tr_good (k := k) (m := 0) (s := s) (a := a) (lm := lm) hc rfl
    unfold trM trS trG trP trN
    rw [h1]
    exact ⟨rfl, rfl, rfl, rfl, rfl, h2, h3⟩
  · refine tr_mid hc (by unfold trX; rw [hm, hm1, he]; rfl) ?_ (by omega)
    unfold trY trX; rw [hm, hm1, he]; rfl
  · have hb1 := (s.data.toList.getD a.toNat 0).toNat_lt
    have hv : IntKind.wrap IntKind.i64 (((s.data.toList.getD a.toNat 0).toNat : Nat) : Int) = byA s a := wr (by omega) (by omega)
    rw [hv]
    refine ⟨fun hx => ⟨fun _ => ?_, fun hy => (by cases hy)⟩, fun hx => ⟨by omega, by have := beq2 he; omega, fun hy => (by cases hy), fun _ => ?_⟩⟩
    · have hx : decide (mostI k < byA s a) = true := hx
      refine tr_mid hc (by unfold trX; rw [hm, hm1, he, hx]; rfl) ?_ (by omega)
      unfold trY trX; rw [hm, hm1, he, hx]; rfl
    · have hx : decide (mostI k < byA s a) = false := hx
      have hX : trX k m s a lm = 0 := by unfold trX; rw [hm, hm1, he, hx]; rfl
      obtain ⟨h1, h2, h3⟩ := tr_good (k := k) (m := m) (s := s) (a := a) (lm := lm) hc hX
      have e := beq1 hm1
      subst e
      unfold trM trS trG trP trN
      rw [h1, wr (n := a + 1) (by omega) (by omega)]
      exact ⟨rfl, rfl, rfl, rfl, rfl, h2, h3⟩
  · refine tr_mid hc (by unfold trX; rw [hm, hm1, hm2]; rfl) ?_ (by simpa using hx)
    have hX : trX k m s a lm = (rfA k s a).2.2.1 := by unfold trX; rw [hm, hm1, hm2]; rfl
    unfold trY
    rw [hX, show ((rfA k s a).2.2.1 == 0) = false from bne0 hx, hm1, hm2]; rfl
  · have hX : trX k m s a lm = 0 := by
      unfold trX; rw [hm, hm1, hm2]; exact bne1 hx
    obtain ⟨h1, h2, h3⟩ := tr_good (k := k) (m := m) (s := s) (a := a) (lm := lm) hc hX
    have e := beq1 hm2
    subst e
    unfold trM trS trG trP trN
    rw [h1]
    exact ⟨rfl, rfl, rfl, rfl, rfl, h2, h3⟩
  · refine tr_mid hc (by unfold trX; rw [hm, hm1, hm2, hm3, hr]; rfl) ?_ (by omega)
    unfold trY trX; rw [hm, hm1, hm2, hm3, hr]; rfl
  · have hX : trX k m s a lm = 0 := by unfold trX; rw [hm, hm1, hm2, hm3, hr]; rfl
    obtain ⟨h1, h2, h3⟩ := tr_good (k := k) (m := m) (s := s) (a := a) (lm := lm) hc hX
    unfold trM trS trG trP trN
    rw [h1, hm, hm1, hm2, hm3]
    exact ⟨rfl, rfl, rfl, rfl, rfl, h2, h3⟩
  · refine tr_mid hc (by unfold trX; rw [hm, hm1, hm2, hm3]; rfl) ?_ (by omega)
    unfold trY trX; rw [hm, hm1, hm2, hm3]; rfl
theorem trC_of (k : Int) (s : ByteArray) (a lm ls lg : Int) (lp : List Int) : trC k s a lm ls lg lp = cond (trR k s a == 0) (tbE k lm ls lg lp) (trR k s a) := by
  unfold trC trR
  cases kdE k == 0
  · rfl
  · cases decide (a < 0) || decide ((s.size : Int) < a) <;> rfl
theorem rtreadE_v (k m : Int) (s : ByteArray) (a lm ls lg : Int) (lp : List Int) (hs : s.size ≤ 700) (hl : lp.length ≤ 4294967296) : rtreadE_t k m s a lm ls lg lp := by
  obtain ⟨m0, m1⟩ := most_bd k
  have hw : readF 600 s a (grtI k) (mostI k + 1) = rfA k s a := (readF_win s a _ _ hs).symm
  unfold rtreadE_t
  rw [wr (n := mostI k + 1) (by omega) (by omega), hw]
  refine ⟨⟨fun hk => ⟨fun ha => ⟨(), (by first | rfl | trivial), (by first | rfl | trivial), (by first | rfl | trivial), (by first | rfl | trivial), (by first | rfl | trivial), (by first | rfl | trivial), ?_, (by first | rfl | trivial), (by first | rfl | trivial), (by first | rfl | trivial), (by first | rfl | trivial), (by first | rfl | trivial), (by first | rfl | trivial), (by first | rfl | trivial), (by first | rfl | trivial), (by first | rfl | trivial), (by first | rfl | trivial)⟩, fun ha => ⟨fun hb => ⟨(), (by first | rfl | trivial), (by first | rfl | trivial), (by first | rfl | trivial), (by first | rfl | trivial), (by first | rfl | trivial), (by first | rfl | trivial), ?_, (by first | rfl | trivial), (by first | rfl | trivial), (by first | rfl | trivial), (by first | rfl | trivial), (by first | rfl | trivial), (by first | rfl | trivial), (by first | rfl | trivial), (by first | rfl | trivial), (by first | rfl | trivial), (by first | rfl | trivial)⟩, fun hb => ⟨(), (by first | rfl | trivial), (by first | rfl | trivial), (by first | rfl | trivial), (by first | rfl | trivial), (by first | rfl | trivial), (by first | rfl | trivial), ?_, (by first | rfl | trivial), (by first | rfl | trivial), (by first | rfl | trivial), (by first | rfl | trivial), (by first | rfl | trivial), (by first | rfl | trivial), (by first | rfl | trivial), (by first | rfl | trivial), (by first | rfl | trivial), (by first | rfl | trivial)⟩⟩⟩, fun hk => ⟨(), (by first | rfl | trivial), (by first | rfl | trivial), (by first | rfl | trivial), (by first | rfl | trivial), (by first | rfl | trivial), (by first | rfl | trivial), ?_, (by first | rfl | trivial), (by first | rfl | trivial), (by first | rfl | trivial), (by first | rfl | trivial), (by first | rfl | trivial), (by first | rfl | trivial), (by first | rfl | trivial), (by first | rfl | trivial), (by first | rfl | trivial), (by first | rfl | trivial)⟩⟩, fun _ _ => ⟨⟨fun hr => ⟨hl, (), (by first | rfl | trivial), (by first | rfl | trivial), (by first | rfl | trivial), (by first | rfl | trivial), (by first | rfl | trivial), (by first | rfl | trivial), ?_, (by first | rfl | trivial), (by first | rfl | trivial), (by first | rfl | trivial), (by first | rfl | trivial), (by first | rfl | trivial), (by first | rfl | trivial), (by first | rfl | trivial), (by first | rfl | trivial), (by first | rfl | trivial), (by first | rfl | trivial)⟩, fun hr => ⟨(), (by first | rfl | trivial), (by first | rfl | trivial), (by first | rfl | trivial), (by first | rfl | trivial), (by first | rfl | trivial), (by first | rfl | trivial), ?_, (by first | rfl | trivial), (by first | rfl | trivial), (by first | rfl | trivial), (by first | rfl | trivial), (by first | rfl | trivial), (by first | rfl | trivial), (by first | rfl | trivial), (by first | rfl | trivial), (by first | rfl | trivial), (by first | rfl | trivial)⟩⟩, fun _ _ => ⟨⟨fun hc => ⟨fun ha => ⟨(), (by first | rfl | trivial), (by first | rfl | trivial), (by first | rfl | trivial), (by first | rfl | trivial), (by first | rfl | trivial), (by first | rfl | trivial), ?_, (by first | rfl | trivial), (by first | rfl | trivial), (by first | rfl | trivial), (by first | rfl | trivial), (by first | rfl | trivial), (by first | rfl | trivial), (by first | rfl | trivial), (by first | rfl | trivial), (by first | rfl | trivial), (by first | rfl | trivial)⟩, fun ha => ⟨fun hb => ⟨(), (by first | rfl | trivial), (by first | rfl | trivial), (by first | rfl | trivial), (by first | rfl | trivial), (by first | rfl | trivial), (by first | rfl | trivial), ?_, (by first | rfl | trivial), (by first | rfl | trivial), (by first | rfl | trivial), (by first | rfl | trivial), (by first | rfl | trivial), (by first | rfl | trivial), (by first | rfl | trivial), (by first | rfl | trivial), (by first | rfl | trivial), (by first | rfl | trivial)⟩, fun hb => ⟨(), (by first | rfl | trivial), (by first | rfl | trivial), (by first | rfl | trivial), (by first | rfl | trivial), (by first | rfl | trivial), (by first | rfl | trivial), ?_, (by first | rfl | trivial), (by first | rfl | trivial), (by first | rfl | trivial), (by first | rfl | trivial), (by first | rfl | trivial), (by first | rfl | trivial), (by first | rfl | trivial), (by first | rfl | trivial), (by first | rfl | trivial), (by first | rfl | trivial)⟩⟩⟩, fun hc => ⟨(), (by first | rfl | trivial), (by first | rfl | trivial), (by first | rfl | trivial), (by first | rfl | trivial), (by first | rfl | trivial), (by first | rfl | trivial), ?_, (by first | rfl | trivial), (by first | rfl | trivial), (by first | rfl | trivial), (by first | rfl | trivial), (by first | rfl | trivial), (by first | rfl | trivial), (by first | rfl | trivial), (by first | rfl | trivial), (by first | rfl | trivial), (by first | rfl | trivial)⟩⟩, fun _ _ => ?_⟩⟩⟩
  · unfold trR; rw [hk, ha]; rfl
  · unfold trR; rw [hk, ha, show decide ((s.size : Int) < a) = true from hb]; rfl
  · have := beq1 hk
    unfold trR; rw [hk, ha, show decide ((s.size : Int) < a) = false from hb]; exact this
  · unfold trR; rw [hk]
    rcases Classical.em (k = 0 ∨ k = 1 ∨ k = 2) with h | h
    · rw [kd_in h] at hk; cases hk
    · exact (kd_out h).1
  · rw [trC_of, hr]; rfl
  · rw [trC_of, hr]; rfl
  · unfold trD; rw [hc, ha]; rfl
  · unfold trD; rw [hc, ha, show decide (3 < m) = true from hb]; rfl
  · have := beq1 hc
    unfold trD; rw [hc, ha, show decide (3 < m) = false from hb]; exact this
  · unfold trD; rw [hc]; rfl
  refine ⟨fun hd => ?_, fun hd => ?_⟩
  · cases hc : trC k s a lm ls lg lp == 0
    · have e : trD k m s a lm ls lg lp = trC k s a lm ls lg lp := by unfold trD; rw [hc]; rfl
      rw [e]
      exact tr_pre rfl (beq2 hc)
    · have hc0 := beq1 hc
      cases hb : decide (m < 0) || decide (3 < m)
      · have e : trD k m s a lm ls lg lp = 0 := by unfold trD; rw [hc, hb]; rfl
        rw [e] at hd; cases hd
      · have e : trD k m s a lm ls lg lp = 11 := by unfold trD; rw [hc, hb]; rfl
        rw [e]
        simp only [Bool.or_eq_true, decide_eq_true_eq] at hb
        refine tr_mid hc0 ?_ ?_ (by omega)
        · unfold trX; rw [beqF (show m ≠ 0 by omega), beqF (show m ≠ 1 by omega), beqF (show m ≠ 2 by omega), beqF (show m ≠ 3 by omega)]; rfl
        · unfold trY trX; rw [beqF (show m ≠ 0 by omega), beqF (show m ≠ 1 by omega), beqF (show m ≠ 2 by omega), beqF (show m ≠ 3 by omega)]; rfl
  have hd := bne1 hd
  have hc : trC k s a lm ls lg lp = 0 := by
    unfold trD at hd
    cases hc : trC k s a lm ls lg lp == 0
    · rw [hc] at hd; exact hd
    · exact beq1 hc
  have hmr : 0 ≤ m ∧ m ≤ 3 := by
    unfold trD at hd
    rw [hc] at hd
    cases hb : decide (m < 0) || decide (3 < m)
    · simp only [Bool.or_eq_false_iff, decide_eq_false_iff_not] at hb; omega
    · rw [hb] at hd; cases hd
  obtain ⟨hk, ha, hb, _⟩ := trC_ok hc
  refine ⟨fun hm => ?_, fun hm => ⟨fun hm1 => ⟨fun he => ?_, fun he => ⟨by omega, by have := beq2 he; omega, ?_⟩⟩, fun hm1 => ⟨fun hm2 => ⟨by omega, fun hx => ?_, fun hx => ?_⟩, fun hm2 => ?_⟩⟩⟩
  · have e := beq1 hm
    subst e
    obtain ⟨h1, h2, h3⟩ := tr_good (k := k) (m := 0) (s := s) (a := a) (lm := lm) hc rfl
    unfold trM trS trG trP trN
    rw [h1]
    exact ⟨rfl, rfl, rfl, rfl, rfl, h2, h3⟩
  · refine tr_mid hc (by unfold trX; rw [hm, hm1, he]; rfl) ?_ (by omega)
    unfold trY trX; rw [hm, hm1, he]; rfl
  · have hb1 := (s.data.toList.getD a.toNat 0).toNat_lt
    have hv : IntKind.wrap IntKind.i64 (((s.data.toList.getD a.toNat 0).toNat : Nat) : Int) = byA s a := wr (by omega) (by omega)
    rw [hv]
    refine ⟨fun hx => ?_, fun hx => ⟨by omega, by have := beq2 he; omega, ?_⟩⟩
    · have hx : decide (mostI k < byA s a) = true := hx
      refine tr_mid hc (by unfold trX; rw [hm, hm1, he, hx]; rfl) ?_ (by omega)
      unfold trY trX; rw [hm, hm1, he, hx]; rfl
    · have hx : decide (mostI k < byA s a) = false := hx
      have hX : trX k m s a lm = 0 := by unfold trX; rw [hm, hm1, he, hx]; rfl
      obtain ⟨h1, h2, h3⟩ := tr_good (k := k) (m := m) (s := s) (a := a) (lm := lm) hc hX
      have e := beq1 hm1
      subst e
      unfold trM trS trG trP trN
      rw [h1, wr (n := a + 1) (by omega) (by omega)]
      exact ⟨rfl, rfl, rfl, rfl, rfl, h2, h3⟩
  · refine tr_mid hc (by unfold trX; rw [hm, hm1, hm2]; rfl) ?_ (by simpa using hx)
    have hX : trX k m s a lm = (rfA k s a).2.2.1 := by unfold trX; rw [hm, hm1, hm2]; rfl
    unfold trY
    rw [hX, show ((rfA k s a).2.2.1 == 0) = false from bne0 hx, hm1, hm2]; rfl
  · have hX : trX k m s a lm = 0 := by
      unfold trX; rw [hm, hm1, hm2]; exact bne1 hx
    obtain ⟨h1, h2, h3⟩ := tr_good (k := k) (m := m) (s := s) (a := a) (lm := lm) hc hX
    have e := beq1 hm2
    subst e
    unfold trM trS trG trP trN
    rw [h1]
    exact ⟨rfl, rfl, rfl, rfl, rfl, h2, h3⟩
  · have e : m = 3 := by
      have := beq2 hm
      have := beq2 hm1
      have := beq2 hm2
      omega
    subst e
    refine ⟨fun hr => ?_, fun hr => ?_⟩
    · refine tr_mid hc (by unfold trX; rw [hr]; rfl) ?_ (by omega)
      unfold trY trX; rw [hr]; rfl
    · have hX : trX k 3 s a lm = 0 := by unfold trX; rw [hr]; rfl
      obtain ⟨h1, h2, h3⟩ := tr_good (k := k) (m := 3) (s := s) (a := a) (lm := lm) hc hX
      unfold trM trS trG trP trN
      rw [h1]
      exact ⟨rfl, rfl, rfl, rfl, rfl, h2, h3⟩
theorem treadE_sound : Sound Tryz.prog 15 sTRead.ctr := sTRead.sound (by kernel_rfl) sTRead_enc fun ⟨k, m, s, a, lm, ls, lg, lp⟩ hc => by
  have h0 := hc _ (.head _)
  have h1 := hc _ (.tail _ (.head _))
  exact satG GPb_ok mixed Tryz.func15 (treadE_e k m s a lm ls lg lp) (treadE_v k m s a lm ls lg lp h0 h1)
theorem rtreadE_sound : Sound Tryz.prog 16 sTRead.ctr := sTRead.sound (by kernel_rfl) sTRead_enc fun ⟨k, m, s, a, lm, ls, lg, lp⟩ hc => by
  have h0 := hc _ (.head _)
  have h1 := hc _ (.tail _ (.head _))
  exact satG GPb_ok mixed Tryz.func16 (rtreadE_e k m s a lm ls lg lp) (rtreadE_v k m s a lm ls lg lp h0 h1)
theorem GPc_ok : AllOk Tryz.prog GPc := .cons treadE_sound <| .cons rtreadE_sound <| GPb_ok
end Go.Proofs.YtcoogfifjibkhaaGreat
namespace Go.Proofs.YtcoogfifjibkhaaGreat
open Go
set_option linter.unusedVariables false
set_option maxRecDepth 100000
def cwI (g : Int) (p : List Int) (n : Int) (l : List Int) : Int := IntKind.wrap IntKind.i64 (coN g p l + n)
def okC (g : Int) (p l : List Int) : Bool := coE g p l == 0
def l3a (n1 n2 n3 : Int) (o1 o2 : Bool) : Bool := o1 && (!(o2 && decide (n2 < n1)) && !decide (n3 < n1))
def l3b (n1 n2 n3 : Int) (o1 o2 : Bool) : Bool := o2 && ((!o1 || decide (n2 < n1)) && !decide (n3 < n2))
def l2a (n2 n3 : Int) (o2 : Bool) : Bool := o2 && !decide (n3 < n2)
def chL (k : Int) (cs : List Int) : List Int := syL (mostI k) cs
def chE (k : Int) (cs : List Int) (lm ls lg : Int) (lp : List Int) : Int := cond (kdE k == 0) (cond (Nat.beq cs.length 0) 5 (cond (okS (mostI k) cs) (tbE k lm ls lg lp) 24)) 11
def fsG (k : Int) (cs : List Int) : Int := ofG (chL k cs) (grtI k)
def fsP (k : Int) (cs : List Int) : List Int := ofP (chL k cs) (grtI k)
def fsN (k : Int) (cs : List Int) : Int := IntKind.wrap IntKind.i64 (8 * ((writeF (fsG k cs) (fsP k cs)).1.size : Int))
def cstA (k : Int) (cs : List Int) (lg : Int) (lp : List Int) : Int := cwI lg lp 0 (chL k cs)
def cstB (k : Int) (cs : List Int) : Int := cwI (preL k) (preP k) 0 (chL k cs)
def cstC (k : Int) (cs : List Int) : Int := cwI (fsG k cs) (fsP k cs) (fsN k cs) (chL k cs)
def hasA (lm : Int) : Bool := (lm == 0) || (lm == 2)
def isA (k : Int) (cs : List Int) (lm lg : Int) (lp : List Int) : Bool := hasA lm && l3a (cstA k cs lg lp) (cstB k cs) (cstC k cs) (okC lg lp (chL k cs)) (okC (preL k) (preP k) (chL k cs))
def isB (k : Int) (cs : List Int) (lm lg : Int) (lp : List Int) : Bool := cond (hasA lm) (l3b (cstA k cs lg lp) (cstB k cs) (cstC k cs) (okC lg lp (chL k cs)) (okC (preL k) (preP k) (chL k cs))) (l2a (cstB k cs) (cstC k cs) (okC (preL k) (preP k) (chL k cs)))
def chW (k : Int) (cs : List Int) (lm ls lg : Int) (lp : List Int) : Nat := cond (chE k cs lm ls lg lp == 0) (cond (onB (chL k cs)) 1 (cond (isA k cs lm lg lp) 2 (cond (isB k cs lm lg lp) 3 4))) 0
def pk5 {α : Type} (n : Nat) (a b c d e : α) : α := cond (Nat.beq n 0) a (cond (Nat.beq n 1) b (cond (Nat.beq n 2) c (cond (Nat.beq n 3) d e)))
def chM (k : Int) (cs : List Int) (lm ls lg : Int) (lp : List Int) : Int := pk5 (chW k cs lm ls lg lp) 0 1 lm 0 2
def chS (k : Int) (cs : List Int) (lm ls lg : Int) (lp : List Int) : Int := pk5 (chW k cs lm ls lg lp) 0 (onI (chL k cs)) ls 0 0
def chG (k : Int) (cs : List Int) (lm ls lg : Int) (lp : List Int) : Int := pk5 (chW k cs lm ls lg lp) 0 0 lg (preL k) (fsG k cs)
def chP (k : Int) (cs : List Int) (lm ls lg : Int) (lp : List Int) : List Int := pk5 (chW k cs lm ls lg lp) [] [] lp (preP k) (fsP k cs)
def chO (k : Int) (cs : List Int) (lm ls lg : Int) (lp : List Int) : Int := pk5 (chW k cs lm ls lg lp) 0 1 3 0 2
def chF (k : Int) (cs : List Int) (lm ls lg : Int) (lp : List Int) : Int := cond (okS (mostI k) cs) (tbE k lm ls lg lp) 24
def chC (k : Int) (cs : List Int) : Int := cond (okS (mostI k) cs) 0 24
def lightT (g : Int) (p : List Int) : Bool := decide ((p.length : Int) ≤ 60) && decide (g ≤ 9)
end Go.Proofs.YtcoogfifjibkhaaGreat
namespace Go.Proofs.YtcoogfifjibkhaaGreat
open Go Go.RowKit
set_option linter.unusedVariables false
set_option linter.unusedSimpArgs false
set_option maxRecDepth 100000
def sCh1 : Spec where
  ι := Int × List Int × Int × List Int
  dec l H := match l with
    | [.ag [.v (.int .i64 g), .dat (.ints .i64 p)], .v (.int .i64 n), .p l0 0 0] => match H l0 with
      | some (.cells 22 [.dat (.ints .i64 l)]) => some ((g, p, n, l), [l0])
      | _ => none
    | _ => none
  args := fun (g, p, n, l) => [.ag [.v (.int .i64 g), .dat (.ints .i64 p)], .v (.int .i64 n), .p 0 0 0]
  hp := fun (g, p, n, l) => [(0, .cells 22 [.dat (.ints .i64 l)])]
  out := fun (g, p, n, l) => .leaf (.fn (.func 24) [] [.p 2000 0 0, .p 0 0 0, .p 2001 0 0]) [(0, .cells 22 [.dat (.ints .i64 l)]), (2000, .cells 24 [.v (.int .i64 g), .dat (.ints .i64 p)]), (2001, .cells 3 [.v (.int .i64 n)])]
theorem sCh1_enc : ∀ l H n i ls, sCh1.dec l H = some (i, ls) → l = renL (rho ls n) (sCh1.args i) ∧ givenHp H ls = renH (rho ls n) (sCh1.hp i) := by
  intro l H n i ls h
  simp only [sCh1] at h
  repeat' split at h
  all_goals first
    | (cases h; done)
    | (cases h; exact ⟨rfl, rfl⟩)
    | (cases h; refine ⟨rfl, ?_⟩; simp only [givenHp, List.filterMap_cons, List.filterMap_nil, Option.map, *]; rfl)
def sCh11 : Spec where
  ι := Int × List Int × Int × List Int
  dec l H := match l with
    | [.p l0 0 0, .p l1 0 0, .p l2 0 0] => match H l0 with
      | some (.cells 24 [.v (.int .i64 g), .dat (.ints .i64 p)]) => match H l1 with
        | some (.cells 22 [.dat (.ints .i64 l)]) => match H l2 with
          | some (.cells 3 [.v (.int .i64 n)]) => some ((g, p, n, l), [l0, l1, l2])
          | _ => none
        | _ => none
      | _ => none
    | _ => none
  args := fun (g, p, n, l) => [.p 0 0 0, .p 1 0 0, .p 2 0 0]
  hp := fun (g, p, n, l) => [(0, .cells 24 [.v (.int .i64 g), .dat (.ints .i64 p)]), (1, .cells 22 [.dat (.ints .i64 l)]), (2, .cells 3 [.v (.int .i64 n)])]
  pre := fun (g, p, n, l) => [⟨p.length ≤ 4294967296, inferInstance⟩, ⟨l.length ≤ 4294967296, inferInstance⟩]
  out := fun (g, p, n, l) => .leaf (.tu [.v (.int .i64 (cwI g p n l)), .v (.bool (okC g p l))]) [(0, .cells 24 [.v (.int .i64 g), .dat (.ints .i64 p)]), (1, .cells 22 [.dat (.ints .i64 l)]), (2, .cells 3 [.v (.int .i64 n)])]
theorem sCh11_enc : ∀ l H n i ls, sCh11.dec l H = some (i, ls) → l = renL (rho ls n) (sCh11.args i) ∧ givenHp H ls = renH (rho ls n) (sCh11.hp i) := by
  intro l H n i ls h
  simp only [sCh11] at h
  repeat' split at h
  all_goals first
    | (cases h; done)
    | (cases h; exact ⟨rfl, rfl⟩)
    | (cases h; refine ⟨rfl, ?_⟩; simp only [givenHp, List.filterMap_cons, List.filterMap_nil, Option.map, *]; rfl)
def sCh2 : Spec where
  ι := Int × Int × Int × List Int × Int × Int × List Int × Int × List Int
  dec l H := match l with
    | [.ag [.v (.int .i64 m), .v (.int .i64 s), .v (.int .i64 h), .dat (.ints .i64 q), .v (.int .i64 o), .fn (.func 24) [] [.p l0 0 0, .p l1 0 0, .p l2 0 0]]] => match H l0 with
      | some (.cells 24 [.v (.int .i64 g), .dat (.ints .i64 p)]) => match H l1 with
        | some (.cells 22 [.dat (.ints .i64 l)]) => match H l2 with
          | some (.cells 3 [.v (.int .i64 n)]) => some ((m, s, h, q, o, g, p, n, l), [l0, l1, l2])
          | _ => none
        | _ => none
      | _ => none
    | _ => none
  args := fun (m, s, h, q, o, g, p, n, l) => [.ag [.v (.int .i64 m), .v (.int .i64 s), .v (.int .i64 h), .dat (.ints .i64 q), .v (.int .i64 o), .fn (.func 24) [] [.p 0 0 0, .p 1 0 0, .p 2 0 0]]]
  hp := fun (m, s, h, q, o, g, p, n, l) => [(0, .cells 24 [.v (.int .i64 g), .dat (.ints .i64 p)]), (1, .cells 22 [.dat (.ints .i64 l)]), (2, .cells 3 [.v (.int .i64 n)])]
  pre := fun (m, s, h, q, o, g, p, n, l) => [⟨p.length ≤ 4294967296, inferInstance⟩, ⟨l.length ≤ 4294967296, inferInstance⟩]
  out := fun (m, s, h, q, o, g, p, n, l) => .leaf (.tu [.v (.int .i64 (cwI g p n l)), .v (.bool (okC g p l))]) [(0, .cells 24 [.v (.int .i64 g), .dat (.ints .i64 p)]), (1, .cells 22 [.dat (.ints .i64 l)]), (2, .cells 3 [.v (.int .i64 n)])]
theorem sCh2_enc : ∀ l H n i ls, sCh2.dec l H = some (i, ls) → l = renL (rho ls n) (sCh2.args i) ∧ givenHp H ls = renH (rho ls n) (sCh2.hp i) := by
  intro l H n i ls h
  simp only [sCh2] at h
  repeat' split at h
  all_goals first
    | (cases h; done)
    | (cases h; exact ⟨rfl, rfl⟩)
    | (cases h; refine ⟨rfl, ?_⟩; simp only [givenHp, List.filterMap_cons, List.filterMap_nil, Option.map, *]; rfl)
def sLeast2 : Spec where
  ι := List Int × (Int × Int × Int × List Int × Int × Int × List Int × Int) × (Int × Int × Int × List Int × Int × Int × List Int × Int)
  own := true
  dec l H := match l with
    | [.o l0, .fn (.func 30) [] []] => match H l0 with
      | some (.rc 56 6 2 [.v (.int .i64 m1), .v (.int .i64 s1), .v (.int .i64 h1), .dat (.ints .i64 q1), .v (.int .i64 o1), .fn (.func 24) [] [.p a1 0 0, .p b1 0 0, .p c1 0 0], .v (.int .i64 m2), .v (.int .i64 s2), .v (.int .i64 h2), .dat (.ints .i64 q2), .v (.int .i64 o2), .fn (.func 24) [] [.p a2 0 0, .p b2 0 0, .p c2 0 0]]) => match H b1 with
        | some (.cells 22 [.dat (.ints .i64 l)]) =>
          match H a1, H c1, H a2, H c2 with
          | some (.cells 24 [.v (.int .i64 g1), .dat (.ints .i64 p1)]), some (.cells 3 [.v (.int .i64 n1)]), some (.cells 24 [.v (.int .i64 g2), .dat (.ints .i64 p2)]), some (.cells 3 [.v (.int .i64 n2)]) => cond (Nat.beq b2 b1) (some ((l, (m1, s1, h1, q1, o1, g1, p1, n1), (m2, s2, h2, q2, o2, g2, p2, n2)), [l0, b1, a1, c1, a2, c2])) none
          | _, _, _, _ => none
        | _ => none
      | _ => none
    | _ => none
  args := fun _ => [.o 0, .fn (.func 30) [] []]
  hp := fun (l, (m1, s1, h1, q1, o1, g1, p1, n1), (m2, s2, h2, q2, o2, g2, p2, n2)) => [(0, .rc 56 6 2 [.v (.int .i64 m1), .v (.int .i64 s1), .v (.int .i64 h1), .dat (.ints .i64 q1), .v (.int .i64 o1), .fn (.func 24) [] [.p 2 0 0, .p 1 0 0, .p 3 0 0], .v (.int .i64 m2), .v (.int .i64 s2), .v (.int .i64 h2), .dat (.ints .i64 q2), .v (.int .i64 o2), .fn (.func 24) [] [.p 4 0 0, .p 1 0 0, .p 5 0 0]]), (1, .cells 22 [.dat (.ints .i64 l)]), (2, .cells 24 [.v (.int .i64 g1), .dat (.ints .i64 p1)]), (3, .cells 3 [.v (.int .i64 n1)]), (4, .cells 24 [.v (.int .i64 g2), .dat (.ints .i64 p2)]), (5, .cells 3 [.v (.int .i64 n2)])]
  pre := fun (l, (m1, s1, h1, q1, o1, g1, p1, n1), (m2, s2, h2, q2, o2, g2, p2, n2)) => [⟨l.length ≤ 4294967296, inferInstance⟩, ⟨p1.length ≤ 4294967296, inferInstance⟩, ⟨p2.length ≤ 4294967296, inferInstance⟩, ⟨okC g2 p2 l = true, inferInstance⟩]
  out := fun (l, (m1, s1, h1, q1, o1, g1, p1, n1), (m2, s2, h2, q2, o2, g2, p2, n2)) => .ite ⟨l2a (cwI g1 p1 n1 l) (cwI g2 p2 n2 l) (okC g1 p1 l) = true, inferInstance⟩ (.leaf (.tu [.ag [.v (.int .i64 m1), .v (.int .i64 s1), .v (.int .i64 h1), .dat (.ints .i64 q1), .v (.int .i64 o1), .fn (.func 24) [] [.p 2 0 0, .p 1 0 0, .p 3 0 0]], .v (.bool true)]) [(1, .cells 22 [.dat (.ints .i64 l)]), (2, .cells 24 [.v (.int .i64 g1), .dat (.ints .i64 p1)]), (3, .cells 3 [.v (.int .i64 n1)]), (4, .cells 24 [.v (.int .i64 g2), .dat (.ints .i64 p2)]), (5, .cells 3 [.v (.int .i64 n2)])]) (.leaf (.tu [.ag [.v (.int .i64 m2), .v (.int .i64 s2), .v (.int .i64 h2), .dat (.ints .i64 q2), .v (.int .i64 o2), .fn (.func 24) [] [.p 4 0 0, .p 1 0 0, .p 5 0 0]], .v (.bool true)]) [(1, .cells 22 [.dat (.ints .i64 l)]), (2, .cells 24 [.v (.int .i64 g1), .dat (.ints .i64 p1)]), (3, .cells 3 [.v (.int .i64 n1)]), (4, .cells 24 [.v (.int .i64 g2), .dat (.ints .i64 p2)]), (5, .cells 3 [.v (.int .i64 n2)])])
theorem sLeast2_enc : ∀ l H n i ls, sLeast2.dec l H = some (i, ls) → l = renL (rho ls n) (sLeast2.args i) ∧ givenHp H ls = renH (rho ls n) (sLeast2.hp i) := by
  intro l H n i ls h
  simp only [sLeast2] at h
  repeat' split at h
  all_goals first
    | (cases h; done)
    | skip
  rename_i hh
  generalize hc : (Nat.beq _ _) = c at h
  cases c
  · cases h
  simp only [cond_true, Bool.and_eq_true] at h hc
  have e := Nat.eq_of_beq_eq_true hc
  subst e
  cases h
  refine ⟨rfl, ?_⟩
  simp only [givenHp, List.filterMap_cons, List.filterMap_nil, Option.map, *]
  rfl
def sLeast3 : Spec where
  ι := List Int × (Int × Int × Int × List Int × Int × Int × List Int × Int) × (Int × Int × Int × List Int × Int × Int × List Int × Int) × (Int × Int × Int × List Int × Int × Int × List Int × Int)
  own := true
  dec l H := match l with
    | [.o l0, .fn (.func 30) [] []] => match H l0 with
      | some (.rc 56 6 3 [.v (.int .i64 m1), .v (.int .i64 s1), .v (.int .i64 h1), .dat (.ints .i64 q1), .v (.int .i64 o1), .fn (.func 24) [] [.p a1 0 0, .p b1 0 0, .p c1 0 0], .v (.int .i64 m2), .v (.int .i64 s2), .v (.int .i64 h2), .dat (.ints .i64 q2), .v (.int .i64 o2), .fn (.func 24) [] [.p a2 0 0, .p b2 0 0, .p c2 0 0], .v (.int .i64 m3), .v (.int .i64 s3), .v (.int .i64 h3), .dat (.ints .i64 q3), .v (.int .i64 o3), .fn (.func 24) [] [.p a3 0 0, .p b3 0 0, .p c3 0 0]]) => match H b1 with
        | some (.cells 22 [.dat (.ints .i64 l)]) =>
          match H a1, H c1, H a2, H c2, H a3, H c3 with
          | some (.cells 24 [.v (.int .i64 g1), .dat (.ints .i64 p1)]), some (.cells 3 [.v (.int .i64 n1)]), some (.cells 24 [.v (.int .i64 g2), .dat (.ints .i64 p2)]), some (.cells 3 [.v (.int .i64 n2)]), some (.cells 24 [.v (.int .i64 g3), .dat (.ints .i64 p3)]), some (.cells 3 [.v (.int .i64 n3)]) => cond (Nat.beq b2 b1 && Nat.beq b3 b1) (some ((l, (m1, s1, h1, q1, o1, g1, p1, n1), (m2, s2, h2, q2, o2, g2, p2, n2), (m3, s3, h3, q3, o3, g3, p3, n3)), [l0, b1, a1, c1, a2, c2, a3, c3])) none
          | _, _, _, _, _, _ => none
        | _ => none
      | _ => none
    | _ => none
  args := fun _ => [.o 0, .fn (.func 30) [] []]
  hp := fun (l, (m1, s1, h1, q1, o1, g1, p1, n1), (m2, s2, h2, q2, o2, g2, p2, n2), (m3, s3, h3, q3, o3, g3, p3, n3)) => [(0, .rc 56 6 3 [.v (.int .i64 m1), .v (.int .i64 s1), .v (.int .i64 h1), .dat (.ints .i64 q1), .v (.int .i64 o1), .fn (.func 24) [] [.p 2 0 0, .p 1 0 0, .p 3 0 0], .v (.int .i64 m2), .v (.int .i64 s2), .v (.int .i64 h2), .dat (.ints .i64 q2), .v (.int .i64 o2), .fn (.func 24) [] [.p 4 0 0, .p 1 0 0, .p 5 0 0], .v (.int .i64 m3), .v (.int .i64 s3), .v (.int .i64 h3), .dat (.ints .i64 q3), .v (.int .i64 o3), .fn (.func 24) [] [.p 6 0 0, .p 1 0 0, .p 7 0 0]]), (1, .cells 22 [.dat (.ints .i64 l)]), (2, .cells 24 [.v (.int .i64 g1), .dat (.ints .i64 p1)]), (3, .cells 3 [.v (.int .i64 n1)]), (4, .cells 24 [.v (.int .i64 g2), .dat (.ints .i64 p2)]), (5, .cells 3 [.v (.int .i64 n2)]), (6, .cells 24 [.v (.int .i64 g3), .dat (.ints .i64 p3)]), (7, .cells 3 [.v (.int .i64 n3)])]
  pre := fun (l, (m1, s1, h1, q1, o1, g1, p1, n1), (m2, s2, h2, q2, o2, g2, p2, n2), (m3, s3, h3, q3, o3, g3, p3, n3)) => [⟨l.length ≤ 4294967296, inferInstance⟩, ⟨p1.length ≤ 4294967296, inferInstance⟩, ⟨p2.length ≤ 4294967296, inferInstance⟩, ⟨p3.length ≤ 4294967296, inferInstance⟩, ⟨okC g3 p3 l = true, inferInstance⟩]
  out := fun (l, (m1, s1, h1, q1, o1, g1, p1, n1), (m2, s2, h2, q2, o2, g2, p2, n2), (m3, s3, h3, q3, o3, g3, p3, n3)) => .ite ⟨l3a (cwI g1 p1 n1 l) (cwI g2 p2 n2 l) (cwI g3 p3 n3 l) (okC g1 p1 l) (okC g2 p2 l) = true, inferInstance⟩ (.leaf (.tu [.ag [.v (.int .i64 m1), .v (.int .i64 s1), .v (.int .i64 h1), .dat (.ints .i64 q1), .v (.int .i64 o1), .fn (.func 24) [] [.p 2 0 0, .p 1 0 0, .p 3 0 0]], .v (.bool true)]) [(1, .cells 22 [.dat (.ints .i64 l)]), (2, .cells 24 [.v (.int .i64 g1), .dat (.ints .i64 p1)]), (3, .cells 3 [.v (.int .i64 n1)]), (4, .cells 24 [.v (.int .i64 g2), .dat (.ints .i64 p2)]), (5, .cells 3 [.v (.int .i64 n2)]), (6, .cells 24 [.v (.int .i64 g3), .dat (.ints .i64 p3)]), (7, .cells 3 [.v (.int .i64 n3)])]) (.ite ⟨l3b (cwI g1 p1 n1 l) (cwI g2 p2 n2 l) (cwI g3 p3 n3 l) (okC g1 p1 l) (okC g2 p2 l) = true, inferInstance⟩ (.leaf (.tu [.ag [.v (.int .i64 m2), .v (.int .i64 s2), .v (.int .i64 h2), .dat (.ints .i64 q2), .v (.int .i64 o2), .fn (.func 24) [] [.p 4 0 0, .p 1 0 0, .p 5 0 0]], .v (.bool true)]) [(1, .cells 22 [.dat (.ints .i64 l)]), (2, .cells 24 [.v (.int .i64 g1), .dat (.ints .i64 p1)]), (3, .cells 3 [.v (.int .i64 n1)]), (4, .cells 24 [.v (.int .i64 g2), .dat (.ints .i64 p2)]), (5, .cells 3 [.v (.int .i64 n2)]), (6, .cells 24 [.v (.int .i64 g3), .dat (.ints .i64 p3)]), (7, .cells 3 [.v (.int .i64 n3)])]) (.leaf (.tu [.ag [.v (.int .i64 m3), .v (.int .i64 s3), .v (.int .i64 h3), .dat (.ints .i64 q3), .v (.int .i64 o3), .fn (.func 24) [] [.p 6 0 0, .p 1 0 0, .p 7 0 0]], .v (.bool true)]) [(1, .cells 22 [.dat (.ints .i64 l)]), (2, .cells 24 [.v (.int .i64 g1), .dat (.ints .i64 p1)]), (3, .cells 3 [.v (.int .i64 n1)]), (4, .cells 24 [.v (.int .i64 g2), .dat (.ints .i64 p2)]), (5, .cells 3 [.v (.int .i64 n2)]), (6, .cells 24 [.v (.int .i64 g3), .dat (.ints .i64 p3)]), (7, .cells 3 [.v (.int .i64 n3)])]))
theorem sLeast3_enc : ∀ l H n i ls, sLeast3.dec l H = some (i, ls) → l = renL (rho ls n) (sLeast3.args i) ∧ givenHp H ls = renH (rho ls n) (sLeast3.hp i) := by
  intro l H n i ls h
  simp only [sLeast3] at h
  repeat' split at h
  all_goals first
    | (cases h; done)
    | skip
  rename_i hh
  generalize hc : (Nat.beq _ _ && Nat.beq _ _) = c at h
  cases c
  · cases h
  simp only [cond_true, Bool.and_eq_true] at h hc
  have e := Nat.eq_of_beq_eq_true hc.1
  have e2 := Nat.eq_of_beq_eq_true hc.2
  subst e
  subst e2
  cases h
  refine ⟨rfl, ?_⟩
  simp only [givenHp, List.filterMap_cons, List.filterMap_nil, Option.map, *]
  rfl
def sChoo : Spec where
  ι := Int × List Int × Int × Int × Int × List Int
  dec l H := match l with
    | [.v (.int .i64 k), .dat (.ints .i64 cs), .ag [.v (.int .i64 lm), .v (.int .i64 ls), .v (.int .i64 lg), .dat (.ints .i64 lp)]] => some ((k, cs, lm, ls, lg, lp), [])
    | _ => none
  args := fun (k, cs, lm, ls, lg, lp) => [.v (.int .i64 k), .dat (.ints .i64 cs), .ag [.v (.int .i64 lm), .v (.int .i64 ls), .v (.int .i64 lg), .dat (.ints .i64 lp)]]
  pre := fun (k, cs, lm, ls, lg, lp) => [⟨cs.length ≤ 1000, inferInstance⟩, ⟨lp.length ≤ 4294967296, inferInstance⟩]
  out := fun (k, cs, lm, ls, lg, lp) => .leaf (.tu [.ag [.v (.int .i64 (chM k cs lm ls lg lp)), .v (.int .i64 (chS k cs lm ls lg lp)), .v (.int .i64 (chG k cs lm ls lg lp)), .dat (.ints .i64 (chP k cs lm ls lg lp))], .v (.int .i64 (chO k cs lm ls lg lp)), .v (.int .i64 (chE k cs lm ls lg lp))]) []
theorem sChoo_enc : ∀ l H n i ls, sChoo.dec l H = some (i, ls) → l = renL (rho ls n) (sChoo.args i) ∧ givenHp H ls = renH (rho ls n) (sChoo.hp i) := by
  intro l H n i ls h
  simp only [sChoo] at h
  repeat' split at h
  all_goals first
    | (cases h; done)
    | (cases h; exact ⟨rfl, rfl⟩)
def rcH (lm ls lg : Int) (lp : List Int) : List (Nat × SBlk) := [(1001, .cells 26 [.v (.int .i64 lm), .v (.int .i64 ls), .v (.int .i64 lg), .dat (.ints .i64 lp)]), (1002, .cells 26 [.v (.int .i64 0), .v (.int .i64 0), .v (.int .i64 0), .v (.slice none 0 0)])]
def pcH (k : Int) (cs : List Int) (lm ls lg : Int) (lp : List Int) : List (Nat × SBlk) := rcH lm ls lg lp ++ [(1003, .cells 22 [.dat (.ints .i64 (chL k cs))])]
def oPc9 (k : Int) (cs : List Int) (lm ls lg : Int) (lp : List Int) (e : Int) : LoopInv := { ι := Unit, p := fun _ => kdE k = 0 ∧ 0 < cs.length, tm := fun _ => [(0, .v (.int .i64 k)), (5, .p 1001 0 0), (6, .p 1002 0 0), (10, .v (.int .i64 e)), (11, .p 1003 0 0)], hp := fun _ => pcH k cs lm ls lg lp, μ := fun _ => 0 }
def oPc18 (k : Int) (cs : List Int) (lm ls lg : Int) (lp : List Int) : LoopInv := { ι := Unit, p := fun _ => chE k cs lm ls lg lp = 0 ∧ onB (chL k cs) = false, tm := fun _ => [(0, .v (.int .i64 k)), (5, .p 1001 0 0), (6, .p 1002 0 0), (11, .p 1003 0 0), (15, .fn (.func 23) [] [.p 1003 0 0]), (16, .v (.slice none 0 0))], hp := fun _ => pcH k cs lm ls lg lp, μ := fun _ => 0 }
def oPc (k : Int) (cs : List Int) (lm ls lg : Int) (lp : List Int) : Nat → Option LoopFam := omg [(1009, .one (oPc9 k cs lm ls lg lp (chC k cs))), (1011, .one (oPc9 k cs lm ls lg lp (chF k cs lm ls lg lp))), (1018, .one (oPc18 k cs lm ls lg lp))]
def GSa : List (Nat × Ctr) := (23, sCh1.ctr) :: (24, sCh11.ctr) :: GPc
def GSb : List (Nat × Ctr) := (30, sCh2.ctr) :: GSa
def GSc : List (Nat × Ctr) := (29, orC sLeast2 sLeast3) :: GSb
def GSd : List (Nat × Ctr) := (9, sChoo.ctr) :: GSc
end Go.Proofs.YtcoogfifjibkhaaGreat
namespace Go.Proofs.YtcoogfifjibkhaaGreat
open Go Go.RowKit
set_option linter.unusedVariables false
set_option maxRecDepth 100000
def ch1E_t (g : Int) (p : List Int) (n : Int) (l : List Int) : Prop :=
 l = l ∧ g = g ∧ p = p ∧ n = n
theorem ch1E_e (g : Int) (p : List Int) (n : Int) (l : List Int) : ch1E_t g p n l = vcG Tryz.prog (Gof GPc) (fun _ => none) Tryz.f23 [.ag [.v (.int .i64 g), .dat (.ints .i64 p)], .v (.int .i64 n), .p 0 0 0] [(0, .cells 22 [.dat (.ints .i64 l)])] (.leaf ((.fn (.func 24) [] [.p 2000 0 0, .p 0 0 0, .p 2001 0 0])) ([(0, .cells 22 [.dat (.ints .i64 l)]), (2000, .cells 24 [.v (.int .i64 g), .dat (.ints .i64 p)]), (2001, .cells 3 [.v (.int .i64 n)])])) := by kernel_rfl
def ch11E_t (g : Int) (p : List Int) (n : Int) (l : List Int) : Prop :=
 List.length p ≤ (4294967296 : Nat) ∧ List.length l ≤ (4294967296 : Nat) ∧ IntKind.wrap IntKind.i64 (coN g p l + n) = cwI g p n l ∧ (coE g p l == (0 : Int)) = okC g p l ∧ g = g ∧ p = p ∧ l = l ∧ n = n
theorem ch11E_e (g : Int) (p : List Int) (n : Int) (l : List Int) : ch11E_t g p n l = vcG Tryz.prog (Gof GPc) (fun _ => none) Tryz.f24 [.p 0 0 0, .p 1 0 0, .p 2 0 0] [(0, .cells 24 [.v (.int .i64 g), .dat (.ints .i64 p)]), (1, .cells 22 [.dat (.ints .i64 l)]), (2, .cells 3 [.v (.int .i64 n)])] (.leaf ((.tu [.v (.int .i64 (cwI g p n l)), .v (.bool (okC g p l))])) ([(0, .cells 24 [.v (.int .i64 g), .dat (.ints .i64 p)]), (1, .cells 22 [.dat (.ints .i64 l)]), (2, .cells 3 [.v (.int .i64 n)])])) := by kernel_rfl
def ch2E_t (m s h : Int) (q : List Int) (o g : Int) (p : List Int) (n : Int) (l : List Int) : Prop :=
 List.length p ≤ (4294967296 : Nat) ∧ List.length l ≤ (4294967296 : Nat) ∧ cwI g p n l = cwI g p n l ∧ okC g p l = okC g p l ∧ g = g ∧ p = p ∧ l = l ∧ n = n
theorem ch2E_e (m s h : Int) (q : List Int) (o g : Int) (p : List Int) (n : Int) (l : List Int) : ch2E_t m s h q o g p n l = vcG Tryz.prog (Gof GSa) (fun _ => none) Tryz.f30 [.ag [.v (.int .i64 m), .v (.int .i64 s), .v (.int .i64 h), .dat (.ints .i64 q), .v (.int .i64 o), .fn (.func 24) [] [.p 0 0 0, .p 1 0 0, .p 2 0 0]]] [(0, .cells 24 [.v (.int .i64 g), .dat (.ints .i64 p)]), (1, .cells 22 [.dat (.ints .i64 l)]), (2, .cells 3 [.v (.int .i64 n)])] (.leaf ((.tu [.v (.int .i64 (cwI g p n l)), .v (.bool (okC g p l))])) ([(0, .cells 24 [.v (.int .i64 g), .dat (.ints .i64 p)]), (1, .cells 22 [.dat (.ints .i64 l)]), (2, .cells 3 [.v (.int .i64 n)])])) := by kernel_rfl
def least2E_t (l : List Int) (m1 s1 h1 : Int) (q1 : List Int) (o1 g1 : Int) (p1 : List Int) (n1 : Int) (m2 s2 h2 : Int) (q2 : List Int) (o2 g2 : Int) (p2 : List Int) (n2 : Int) : Prop :=
 (decide ((0 : Int) < (↑(2 : Nat) : Int)) = true →
 (0 : Int) ≤ (0 : Int) ∧
 (0 : Int) < (↑(2 : Nat) : Int) ∧
 List.length p1 ≤ (4294967296 : Nat) ∧
 List.length l ≤ (4294967296 : Nat) ∧
 (okC g1 p1 l = true →
 (decide (IntKind.wrap IntKind.i64 ((0 : Int) + (1 : Int)) < (↑(2 : Nat) : Int)) = true →
 (0 : Int) ≤ IntKind.wrap IntKind.i64 ((0 : Int) + (1 : Int)) ∧
 IntKind.wrap IntKind.i64 ((0 : Int) + (1 : Int)) < (↑(2 : Nat) : Int) ∧
 List.length p2 ≤ (4294967296 : Nat) ∧
 List.length l ≤ (4294967296 : Nat) ∧
 (okC g2 p2 l = true →
 (decide (cwI g2 p2 n2 l < cwI g1 p1 n1 l) = true →
 (decide (IntKind.wrap IntKind.i64 (IntKind.wrap IntKind.i64 ((0 : Int) + (1 : Int)) + (1 : Int)) < (↑(2 : Nat) : Int)) = true →
 (0 : Int) ≤ IntKind.wrap IntKind.i64 (IntKind.wrap IntKind.i64 ((0 : Int) + (1 : Int)) + (1 : Int)) ∧
 IntKind.wrap IntKind.i64 (IntKind.wrap IntKind.i64 ((0 : Int) + (1 : Int)) + (1 : Int)) < (↑(2 : Nat) : Int) ∧
 False ∧ False ∧ False ∧ False ∧ False ∧ False) ∧
 (decide (IntKind.wrap IntKind.i64 (IntKind.wrap IntKind.i64 ((0 : Int) + (1 : Int)) + (1 : Int)) < (↑(2 : Nat) : Int)) = false →
 (l2a (cwI g1 p1 n1 l) (cwI g2 p2 n2 l) (okC g1 p1 l) = true →
 m2 = m1 ∧ s2 = s1 ∧ h2 = h1 ∧ q2 = q1 ∧ o2 = o1 ∧ False ∧ False ∧ true = true ∧ l = l ∧ g1 = g1 ∧ p1 = p1 ∧ n1 = n1 ∧ g2 = g2 ∧ p2 = p2 ∧ n2 = n2) ∧
 (¬l2a (cwI g1 p1 n1 l) (cwI g2 p2 n2 l) (okC g1 p1 l) = true →
 m2 = m2 ∧ s2 = s2 ∧ h2 = h2 ∧ q2 = q2 ∧ o2 = o2 ∧ true = true ∧ l = l ∧ g1 = g1 ∧ p1 = p1 ∧ n1 = n1 ∧ g2 = g2 ∧ p2 = p2 ∧ n2 = n2))) ∧
 (decide (cwI g2 p2 n2 l < cwI g1 p1 n1 l) = false →
 (decide (IntKind.wrap IntKind.i64 (IntKind.wrap IntKind.i64 ((0 : Int) + (1 : Int)) + (1 : Int)) < (↑(2 : Nat) : Int)) = true →
 (0 : Int) ≤ IntKind.wrap IntKind.i64 (IntKind.wrap IntKind.i64 ((0 : Int) + (1 : Int)) + (1 : Int)) ∧
 IntKind.wrap IntKind.i64 (IntKind.wrap IntKind.i64 ((0 : Int) + (1 : Int)) + (1 : Int)) < (↑(2 : Nat) : Int) ∧
 False ∧ False ∧ False ∧ False ∧ False ∧ False) ∧
 (decide (IntKind.wrap IntKind.i64 (IntKind.wrap IntKind.i64 ((0 : Int) + (1 : Int)) + (1 : Int)) < (↑(2 : Nat) : Int)) = false →
 (l2a (cwI g1 p1 n1 l) (cwI g2 p2 n2 l) (okC g1 p1 l) = true →
 m1 = m1 ∧ s1 = s1 ∧ h1 = h1 ∧ q1 = q1 ∧ o1 = o1 ∧ true = true ∧ l = l ∧ g1 = g1 ∧ p1 = p1 ∧ n1 = n1 ∧ g2 = g2 ∧ p2 = p2 ∧ n2 = n2) ∧
 (¬l2a (cwI g1 p1 n1 l) (cwI g2 p2 n2 l) (okC g1 p1 l) = true →
 m1 = m2 ∧ s1 = s2 ∧ h1 = h2 ∧ q1 = q2 ∧ o1 = o2 ∧ False ∧ False ∧ true = true ∧ l = l ∧ g1 = g1 ∧ p1 = p1 ∧ n1 = n1 ∧ g2 = g2 ∧ p2 = p2 ∧ n2 = n2)))) ∧
 (okC g2 p2 l = false →
 (decide (IntKind.wrap IntKind.i64 (IntKind.wrap IntKind.i64 ((0 : Int) + (1 : Int)) + (1 : Int)) < (↑(2 : Nat) : Int)) = true →
 (0 : Int) ≤ IntKind.wrap IntKind.i64 (IntKind.wrap IntKind.i64 ((0 : Int) + (1 : Int)) + (1 : Int)) ∧
 IntKind.wrap IntKind.i64 (IntKind.wrap IntKind.i64 ((0 : Int) + (1 : Int)) + (1 : Int)) < (↑(2 : Nat) : Int) ∧ False ∧ False ∧ False ∧ False ∧ False ∧ False) ∧
 (decide (IntKind.wrap IntKind.i64 (IntKind.wrap IntKind.i64 ((0 : Int) + (1 : Int)) + (1 : Int)) < (↑(2 : Nat) : Int)) = false →
 (l2a (cwI g1 p1 n1 l) (cwI g2 p2 n2 l) (okC g1 p1 l) = true →
 m1 = m1 ∧ s1 = s1 ∧ h1 = h1 ∧ q1 = q1 ∧ o1 = o1 ∧ true = true ∧ l = l ∧ g1 = g1 ∧ p1 = p1 ∧ n1 = n1 ∧ g2 = g2 ∧ p2 = p2 ∧ n2 = n2) ∧
 (¬l2a (cwI g1 p1 n1 l) (cwI g2 p2 n2 l) (okC g1 p1 l) = true →
 m1 = m2 ∧ s1 = s2 ∧ h1 = h2 ∧ q1 = q2 ∧ o1 = o2 ∧ False ∧ False ∧ true = true ∧ l = l ∧ g1 = g1 ∧ p1 = p1 ∧ n1 = n1 ∧ g2 = g2 ∧ p2 = p2 ∧ n2 = n2)))) ∧
 (decide (IntKind.wrap IntKind.i64 ((0 : Int) + (1 : Int)) < (↑(2 : Nat) : Int)) = false →
 (l2a (cwI g1 p1 n1 l) (cwI g2 p2 n2 l) (okC g1 p1 l) = true →
 m1 = m1 ∧ s1 = s1 ∧ h1 = h1 ∧ q1 = q1 ∧ o1 = o1 ∧ true = true ∧ l = l ∧ g1 = g1 ∧ p1 = p1 ∧ n1 = n1 ∧ g2 = g2 ∧ p2 = p2 ∧ n2 = n2) ∧
 (¬l2a (cwI g1 p1 n1 l) (cwI g2 p2 n2 l) (okC g1 p1 l) = true →
 m1 = m2 ∧ s1 = s2 ∧ h1 = h2 ∧ q1 = q2 ∧ o1 = o2 ∧ False ∧ False ∧ true = true ∧ l = l ∧ g1 = g1 ∧ p1 = p1 ∧ n1 = n1 ∧ g2 = g2 ∧ p2 = p2 ∧ n2 = n2))) ∧
 (okC g1 p1 l = false →
 (decide (IntKind.wrap IntKind.i64 ((0 : Int) + (1 : Int)) < (↑(2 : Nat) : Int)) = true →
 (0 : Int) ≤ IntKind.wrap IntKind.i64 ((0 : Int) + (1 : Int)) ∧
 IntKind.wrap IntKind.i64 ((0 : Int) + (1 : Int)) < (↑(2 : Nat) : Int) ∧
 List.length p2 ≤ (4294967296 : Nat) ∧
 List.length l ≤ (4294967296 : Nat) ∧
 (okC g2 p2 l = true →
 (decide (IntKind.wrap IntKind.i64 (IntKind.wrap IntKind.i64 ((0 : Int) + (1 : Int)) + (1 : Int)) < (↑(2 : Nat) : Int)) = true →
 (0 : Int) ≤ IntKind.wrap IntKind.i64 (IntKind.wrap IntKind.i64 ((0 : Int) + (1 : Int)) + (1 : Int)) ∧
 IntKind.wrap IntKind.i64 (IntKind.wrap IntKind.i64 ((0 : Int) + (1 : Int)) + (1 : Int)) < (↑(2 : Nat) : Int) ∧ False ∧ False ∧ False ∧ False ∧ False ∧ False) ∧
 (decide (IntKind.wrap IntKind.i64 (IntKind.wrap IntKind.i64 ((0 : Int) + (1 : Int)) + (1 : Int)) < (↑(2 : Nat) : Int)) = false →
 (l2a (cwI g1 p1 n1 l) (cwI g2 p2 n2 l) (okC g1 p1 l) = true →
 m2 = m1 ∧ s2 = s1 ∧ h2 = h1 ∧ q2 = q1 ∧ o2 = o1 ∧ False ∧ False ∧ true = true ∧ l = l ∧ g1 = g1 ∧ p1 = p1 ∧ n1 = n1 ∧ g2 = g2 ∧ p2 = p2 ∧ n2 = n2) ∧
 (¬l2a (cwI g1 p1 n1 l) (cwI g2 p2 n2 l) (okC g1 p1 l) = true →
 m2 = m2 ∧ s2 = s2 ∧ h2 = h2 ∧ q2 = q2 ∧ o2 = o2 ∧ true = true ∧ l = l ∧ g1 = g1 ∧ p1 = p1 ∧ n1 = n1 ∧ g2 = g2 ∧ p2 = p2 ∧ n2 = n2))) ∧
 (okC g2 p2 l = false →
 (decide (IntKind.wrap IntKind.i64 (IntKind.wrap IntKind.i64 ((0 : Int) + (1 : Int)) + (1 : Int)) < (↑(2 : Nat) : Int)) = true →
 (0 : Int) ≤ IntKind.wrap IntKind.i64 (IntKind.wrap IntKind.i64 ((0 : Int) + (1 : Int)) + (1 : Int)) ∧
 IntKind.wrap IntKind.i64 (IntKind.wrap IntKind.i64 ((0 : Int) + (1 : Int)) + (1 : Int)) < (↑(2 : Nat) : Int) ∧ False ∧ False ∧ False ∧ False ∧ False ∧ False) ∧
 (decide (IntKind.wrap IntKind.i64 (IntKind.wrap IntKind.i64 ((0 : Int) + (1 : Int)) + (1 : Int)) < (↑(2 : Nat) : Int)) = false →
 (l2a (cwI g1 p1 n1 l) (cwI g2 p2 n2 l) (okC g1 p1 l) = true →
 (0 : Int) = m1 ∧
 (0 : Int) = s1 ∧
 (0 : Int) = h1 ∧ List.length q1 = (0 : Nat) ∧ (0 : Int) = o1 ∧ False ∧ false = true ∧ l = l ∧ g1 = g1 ∧ p1 = p1 ∧ n1 = n1 ∧ g2 = g2 ∧ p2 = p2 ∧ n2 = n2) ∧
 (¬l2a (cwI g1 p1 n1 l) (cwI g2 p2 n2 l) (okC g1 p1 l) = true →
 (0 : Int) = m2 ∧
 (0 : Int) = s2 ∧
 (0 : Int) = h2 ∧
 List.length q2 = (0 : Nat) ∧ (0 : Int) = o2 ∧ False ∧ false = true ∧ l = l ∧ g1 = g1 ∧ p1 = p1 ∧ n1 = n1 ∧ g2 = g2 ∧ p2 = p2 ∧ n2 = n2)))) ∧
 (decide (IntKind.wrap IntKind.i64 ((0 : Int) + (1 : Int)) < (↑(2 : Nat) : Int)) = false →
 (l2a (cwI g1 p1 n1 l) (cwI g2 p2 n2 l) (okC g1 p1 l) = true →
 (0 : Int) = m1 ∧
 (0 : Int) = s1 ∧ (0 : Int) = h1 ∧ List.length q1 = (0 : Nat) ∧ (0 : Int) = o1 ∧ False ∧ false = true ∧ l = l ∧ g1 = g1 ∧ p1 = p1 ∧ n1 = n1 ∧ g2 = g2 ∧ p2 = p2 ∧ n2 = n2) ∧
 (¬l2a (cwI g1 p1 n1 l) (cwI g2 p2 n2 l) (okC g1 p1 l) = true →
 (0 : Int) = m2 ∧
 (0 : Int) = s2 ∧ (0 : Int) = h2 ∧ List.length q2 = (0 : Nat) ∧ (0 : Int) = o2 ∧ False ∧ false = true ∧ l = l ∧ g1 = g1 ∧ p1 = p1 ∧ n1 = n1 ∧ g2 = g2 ∧ p2 = p2 ∧ n2 = n2)))) ∧
 (decide ((0 : Int) < (↑(2 : Nat) : Int)) = false →
 (l2a (cwI g1 p1 n1 l) (cwI g2 p2 n2 l) (okC g1 p1 l) = true →
 (0 : Int) = m1 ∧ (0 : Int) = s1 ∧ (0 : Int) = h1 ∧ List.length q1 = (0 : Nat) ∧ (0 : Int) = o1 ∧ False ∧ false = true ∧ l = l ∧ g1 = g1 ∧ p1 = p1 ∧ n1 = n1 ∧ g2 = g2 ∧ p2 = p2 ∧ n2 = n2) ∧
 (¬l2a (cwI g1 p1 n1 l) (cwI g2 p2 n2 l) (okC g1 p1 l) = true →
 (0 : Int) = m2 ∧ (0 : Int) = s2 ∧ (0 : Int) = h2 ∧ List.length q2 = (0 : Nat) ∧ (0 : Int) = o2 ∧ False ∧ false = true ∧ l = l ∧ g1 = g1 ∧ p1 = p1 ∧ n1 = n1 ∧ g2 = g2 ∧ p2 = p2 ∧ n2 = n2))
theorem least2E_e (l : List Int) (m1 s1 h1 : Int) (q1 : List Int) (o1 g1 : Int) (p1 : List Int) (n1 : Int) (m2 s2 h2 : Int) (q2 : List Int) (o2 g2 : Int) (p2 : List Int) (n2 : Int) : least2E_t l m1 s1 h1 q1 o1 g1 p1 n1 m2 s2 h2 q2 o2 g2 p2 n2 = vcG Tryz.prog (Gof GSb) (fun k => cond (Nat.beq k 0) (some (.unf 3 [500016])) none) Tryz.f29 [.o 0, .fn (.func 30) [] []] [(0, .rc 56 6 2 [.v (.int .i64 m1), .v (.int .i64 s1), .v (.int .i64 h1), .dat (.ints .i64 q1), .v (.int .i64 o1), .fn (.func 24) [] [.p 2 0 0, .p 1 0 0, .p 3 0 0], .v (.int .i64 m2), .v (.int .i64 s2), .v (.int .i64 h2), .dat (.ints .i64 q2), .v (.int .i64 o2), .fn (.func 24) [] [.p 4 0 0, .p 1 0 0, .p 5 0 0]]), (1, .cells 22 [.dat (.ints .i64 l)]), (2, .cells 24 [.v (.int .i64 g1), .dat (.ints .i64 p1)]), (3, .cells 3 [.v (.int .i64 n1)]), (4, .cells 24 [.v (.int .i64 g2), .dat (.ints .i64 p2)]), (5, .cells 3 [.v (.int .i64 n2)])] (.ite ⟨l2a (cwI g1 p1 n1 l) (cwI g2 p2 n2 l) (okC g1 p1 l) = true, inferInstance⟩ (.leaf (.tu [.ag [.v (.int .i64 m1), .v (.int .i64 s1), .v (.int .i64 h1), .dat (.ints .i64 q1), .v (.int .i64 o1), .fn (.func 24) [] [.p 2 0 0, .p 1 0 0, .p 3 0 0]], .v (.bool true)]) ([(1, .cells 22 [.dat (.ints .i64 l)]), (2, .cells 24 [.v (.int .i64 g1), .dat (.ints .i64 p1)]), (3, .cells 3 [.v (.int .i64 n1)]), (4, .cells 24 [.v (.int .i64 g2), .dat (.ints .i64 p2)]), (5, .cells 3 [.v (.int .i64 n2)])])) (.leaf (.tu [.ag [.v (.int .i64 m2), .v (.int .i64 s2), .v (.int .i64 h2), .dat (.ints .i64 q2), .v (.int .i64 o2), .fn (.func 24) [] [.p 4 0 0, .p 1 0 0, .p 5 0 0]], .v (.bool true)]) ([(1, .cells 22 [.dat (.ints .i64 l)]), (2, .cells 24 [.v (.int .i64 g1), .dat (.ints .i64 p1)]), (3, .cells 3 [.v (.int .i64 n1)]), (4, .cells 24 [.v (.int .i64 g2), .dat (.ints .i64 p2)]), (5, .cells 3 [.v (.int .i64 n2)])]))) := by kernel_rfl
def least3E_t (l : List Int) (m1 s1 h1 : Int) (q1 : List Int) (o1 g1 : Int) (p1 : List Int) (n1 : Int) (m2 s2 h2 : Int) (q2 : List Int) (o2 g2 : Int) (p2 : List Int) (n2 : Int) (m3 s3 h3 : Int) (q3 : List Int) (o3 g3 : Int) (p3 : List Int) (n3 : Int) : Prop :=
 (decide ((0 : Int) < (↑(3 : Nat) : Int)) = true →
 (0 : Int) ≤ (0 : Int) ∧
 (0 : Int) < (↑(3 : Nat) : Int) ∧
 List.length p1 ≤ (4294967296 : Nat) ∧
 List.length l ≤ (4294967296 : Nat) ∧
 (okC g1 p1 l = true →
 (decide (IntKind.wrap IntKind.i64 ((0 : Int) + (1 : Int)) < (↑(3 : Nat) : Int)) = true →
 (0 : Int) ≤ IntKind.wrap IntKind.i64 ((0 : Int) + (1 : Int)) ∧
 IntKind.wrap IntKind.i64 ((0 : Int) + (1 : Int)) < (↑(3 : Nat) : Int) ∧
 List.length p2 ≤ (4294967296 : Nat) ∧
 List.length l ≤ (4294967296 : Nat) ∧
 (okC g2 p2 l = true →
 (decide (cwI g2 p2 n2 l < cwI g1 p1 n1 l) = true →
 (decide (IntKind.wrap IntKind.i64 (IntKind.wrap IntKind.i64 ((0 : Int) + (1 : Int)) + (1 : Int)) < (↑(3 : Nat) : Int)) = true →
 (0 : Int) ≤ IntKind.wrap IntKind.i64 (IntKind.wrap IntKind.i64 ((0 : Int) + (1 : Int)) + (1 : Int)) ∧
 IntKind.wrap IntKind.i64 (IntKind.wrap IntKind.i64 ((0 : Int) + (1 : Int)) + (1 : Int)) < (↑(3 : Nat) : Int) ∧
 List.length p3 ≤ (4294967296 : Nat) ∧
 List.length l ≤ (4294967296 : Nat) ∧
 (okC g3 p3 l = true →
 (decide (cwI g3 p3 n3 l < cwI g2 p2 n2 l) = true →
 (decide
 (IntKind.wrap IntKind.i64 (IntKind.wrap IntKind.i64 (IntKind.wrap IntKind.i64 ((0 : Int) + (1 : Int)) + (1 : Int)) + (1 : Int)) <
 (↑(3 : Nat) : Int)) =
 true →
 (0 : Int) ≤ IntKind.wrap IntKind.i64 (IntKind.wrap IntKind.i64 (IntKind.wrap IntKind.i64 ((0 : Int) + (1 : Int)) + (1 : Int)) + (1 : Int)) ∧
 IntKind.wrap IntKind.i64 (IntKind.wrap IntKind.i64 (IntKind.wrap IntKind.i64 ((0 : Int) + (1 : Int)) + (1 : Int)) + (1 : Int)) <
 (↑(3 : Nat) : Int) ∧
 False ∧ False ∧ False ∧ False ∧ False ∧ False) ∧
 (decide
 (IntKind.wrap IntKind.i64 (IntKind.wrap IntKind.i64 (IntKind.wrap IntKind.i64 ((0 : Int) + (1 : Int)) + (1 : Int)) + (1 : Int)) <
 (↑(3 : Nat) : Int)) =
 false →
 (l3a (cwI g1 p1 n1 l) (cwI g2 p2 n2 l) (cwI g3 p3 n3 l) (okC g1 p1 l) (okC g2 p2 l) = true →
 m3 = m1 ∧
 s3 = s1 ∧
 h3 = h1 ∧
 q3 = q1 ∧
 o3 = o1 ∧
 False ∧
 False ∧ true = true ∧ l = l ∧ g1 = g1 ∧ p1 = p1 ∧ n1 = n1 ∧ g2 = g2 ∧ p2 = p2 ∧ n2 = n2 ∧ g3 = g3 ∧ p3 = p3 ∧ n3 = n3) ∧
 (¬l3a (cwI g1 p1 n1 l) (cwI g2 p2 n2 l) (cwI g3 p3 n3 l) (okC g1 p1 l) (okC g2 p2 l) = true →
 (l3b (cwI g1 p1 n1 l) (cwI g2 p2 n2 l) (cwI g3 p3 n3 l) (okC g1 p1 l) (okC g2 p2 l) = true →
 m3 = m2 ∧
 s3 = s2 ∧
 h3 = h2 ∧
 q3 = q2 ∧
 o3 = o2 ∧
 False ∧
 False ∧ true = true ∧ l = l ∧ g1 = g1 ∧ p1 = p1 ∧ n1 = n1 ∧ g2 = g2 ∧ p2 = p2 ∧ n2 = n2 ∧ g3 = g3 ∧ p3 = p3 ∧ n3 = n3) ∧
 (¬l3b (cwI g1 p1 n1 l) (cwI g2 p2 n2 l) (cwI g3 p3 n3 l) (okC g1 p1 l) (okC g2 p2 l) = true →
 m3 = m3 ∧
 s3 = s3 ∧
 h3 = h3 ∧
 q3 = q3 ∧
 o3 = o3 ∧
 true = true ∧ l = l ∧ g1 = g1 ∧ p1 = p1 ∧ n1 = n1 ∧ g2 = g2 ∧ p2 = p2 ∧ n2 = n2 ∧ g3 = g3 ∧ p3 = p3 ∧ n3 = n3)))) ∧
 (decide (cwI g3 p3 n3 l < cwI g2 p2 n2 l) = false →
 (decide
 (IntKind.wrap IntKind.i64 (IntKind.wrap IntKind.i64 (IntKind.wrap IntKind.i64 ((0 : Int) + (1 : Int)) + (1 : Int)) + (1 : Int)) <
 (↑(3 : Nat) : Int)) =
 true →
 (0 : Int) ≤ IntKind.wrap IntKind.i64 (IntKind.wrap IntKind.i64 (IntKind.wrap IntKind.i64 ((0 : Int) + (1 : Int)) + (1 : Int)) + (1 : Int)) ∧
 IntKind.wrap IntKind.i64 (IntKind.wrap IntKind.i64 (IntKind.wrap IntKind.i64 ((0 : Int) + (1 : Int)) + (1 : Int)) + (1 : Int)) <
 (↑(3 : Nat) : Int) ∧
 False ∧ False ∧ False ∧ False ∧ False ∧ False) ∧
 (decide
 (IntKind.wrap IntKind.i64 (IntKind.wrap IntKind.i64 (IntKind.wrap IntKind.i64 ((0 : Int) + (1 : Int)) + (1 : Int)) + (1 : Int)) <
 (↑(3 : Nat) : Int)) =
 false →
 (l3a (cwI g1 p1 n1 l) (cwI g2 p2 n2 l) (cwI g3 p3 n3 l) (okC g1 p1 l) (okC g2 p2 l) = true →
 m2 = m1 ∧
 s2 = s1 ∧
 h2 = h1 ∧
 q2 = q1 ∧
 o2 = o1 ∧
 False ∧
 False ∧ true = true ∧ l = l ∧ g1 = g1 ∧ p1 = p1 ∧ n1 = n1 ∧ g2 = g2 ∧ p2 = p2 ∧ n2 = n2 ∧ g3 = g3 ∧ p3 = p3 ∧ n3 = n3) ∧
 (¬l3a (cwI g1 p1 n1 l) (cwI g2 p2 n2 l) (cwI g3 p3 n3 l) (okC g1 p1 l) (okC g2 p2 l) = true →
 (l3b (cwI g1 p1 n1 l) (cwI g2 p2 n2 l) (cwI g3 p3 n3 l) (okC g1 p1 l) (okC g2 p2 l) = true →
 m2 = m2 ∧
 s2 = s2 ∧
 h2 = h2 ∧
 q2 = q2 ∧
 o2 = o2 ∧ true = true ∧ l = l ∧ g1 = g1 ∧ p1 = p1 ∧ n1 = n1 ∧ g2 = g2 ∧ p2 = p2 ∧ n2 = n2 ∧ g3 = g3 ∧ p3 = p3 ∧ n3 = n3) ∧
 (¬l3b (cwI g1 p1 n1 l) (cwI g2 p2 n2 l) (cwI g3 p3 n3 l) (okC g1 p1 l) (okC g2 p2 l) = true →
 m2 = m3 ∧
 s2 = s3 ∧
 h2 = h3 ∧
 q2 = q3 ∧
 o2 = o3 ∧
 False ∧
 False ∧
 true = true ∧ l = l ∧ g1 = g1 ∧ p1 = p1 ∧ n1 = n1 ∧ g2 = g2 ∧ p2 = p2 ∧ n2 = n2 ∧ g3 = g3 ∧ p3 = p3 ∧ n3 = n3))))) ∧
 (okC g3 p3 l = false →
 (decide
 (IntKind.wrap IntKind.i64 (IntKind.wrap IntKind.i64 (IntKind.wrap IntKind.i64 ((0 : Int) + (1 : Int)) + (1 : Int)) + (1 : Int)) <
 (↑(3 : Nat) : Int)) =
 true →
 (0 : Int) ≤ IntKind.wrap IntKind.i64 (IntKind.wrap IntKind.i64 (IntKind.wrap IntKind.i64 ((0 : Int) + (1 : Int)) + (1 : Int)) + (1 : Int)) ∧
 IntKind.wrap IntKind.i64 (IntKind.wrap IntKind.i64 (IntKind.wrap IntKind.i64 ((0 : Int) + (1 : Int)) + (1 : Int)) + (1 : Int)) <
 (↑(3 : Nat) : Int) ∧
 False ∧ False ∧ False ∧ False ∧ False ∧ False) ∧
 (decide
 (IntKind.wrap IntKind.i64 (IntKind.wrap IntKind.i64 (IntKind.wrap IntKind.i64 ((0 : Int) + (1 : Int)) + (1 : Int)) + (1 : Int)) <
 (↑(3 : Nat) : Int)) =
 false →
 (l3a (cwI g1 p1 n1 l) (cwI g2 p2 n2 l) (cwI g3 p3 n3 l) (okC g1 p1 l) (okC g2 p2 l) = true →
 m2 = m1 ∧
 s2 = s1 ∧
 h2 = h1 ∧
 q2 = q1 ∧
 o2 = o1 ∧
 False ∧ False ∧ true = true ∧ l = l ∧ g1 = g1 ∧ p1 = p1 ∧ n1 = n1 ∧ g2 = g2 ∧ p2 = p2 ∧ n2 = n2 ∧ g3 = g3 ∧ p3 = p3 ∧ n3 = n3) ∧
 (¬l3a (cwI g1 p1 n1 l) (cwI g2 p2 n2 l) (cwI g3 p3 n3 l) (okC g1 p1 l) (okC g2 p2 l) = true →
 (l3b (cwI g1 p1 n1 l) (cwI g2 p2 n2 l) (cwI g3 p3 n3 l) (okC g1 p1 l) (okC g2 p2 l) = true →
 m2 = m2 ∧
 s2 = s2 ∧
 h2 = h2 ∧
 q2 = q2 ∧
 o2 = o2 ∧ true = true ∧ l = l ∧ g1 = g1 ∧ p1 = p1 ∧ n1 = n1 ∧ g2 = g2 ∧ p2 = p2 ∧ n2 = n2 ∧ g3 = g3 ∧ p3 = p3 ∧ n3 = n3) ∧
 (¬l3b (cwI g1 p1 n1 l) (cwI g2 p2 n2 l) (cwI g3 p3 n3 l) (okC g1 p1 l) (okC g2 p2 l) = true →
 m2 = m3 ∧
 s2 = s3 ∧
 h2 = h3 ∧
 q2 = q3 ∧
 o2 = o3 ∧
 False ∧
 False ∧ true = true ∧ l = l ∧ g1 = g1 ∧ p1 = p1 ∧ n1 = n1 ∧ g2 = g2 ∧ p2 = p2 ∧ n2 = n2 ∧ g3 = g3 ∧ p3 = p3 ∧ n3 = n3))))) ∧
 (decide (IntKind.wrap IntKind.i64 (IntKind.wrap IntKind.i64 ((0 : Int) + (1 : Int)) + (1 : Int)) < (↑(3 : Nat) : Int)) = false →
 (l3a (cwI g1 p1 n1 l) (cwI g2 p2 n2 l) (cwI g3 p3 n3 l) (okC g1 p1 l) (okC g2 p2 l) = true →
 m2 = m1 ∧
 s2 = s1 ∧
 h2 = h1 ∧
 q2 = q1 ∧ o2 = o1 ∧ False ∧ False ∧ true = true ∧ l = l ∧ g1 = g1 ∧ p1 = p1 ∧ n1 = n1 ∧ g2 = g2 ∧ p2 = p2 ∧ n2 = n2 ∧ g3 = g3 ∧ p3 = p3 ∧ n3 = n3) ∧
 (¬l3a (cwI g1 p1 n1 l) (cwI g2 p2 n2 l) (cwI g3 p3 n3 l) (okC g1 p1 l) (okC g2 p2 l) = true →
 (l3b (cwI g1 p1 n1 l) (cwI g2 p2 n2 l) (cwI g3 p3 n3 l) (okC g1 p1 l) (okC g2 p2 l) = true →
 m2 = m2 ∧
 s2 = s2 ∧
 h2 = h2 ∧ q2 = q2 ∧ o2 = o2 ∧ true = true ∧ l = l ∧ g1 = g1 ∧ p1 = p1 ∧ n1 = n1 ∧ g2 = g2 ∧ p2 = p2 ∧ n2 = n2 ∧ g3 = g3 ∧ p3 = p3 ∧ n3 = n3) ∧
 (¬l3b (cwI g1 p1 n1 l) (cwI g2 p2 n2 l) (cwI g3 p3 n3 l) (okC g1 p1 l) (okC g2 p2 l) = true →
 m2 = m3 ∧
 s2 = s3 ∧
 h2 = h3 ∧
 q2 = q3 ∧
 o2 = o3 ∧ False ∧ False ∧ true = true ∧ l = l ∧ g1 = g1 ∧ p1 = p1 ∧ n1 = n1 ∧ g2 = g2 ∧ p2 = p2 ∧ n2 = n2 ∧ g3 = g3 ∧ p3 = p3 ∧ n3 = n3)))) ∧
 (decide (cwI g2 p2 n2 l < cwI g1 p1 n1 l) = false →
 (decide (IntKind.wrap IntKind.i64 (IntKind.wrap IntKind.i64 ((0 : Int) + (1 : Int)) + (1 : Int)) < (↑(3 : Nat) : Int)) = true →
 (0 : Int) ≤ IntKind.wrap IntKind.i64 (IntKind.wrap IntKind.i64 ((0 : Int) + (1 : Int)) + (1 : Int)) ∧
 IntKind.wrap IntKind.i64 (IntKind.wrap IntKind.i64 ((0 : Int) + (1 : Int)) + (1 : Int)) < (↑(3 : Nat) : Int) ∧
 List.length p3 ≤ (4294967296 : Nat) ∧
 List.length l ≤ (4294967296 : Nat) ∧
 (okC g3 p3 l = true →
 (decide (cwI g3 p3 n3 l < cwI g1 p1 n1 l) = true →
 (decide
 (IntKind.wrap IntKind.i64 (IntKind.wrap IntKind.i64 (IntKind.wrap IntKind.i64 ((0 : Int) + (1 : Int)) + (1 : Int)) + (1 : Int)) <
 (↑(3 : Nat) : Int)) =
 true →
 (0 : Int) ≤ IntKind.wrap IntKind.i64 (IntKind.wrap IntKind.i64 (IntKind.wrap IntKind.i64 ((0 : Int) + (1 : Int)) + (1 : Int)) + (1 : Int)) ∧
 IntKind.wrap IntKind.i64 (IntKind.wrap IntKind.i64 (IntKind.wrap IntKind.i64 ((0 : Int) + (1 : Int)) + (1 : Int)) + (1 : Int)) <
 (↑(3 : Nat) : Int) ∧
 False ∧ False ∧ False ∧ False ∧ False ∧ False) ∧
 (decide
 (IntKind.wrap IntKind.i64 (IntKind.wrap IntKind.i64 (IntKind.wrap IntKind.i64 ((0 : Int) + (1 : Int)) + (1 : Int)) + (1 : Int)) <
 (↑(3 : Nat) : Int)) =
 false →
 (l3a (cwI g1 p1 n1 l) (cwI g2 p2 n2 l) (cwI g3 p3 n3 l) (okC g1 p1 l) (okC g2 p2 l) = true →
 m3 = m1 ∧
 s3 = s1 ∧
 h3 = h1 ∧
 q3 = q1 ∧
 o3 = o1 ∧
 False ∧
 False ∧ true = true ∧ l = l ∧ g1 = g1 ∧ p1 = p1 ∧ n1 = n1 ∧ g2 = g2 ∧ p2 = p2 ∧ n2 = n2 ∧ g3 = g3 ∧ p3 = p3 ∧ n3 = n3) ∧
 (¬l3a (cwI g1 p1 n1 l) (cwI g2 p2 n2 l) (cwI g3 p3 n3 l) (okC g1 p1 l) (okC g2 p2 l) = true →
 (l3b (cwI g1 p1 n1 l) (cwI g2 p2 n2 l) (cwI g3 p3 n3 l) (okC g1 p1 l) (okC g2 p2 l) = true →
 m3 = m2 ∧
 s3 = s2 ∧
 h3 = h2 ∧
 q3 = q2 ∧
 o3 = o2 ∧
 False ∧
 False ∧ true = true ∧ l = l ∧ g1 = g1 ∧ p1 = p1 ∧ n1 = n1 ∧ g2 = g2 ∧ p2 = p2 ∧ n2 = n2 ∧ g3 = g3 ∧ p3 = p3 ∧ n3 = n3) ∧
 (¬l3b (cwI g1 p1 n1 l) (cwI g2 p2 n2 l) (cwI g3 p3 n3 l) (okC g1 p1 l) (okC g2 p2 l) = true →
 m3 = m3 ∧
 s3 = s3 ∧
 h3 = h3 ∧
 q3 = q3 ∧
 o3 = o3 ∧
 true = true ∧ l = l ∧ g1 = g1 ∧ p1 = p1 ∧ n1 = n1 ∧ g2 = g2 ∧ p2 = p2 ∧ n2 = n2 ∧ g3 = g3 ∧ p3 = p3 ∧ n3 = n3)))) ∧
 (decide (cwI g3 p3 n3 l < cwI g1 p1 n1 l) = false →
 (decide
 (IntKind.wrap IntKind.i64 (IntKind.wrap IntKind.i64 (IntKind.wrap IntKind.i64 ((0 : Int) + (1 : Int)) + (1 : Int)) + (1 : Int)) <
 (↑(3 : Nat) : Int)) =
 true →
 (0 : Int) ≤ IntKind.wrap IntKind.i64 (IntKind.wrap IntKind.i64 (IntKind.wrap IntKind.i64 ((0 : Int) + (1 : Int)) + (1 : Int)) + (1 : Int)) ∧
 IntKind.wrap IntKind.i64 (IntKind.wrap IntKind.i64 (IntKind.wrap IntKind.i64 ((0 : Int) + (1 : Int)) + (1 : Int)) + (1 : Int)) <
 (↑(3 : Nat) : Int) ∧
 False ∧ False ∧ False ∧ False ∧ False ∧ False) ∧
 (decide
 (IntKind.wrap IntKind.i64 (IntKind.wrap IntKind.i64 (IntKind.wrap IntKind.i64 ((0 : Int) + (1 : Int)) + (1 : Int)) + (1 : Int)) <
 (↑(3 : Nat) : Int)) =
 false →
 (l3a (cwI g1 p1 n1 l) (cwI g2 p2 n2 l) (cwI g3 p3 n3 l) (okC g1 p1 l) (okC g2 p2 l) = true →
 m1 = m1 ∧
 s1 = s1 ∧
 h1 = h1 ∧
 q1 = q1 ∧
 o1 = o1 ∧ true = true ∧ l = l ∧ g1 = g1 ∧ p1 = p1 ∧ n1 = n1 ∧ g2 = g2 ∧ p2 = p2 ∧ n2 = n2 ∧ g3 = g3 ∧ p3 = p3 ∧ n3 = n3) ∧
 (¬l3a (cwI g1 p1 n1 l) (cwI g2 p2 n2 l) (cwI g3 p3 n3 l) (okC g1 p1 l) (okC g2 p2 l) = true →
 (l3b (cwI g1 p1 n1 l) (cwI g2 p2 n2 l) (cwI g3 p3 n3 l) (okC g1 p1 l) (okC g2 p2 l) = true →
 m1 = m2 ∧
 s1 = s2 ∧
 h1 = h2 ∧
 q1 = q2 ∧
 o1 = o2 ∧
 False ∧
 False ∧ true = true ∧ l = l ∧ g1 = g1 ∧ p1 = p1 ∧ n1 = n1 ∧ g2 = g2 ∧ p2 = p2 ∧ n2 = n2 ∧ g3 = g3 ∧ p3 = p3 ∧ n3 = n3) ∧
 (¬l3b (cwI g1 p1 n1 l) (cwI g2 p2 n2 l) (cwI g3 p3 n3 l) (okC g1 p1 l) (okC g2 p2 l) = true →
 m1 = m3 ∧
 s1 = s3 ∧
 h1 = h3 ∧
 q1 = q3 ∧
 o1 = o3 ∧
 False ∧
 False ∧
 true = true ∧ l = l ∧ g1 = g1 ∧ p1 = p1 ∧ n1 = n1 ∧ g2 = g2 ∧ p2 = p2 ∧ n2 = n2 ∧ g3 = g3 ∧ p3 = p3 ∧ n3 = n3))))) ∧
 (okC g3 p3 l = false →
 (decide
 (IntKind.wrap IntKind.i64 (IntKind.wrap IntKind.i64 (IntKind.wrap IntKind.i64 ((0 : Int) + (1 : Int)) + (1 : Int)) + (1 : Int)) <
 (↑(3 : Nat) : Int)) =
 true →
 (0 : Int) ≤ IntKind.wrap IntKind.i64 (IntKind.wrap IntKind.i64 (IntKind.wrap IntKind.i64 ((0 : Int) + (1 : Int)) + (1 : Int)) + (1 : Int)) ∧
 IntKind.wrap IntKind.i64 (IntKind.wrap IntKind.i64 (IntKind.wrap IntKind.i64 ((0 : Int) + (1 : Int)) + (1 : Int)) + (1 : Int)) <
 (↑(3 : Nat) : Int) ∧
 False ∧ False ∧ False ∧ False ∧ False ∧ False) ∧
 (decide
 (IntKind.wrap IntKind.i64 (IntKind.wrap IntKind.i64 (IntKind.wrap IntKind.i64 ((0 : Int) + (1 : Int)) + (1 : Int)) + (1 : Int)) <
 (↑(3 : Nat) : Int)) =
 false →
 (l3a (cwI g1 p1 n1 l) (cwI g2 p2 n2 l) (cwI g3 p3 n3 l) (okC g1 p1 l) (okC g2 p2 l) = true →
 m1 = m1 ∧
 s1 = s1 ∧
 h1 = h1 ∧
 q1 = q1 ∧ o1 = o1 ∧ true = true ∧ l = l ∧ g1 = g1 ∧ p1 = p1 ∧ n1 = n1 ∧ g2 = g2 ∧ p2 = p2 ∧ n2 = n2 ∧ g3 = g3 ∧ p3 = p3 ∧ n3 = n3) ∧
 (¬l3a (cwI g1 p1 n1 l) (cwI g2 p2 n2 l) (cwI g3 p3 n3 l) (okC g1 p1 l) (okC g2 p2 l) = true →
 (l3b (cwI g1 p1 n1 l) (cwI g2 p2 n2 l) (cwI g3 p3 n3 l) (okC g1 p1 l) (okC g2 p2 l) = true →
 m1 = m2 ∧
 s1 = s2 ∧
 h1 = h2 ∧
 q1 = q2 ∧
 o1 = o2 ∧
 False ∧
 False ∧ true = true ∧ l = l ∧ g1 = g1 ∧ p1 = p1 ∧ n1 = n1 ∧ g2 = g2 ∧ p2 = p2 ∧ n2 = n2 ∧ g3 = g3 ∧ p3 = p3 ∧ n3 = n3) ∧
 (¬l3b (cwI g1 p1 n1 l) (cwI g2 p2 n2 l) (cwI g3 p3 n3 l) (okC g1 p1 l) (okC g2 p2 l) = true →
 m1 = m3 ∧
 s1 = s3 ∧
 h1 = h3 ∧
 q1 = q3 ∧
 o1 = o3 ∧
 False ∧
 False ∧ true = true ∧ l = l ∧ g1 = g1 ∧ p1 = p1 ∧ n1 = n1 ∧ g2 = g2 ∧ p2 = p2 ∧ n2 = n2 ∧ g3 = g3 ∧ p3 = p3 ∧ n3 = n3))))) ∧
 (decide (IntKind.wrap IntKind.i64 (IntKind.wrap IntKind.i64 ((0 : Int) + (1 : Int)) + (1 : Int)) < (↑(3 : Nat) : Int)) = false →
 (l3a (cwI g1 p1 n1 l) (cwI g2 p2 n2 l) (cwI g3 p3 n3 l) (okC g1 p1 l) (okC g2 p2 l) = true →
 m1 = m1 ∧
 s1 = s1 ∧ h1 = h1 ∧ q1 = q1 ∧ o1 = o1 ∧ true = true ∧ l = l ∧ g1 = g1 ∧ p1 = p1 ∧ n1 = n1 ∧ g2 = g2 ∧ p2 = p2 ∧ n2 = n2 ∧ g3 = g3 ∧ p3 = p3 ∧ n3 = n3) ∧
 (¬l3a (cwI g1 p1 n1 l) (cwI g2 p2 n2 l) (cwI g3 p3 n3 l) (okC g1 p1 l) (okC g2 p2 l) = true →
 (l3b (cwI g1 p1 n1 l) (cwI g2 p2 n2 l) (cwI g3 p3 n3 l) (okC g1 p1 l) (okC g2 p2 l) = true →
 m1 = m2 ∧
 s1 = s2 ∧
 h1 = h2 ∧
 q1 = q2 ∧
 o1 = o2 ∧ False ∧ False ∧ true = true ∧ l = l ∧ g1 = g1 ∧ p1 = p1 ∧ n1 = n1 ∧ g2 = g2 ∧ p2 = p2 ∧ n2 = n2 ∧ g3 = g3 ∧ p3 = p3 ∧ n3 = n3) ∧
 (¬l3b (cwI g1 p1 n1 l) (cwI g2 p2 n2 l) (cwI g3 p3 n3 l) (okC g1 p1 l) (okC g2 p2 l) = true →
 m1 = m3 ∧
 s1 = s3 ∧
 h1 = h3 ∧
 q1 = q3 ∧
 o1 = o3 ∧ False ∧ False ∧ true = true ∧ l = l ∧ g1 = g1 ∧ p1 = p1 ∧ n1 = n1 ∧ g2 = g2 ∧ p2 = p2 ∧ n2 = n2 ∧ g3 = g3 ∧ p3 = p3 ∧ n3 = n3))))) ∧
 (okC g2 p2 l = false →
 (decide (IntKind.wrap IntKind.i64 (IntKind.wrap IntKind.i64 ((0 : Int) + (1 : Int)) + (1 : Int)) < (↑(3 : Nat) : Int)) = true →
 (0 : Int) ≤ IntKind.wrap IntKind.i64 (IntKind.wrap IntKind.i64 ((0 : Int) + (1 : Int)) + (1 : Int)) ∧
 IntKind.wrap IntKind.i64 (IntKind.wrap IntKind.i64 ((0 : Int) + (1 : Int)) + (1 : Int)) < (↑(3 : Nat) : Int) ∧
 List.length p3 ≤ (4294967296 : Nat) ∧
 List.length l ≤ (4294967296 : Nat) ∧
 (okC g3 p3 l = true →
 (decide (cwI g3 p3 n3 l < cwI g1 p1 n1 l) = true →
 (decide
 (IntKind.wrap IntKind.i64 (IntKind.wrap IntKind.i64 (IntKind.wrap IntKind.i64 ((0 : Int) + (1 : Int)) + (1 : Int)) + (1 : Int)) <
 (↑(3 : Nat) : Int)) =
 true →
 (0 : Int) ≤ IntKind.wrap IntKind.i64 (IntKind.wrap IntKind.i64 (IntKind.wrap IntKind.i64 ((0 : Int) + (1 : Int)) + (1 : Int)) + (1 : Int)) ∧
 IntKind.wrap IntKind.i64 (IntKind.wrap IntKind.i64 (IntKind.wrap IntKind.i64 ((0 : Int) + (1 : Int)) + (1 : Int)) + (1 : Int)) <
 (↑(3 : Nat) : Int) ∧
 False ∧ False ∧ False ∧ False ∧ False ∧ False) ∧
 (decide
 (IntKind.wrap IntKind.i64 (IntKind.wrap IntKind.i64 (IntKind.wrap IntKind.i64 ((0 : Int) + (1 : Int)) + (1 : Int)) + (1 : Int)) <
 (↑(3 : Nat) : Int)) =
 false →
 (l3a (cwI g1 p1 n1 l) (cwI g2 p2 n2 l) (cwI g3 p3 n3 l) (okC g1 p1 l) (okC g2 p2 l) = true →
 m3 = m1 ∧
 s3 = s1 ∧
 h3 = h1 ∧
 q3 = q1 ∧
 o3 = o1 ∧
 False ∧ False ∧ true = true ∧ l = l ∧ g1 = g1 ∧ p1 = p1 ∧ n1 = n1 ∧ g2 = g2 ∧ p2 = p2 ∧ n2 = n2 ∧ g3 = g3 ∧ p3 = p3 ∧ n3 = n3) ∧
 (¬l3a (cwI g1 p1 n1 l) (cwI g2 p2 n2 l) (cwI g3 p3 n3 l) (okC g1 p1 l) (okC g2 p2 l) = true →
 (l3b (cwI g1 p1 n1 l) (cwI g2 p2 n2 l) (cwI g3 p3 n3 l) (okC g1 p1 l) (okC g2 p2 l) = true →
 m3 = m2 ∧
 s3 = s2 ∧
 h3 = h2 ∧
 q3 = q2 ∧
 o3 = o2 ∧
 False ∧
 False ∧ true = true ∧ l = l ∧ g1 = g1 ∧ p1 = p1 ∧ n1 = n1 ∧ g2 = g2 ∧ p2 = p2 ∧ n2 = n2 ∧ g3 = g3 ∧ p3 = p3 ∧ n3 = n3) ∧
 (¬l3b (cwI g1 p1 n1 l) (cwI g2 p2 n2 l) (cwI g3 p3 n3 l) (okC g1 p1 l) (okC g2 p2 l) = true →
 m3 = m3 ∧
 s3 = s3 ∧
 h3 = h3 ∧
 q3 = q3 ∧
 o3 = o3 ∧ true = true ∧ l = l ∧ g1 = g1 ∧ p1 = p1 ∧ n1 = n1 ∧ g2 = g2 ∧ p2 = p2 ∧ n2 = n2 ∧ g3 = g3 ∧ p3 = p3 ∧ n3 = n3)))) ∧
 (decide (cwI g3 p3 n3 l < cwI g1 p1 n1 l) = false →
 (decide
 (IntKind.wrap IntKind.i64 (IntKind.wrap IntKind.i64 (IntKind.wrap IntKind.i64 ((0 : Int) + (1 : Int)) + (1 : Int)) + (1 : Int)) <
 (↑(3 : Nat) : Int)) =
 true →
 (0 : Int) ≤ IntKind.wrap IntKind.i64 (IntKind.wrap IntKind.i64 (IntKind.wrap IntKind.i64 ((0 : Int) + (1 : Int)) + (1 : Int)) + (1 : Int)) ∧
 IntKind.wrap IntKind.i64 (IntKind.wrap IntKind.i64 (IntKind.wrap IntKind.i64 ((0 : Int) + (1 : Int)) + (1 : Int)) + (1 : Int)) <
 (↑(3 : Nat) : Int) ∧
 False ∧ False ∧ False ∧ False ∧ False ∧ False) ∧
 (decide
 (IntKind.wrap IntKind.i64 (IntKind.wrap IntKind.i64 (IntKind.wrap IntKind.i64 ((0 : Int) + (1 : Int)) + (1 : Int)) + (1 : Int)) <
 (↑(3 : Nat) : Int)) =
 false →
 (l3a (cwI g1 p1 n1 l) (cwI g2 p2 n2 l) (cwI g3 p3 n3 l) (okC g1 p1 l) (okC g2 p2 l) = true →
 m1 = m1 ∧
 s1 = s1 ∧
 h1 = h1 ∧
 q1 = q1 ∧ o1 = o1 ∧ true = true ∧ l = l ∧ g1 = g1 ∧ p1 = p1 ∧ n1 = n1 ∧ g2 = g2 ∧ p2 = p2 ∧ n2 = n2 ∧ g3 = g3 ∧ p3 = p3 ∧ n3 = n3) ∧
 (¬l3a (cwI g1 p1 n1 l) (cwI g2 p2 n2 l) (cwI g3 p3 n3 l) (okC g1 p1 l) (okC g2 p2 l) = true →
 (l3b (cwI g1 p1 n1 l) (cwI g2 p2 n2 l) (cwI g3 p3 n3 l) (okC g1 p1 l) (okC g2 p2 l) = true →
 m1 = m2 ∧
 s1 = s2 ∧
 h1 = h2 ∧
 q1 = q2 ∧
 o1 = o2 ∧
 False ∧
 False ∧ true = true ∧ l = l ∧ g1 = g1 ∧ p1 = p1 ∧ n1 = n1 ∧ g2 = g2 ∧ p2 = p2 ∧ n2 = n2 ∧ g3 = g3 ∧ p3 = p3 ∧ n3 = n3) ∧
 (¬l3b (cwI g1 p1 n1 l) (cwI g2 p2 n2 l) (cwI g3 p3 n3 l) (okC g1 p1 l) (okC g2 p2 l) = true →
 m1 = m3 ∧
 s1 = s3 ∧
 h1 = h3 ∧
 q1 = q3 ∧
 o1 = o3 ∧
 False ∧
 False ∧ true = true ∧ l = l ∧ g1 = g1 ∧ p1 = p1 ∧ n1 = n1 ∧ g2 = g2 ∧ p2 = p2 ∧ n2 = n2 ∧ g3 = g3 ∧ p3 = p3 ∧ n3 = n3))))) ∧
 (okC g3 p3 l = false →
 (decide
 (IntKind.wrap IntKind.i64 (IntKind.wrap IntKind.i64 (IntKind.wrap IntKind.i64 ((0 : Int) + (1 : Int)) + (1 : Int)) + (1 : Int)) <
 (↑(3 : Nat) : Int)) =
 true →
 (0 : Int) ≤ IntKind.wrap IntKind.i64 (IntKind.wrap IntKind.i64 (IntKind.wrap IntKind.i64 ((0 : Int) + (1 : Int)) + (1 : Int)) + (1 : Int)) ∧
 IntKind.wrap IntKind.i64 (IntKind.wrap IntKind.i64 (IntKind.wrap IntKind.i64 ((0 : Int) + (1 : Int)) + (1 : Int)) + (1 : Int)) <
 (↑(3 : Nat) : Int) ∧
 False ∧ False ∧ False ∧ False ∧ False ∧ False) ∧
 (decide
 (IntKind.wrap IntKind.i64 (IntKind.wrap IntKind.i64 (IntKind.wrap IntKind.i64 ((0 : Int) + (1 : Int)) + (1 : Int)) + (1 : Int)) <
 (↑(3 : Nat) : Int)) =
 false →
 (l3a (cwI g1 p1 n1 l) (cwI g2 p2 n2 l) (cwI g3 p3 n3 l) (okC g1 p1 l) (okC g2 p2 l) = true →
 m1 = m1 ∧
 s1 = s1 ∧
 h1 = h1 ∧
 q1 = q1 ∧ o1 = o1 ∧ true = true ∧ l = l ∧ g1 = g1 ∧ p1 = p1 ∧ n1 = n1 ∧ g2 = g2 ∧ p2 = p2 ∧ n2 = n2 ∧ g3 = g3 ∧ p3 = p3 ∧ n3 = n3) ∧
 (¬l3a (cwI g1 p1 n1 l) (cwI g2 p2 n2 l) (cwI g3 p3 n3 l) (okC g1 p1 l) (okC g2 p2 l) = true →
 (l3b (cwI g1 p1 n1 l) (cwI g2 p2 n2 l) (cwI g3 p3 n3 l) (okC g1 p1 l) (okC g2 p2 l) = true →
 m1 = m2 ∧
 s1 = s2 ∧
 h1 = h2 ∧
 q1 = q2 ∧
 o1 = o2 ∧
 False ∧ False ∧ true = true ∧ l = l ∧ g1 = g1 ∧ p1 = p1 ∧ n1 = n1 ∧ g2 = g2 ∧ p2 = p2 ∧ n2 = n2 ∧ g3 = g3 ∧ p3 = p3 ∧ n3 = n3) ∧
 (¬l3b (cwI g1 p1 n1 l) (cwI g2 p2 n2 l) (cwI g3 p3 n3 l) (okC g1 p1 l) (okC g2 p2 l) = true →
 m1 = m3 ∧
 s1 = s3 ∧
 h1 = h3 ∧
 q1 = q3 ∧
 o1 = o3 ∧
 False ∧
 False ∧ true = true ∧ l = l ∧ g1 = g1 ∧ p1 = p1 ∧ n1 = n1 ∧ g2 = g2 ∧ p2 = p2 ∧ n2 = n2 ∧ g3 = g3 ∧ p3 = p3 ∧ n3 = n3))))) ∧
 (decide (IntKind.wrap IntKind.i64 (IntKind.wrap IntKind.i64 ((0 : Int) + (1 : Int)) + (1 : Int)) < (↑(3 : Nat) : Int)) = false →
 (l3a (cwI g1 p1 n1 l) (cwI g2 p2 n2 l) (cwI g3 p3 n3 l) (okC g1 p1 l) (okC g2 p2 l) = true →
 m1 = m1 ∧
 s1 = s1 ∧ h1 = h1 ∧ q1 = q1 ∧ o1 = o1 ∧ true = true ∧ l = l ∧ g1 = g1 ∧ p1 = p1 ∧ n1 = n1 ∧ g2 = g2 ∧ p2 = p2 ∧ n2 = n2 ∧ g3 = g3 ∧ p3 = p3 ∧ n3 = n3) ∧
 (¬l3a (cwI g1 p1 n1 l) (cwI g2 p2 n2 l) (cwI g3 p3 n3 l) (okC g1 p1 l) (okC g2 p2 l) = true →
 (l3b (cwI g1 p1 n1 l) (cwI g2 p2 n2 l) (cwI g3 p3 n3 l) (okC g1 p1 l) (okC g2 p2 l) = true →
 m1 = m2 ∧
 s1 = s2 ∧
 h1 = h2 ∧
 q1 = q2 ∧ o1 = o2 ∧ False ∧ False ∧ true = true ∧ l = l ∧ g1 = g1 ∧ p1 = p1 ∧ n1 = n1 ∧ g2 = g2 ∧ p2 = p2 ∧ n2 = n2 ∧ g3 = g3 ∧ p3 = p3 ∧ n3 = n3) ∧
 (¬l3b (cwI g1 p1 n1 l) (cwI g2 p2 n2 l) (cwI g3 p3 n3 l) (okC g1 p1 l) (okC g2 p2 l) = true →
 m1 = m3 ∧
 s1 = s3 ∧
 h1 = h3 ∧
 q1 = q3 ∧
 o1 = o3 ∧ False ∧ False ∧ true = true ∧ l = l ∧ g1 = g1 ∧ p1 = p1 ∧ n1 = n1 ∧ g2 = g2 ∧ p2 = p2 ∧ n2 = n2 ∧ g3 = g3 ∧ p3 = p3 ∧ n3 = n3))))) ∧
 (decide (IntKind.wrap IntKind.i64 ((0 : Int) + (1 : Int)) < (↑(3 : Nat) : Int)) = false →
 (l3a (cwI g1 p1 n1 l) (cwI g2 p2 n2 l) (cwI g3 p3 n3 l) (okC g1 p1 l) (okC g2 p2 l) = true →
 m1 = m1 ∧ s1 = s1 ∧ h1 = h1 ∧ q1 = q1 ∧ o1 = o1 ∧ true = true ∧ l = l ∧ g1 = g1 ∧ p1 = p1 ∧ n1 = n1 ∧ g2 = g2 ∧ p2 = p2 ∧ n2 = n2 ∧ g3 = g3 ∧ p3 = p3 ∧ n3 = n3) ∧
 (¬l3a (cwI g1 p1 n1 l) (cwI g2 p2 n2 l) (cwI g3 p3 n3 l) (okC g1 p1 l) (okC g2 p2 l) = true →
 (l3b (cwI g1 p1 n1 l) (cwI g2 p2 n2 l) (cwI g3 p3 n3 l) (okC g1 p1 l) (okC g2 p2 l) = true →
 m1 = m2 ∧
 s1 = s2 ∧ h1 = h2 ∧ q1 = q2 ∧ o1 = o2 ∧ False ∧ False ∧ true = true ∧ l = l ∧ g1 = g1 ∧ p1 = p1 ∧ n1 = n1 ∧ g2 = g2 ∧ p2 = p2 ∧ n2 = n2 ∧ g3 = g3 ∧ p3 = p3 ∧ n3 = n3) ∧
 (¬l3b (cwI g1 p1 n1 l) (cwI g2 p2 n2 l) (cwI g3 p3 n3 l) (okC g1 p1 l) (okC g2 p2 l) = true →
 m1 = m3 ∧
 s1 = s3 ∧
 h1 = h3 ∧ q1 = q3 ∧ o1 = o3 ∧ False ∧ False ∧ true = true ∧ l = l ∧ g1 = g1 ∧ p1 = p1 ∧ n1 = n1 ∧ g2 = g2 ∧ p2 = p2 ∧ n2 = n2 ∧ g3 = g3 ∧ p3 = p3 ∧ n3 = n3)))) ∧
 (okC g1 p1 l = false →
 (decide (IntKind.wrap IntKind.i64 ((0 : Int) + (1 : Int)) < (↑(3 : Nat) : Int)) = true →
 (0 : Int) ≤ IntKind.wrap IntKind.i64 ((0 : Int) + (1 : Int)) ∧
 IntKind.wrap IntKind.i64 ((0 : Int) + (1 : Int)) < (↑(3 : Nat) : Int) ∧
 List.length p2 ≤ (4294967296 : Nat) ∧
 List.length l ≤ (4294967296 : Nat) ∧
 (okC g2 p2 l = true →
 (decide (IntKind.wrap IntKind.i64 (IntKind.wrap IntKind.i64 ((0 : Int) + (1 : Int)) + (1 : Int)) < (↑(3 : Nat) : Int)) = true →
 (0 : Int) ≤ IntKind.wrap IntKind.i64 (IntKind.wrap IntKind.i64 ((0 : Int) + (1 : Int)) + (1 : Int)) ∧
 IntKind.wrap IntKind.i64 (IntKind.wrap IntKind.i64 ((0 : Int) + (1 : Int)) + (1 : Int)) < (↑(3 : Nat) : Int) ∧
 List.length p3 ≤ (4294967296 : Nat) ∧
 List.length l ≤ (4294967296 : Nat) ∧
 (okC g3 p3 l = true →
 (decide (cwI g3 p3 n3 l < cwI g2 p2 n2 l) = true →
 (decide
 (IntKind.wrap IntKind.i64 (IntKind.wrap IntKind.i64 (IntKind.wrap IntKind.i64 ((0 : Int) + (1 : Int)) + (1 : Int)) + (1 : Int)) <
 (↑(3 : Nat) : Int)) =
 true →
 (0 : Int) ≤ IntKind.wrap IntKind.i64 (IntKind.wrap IntKind.i64 (IntKind.wrap IntKind.i64 ((0 : Int) + (1 : Int)) + (1 : Int)) + (1 : Int)) ∧
 IntKind.wrap IntKind.i64 (IntKind.wrap IntKind.i64 (IntKind.wrap IntKind.i64 ((0 : Int) + (1 : Int)) + (1 : Int)) + (1 : Int)) <
 (↑(3 : Nat) : Int) ∧
 False ∧ False ∧ False ∧ False ∧ False ∧ False) ∧
 (decide
 (IntKind.wrap IntKind.i64 (IntKind.wrap IntKind.i64 (IntKind.wrap IntKind.i64 ((0 : Int) + (1 : Int)) + (1 : Int)) + (1 : Int)) <
 (↑(3 : Nat) : Int)) =
 false →
 (l3a (cwI g1 p1 n1 l) (cwI g2 p2 n2 l) (cwI g3 p3 n3 l) (okC g1 p1 l) (okC g2 p2 l) = true →
 m3 = m1 ∧
 s3 = s1 ∧
 h3 = h1 ∧
 q3 = q1 ∧
 o3 = o1 ∧
 False ∧ False ∧ true = true ∧ l = l ∧ g1 = g1 ∧ p1 = p1 ∧ n1 = n1 ∧ g2 = g2 ∧ p2 = p2 ∧ n2 = n2 ∧ g3 = g3 ∧ p3 = p3 ∧ n3 = n3) ∧
 (¬l3a (cwI g1 p1 n1 l) (cwI g2 p2 n2 l) (cwI g3 p3 n3 l) (okC g1 p1 l) (okC g2 p2 l) = true →
 (l3b (cwI g1 p1 n1 l) (cwI g2 p2 n2 l) (cwI g3 p3 n3 l) (okC g1 p1 l) (okC g2 p2 l) = true →
 m3 = m2 ∧
 s3 = s2 ∧
 h3 = h2 ∧
 q3 = q2 ∧
 o3 = o2 ∧
 False ∧
 False ∧ true = true ∧ l = l ∧ g1 = g1 ∧ p1 = p1 ∧ n1 = n1 ∧ g2 = g2 ∧ p2 = p2 ∧ n2 = n2 ∧ g3 = g3 ∧ p3 = p3 ∧ n3 = n3) ∧
 (¬l3b (cwI g1 p1 n1 l) (cwI g2 p2 n2 l) (cwI g3 p3 n3 l) (okC g1 p1 l) (okC g2 p2 l) = true →
 m3 = m3 ∧
 s3 = s3 ∧
 h3 = h3 ∧
 q3 = q3 ∧
 o3 = o3 ∧ true = true ∧ l = l ∧ g1 = g1 ∧ p1 = p1 ∧ n1 = n1 ∧ g2 = g2 ∧ p2 = p2 ∧ n2 = n2 ∧ g3 = g3 ∧ p3 = p3 ∧ n3 = n3)))) ∧
 (decide (cwI g3 p3 n3 l < cwI g2 p2 n2 l) = false →
 (decide
 (IntKind.wrap IntKind.i64 (IntKind.wrap IntKind.i64 (IntKind.wrap IntKind.i64 ((0 : Int) + (1 : Int)) + (1 : Int)) + (1 : Int)) <
 (↑(3 : Nat) : Int)) =
 true →
 (0 : Int) ≤ IntKind.wrap IntKind.i64 (IntKind.wrap IntKind.i64 (IntKind.wrap IntKind.i64 ((0 : Int) + (1 : Int)) + (1 : Int)) + (1 : Int)) ∧
 IntKind.wrap IntKind.i64 (IntKind.wrap IntKind.i64 (IntKind.wrap IntKind.i64 ((0 : Int) + (1 : Int)) + (1 : Int)) + (1 : Int)) <
 (↑(3 : Nat) : Int) ∧
 False ∧ False ∧ False ∧ False ∧ False ∧ False) ∧
 (decide
 (IntKind.wrap IntKind.i64 (IntKind.wrap IntKind.i64 (IntKind.wrap IntKind.i64 ((0 : Int) + (1 : Int)) + (1 : Int)) + (1 : Int)) <
 (↑(3 : Nat) : Int)) =
 false →
 (l3a (cwI g1 p1 n1 l) (cwI g2 p2 n2 l) (cwI g3 p3 n3 l) (okC g1 p1 l) (okC g2 p2 l) = true →
 m2 = m1 ∧
 s2 = s1 ∧
 h2 = h1 ∧
 q2 = q1 ∧
 o2 = o1 ∧
 False ∧ False ∧ true = true ∧ l = l ∧ g1 = g1 ∧ p1 = p1 ∧ n1 = n1 ∧ g2 = g2 ∧ p2 = p2 ∧ n2 = n2 ∧ g3 = g3 ∧ p3 = p3 ∧ n3 = n3) ∧
 (¬l3a (cwI g1 p1 n1 l) (cwI g2 p2 n2 l) (cwI g3 p3 n3 l) (okC g1 p1 l) (okC g2 p2 l) = true →
 (l3b (cwI g1 p1 n1 l) (cwI g2 p2 n2 l) (cwI g3 p3 n3 l) (okC g1 p1 l) (okC g2 p2 l) = true →
 m2 = m2 ∧
 s2 = s2 ∧
 h2 = h2 ∧
 q2 = q2 ∧
 o2 = o2 ∧ true = true ∧ l = l ∧ g1 = g1 ∧ p1 = p1 ∧ n1 = n1 ∧ g2 = g2 ∧ p2 = p2 ∧ n2 = n2 ∧ g3 = g3 ∧ p3 = p3 ∧ n3 = n3) ∧
 (¬l3b (cwI g1 p1 n1 l) (cwI g2 p2 n2 l) (cwI g3 p3 n3 l) (okC g1 p1 l) (okC g2 p2 l) = true →
 m2 = m3 ∧
 s2 = s3 ∧
 h2 = h3 ∧
 q2 = q3 ∧
 o2 = o3 ∧
 False ∧
 False ∧ true = true ∧ l = l ∧ g1 = g1 ∧ p1 = p1 ∧ n1 = n1 ∧ g2 = g2 ∧ p2 = p2 ∧ n2 = n2 ∧ g3 = g3 ∧ p3 = p3 ∧ n3 = n3))))) ∧
 (okC g3 p3 l = false →
 (decide
 (IntKind.wrap IntKind.i64 (IntKind.wrap IntKind.i64 (IntKind.wrap IntKind.i64 ((0 : Int) + (1 : Int)) + (1 : Int)) + (1 : Int)) <
 (↑(3 : Nat) : Int)) =
 true →
 (0 : Int) ≤ IntKind.wrap IntKind.i64 (IntKind.wrap IntKind.i64 (IntKind.wrap IntKind.i64 ((0 : Int) + (1 : Int)) + (1 : Int)) + (1 : Int)) ∧
 IntKind.wrap IntKind.i64 (IntKind.wrap IntKind.i64 (IntKind.wrap IntKind.i64 ((0 : Int) + (1 : Int)) + (1 : Int)) + (1 : Int)) <
 (↑(3 : Nat) : Int) ∧
 False ∧ False ∧ False ∧ False ∧ False ∧ False) ∧
 (decide
 (IntKind.wrap IntKind.i64 (IntKind.wrap IntKind.i64 (IntKind.wrap IntKind.i64 ((0 : Int) + (1 : Int)) + (1 : Int)) + (1 : Int)) <
 (↑(3 : Nat) : Int)) =
 false →
 (l3a (cwI g1 p1 n1 l) (cwI g2 p2 n2 l) (cwI g3 p3 n3 l) (okC g1 p1 l) (okC g2 p2 l) = true →
 m2 = m1 ∧
 s2 = s1 ∧
 h2 = h1 ∧
 q2 = q1 ∧
 o2 = o1 ∧
 False ∧ False ∧ true = true ∧ l = l ∧ g1 = g1 ∧ p1 = p1 ∧ n1 = n1 ∧ g2 = g2 ∧ p2 = p2 ∧ n2 = n2 ∧ g3 = g3 ∧ p3 = p3 ∧ n3 = n3) ∧
 (¬l3a (cwI g1 p1 n1 l) (cwI g2 p2 n2 l) (cwI g3 p3 n3 l) (okC g1 p1 l) (okC g2 p2 l) = true →
 (l3b (cwI g1 p1 n1 l) (cwI g2 p2 n2 l) (cwI g3 p3 n3 l) (okC g1 p1 l) (okC g2 p2 l) = true →
 m2 = m2 ∧
 s2 = s2 ∧
 h2 = h2 ∧
 q2 = q2 ∧ o2 = o2 ∧ true = true ∧ l = l ∧ g1 = g1 ∧ p1 = p1 ∧ n1 = n1 ∧ g2 = g2 ∧ p2 = p2 ∧ n2 = n2 ∧ g3 = g3 ∧ p3 = p3 ∧ n3 = n3) ∧
 (¬l3b (cwI g1 p1 n1 l) (cwI g2 p2 n2 l) (cwI g3 p3 n3 l) (okC g1 p1 l) (okC g2 p2 l) = true →
 m2 = m3 ∧
 s2 = s3 ∧
 h2 = h3 ∧
 q2 = q3 ∧
 o2 = o3 ∧
 False ∧
 False ∧ true = true ∧ l = l ∧ g1 = g1 ∧ p1 = p1 ∧ n1 = n1 ∧ g2 = g2 ∧ p2 = p2 ∧ n2 = n2 ∧ g3 = g3 ∧ p3 = p3 ∧ n3 = n3))))) ∧
 (decide (IntKind.wrap IntKind.i64 (IntKind.wrap IntKind.i64 ((0 : Int) + (1 : Int)) + (1 : Int)) < (↑(3 : Nat) : Int)) = false →
 (l3a (cwI g1 p1 n1 l) (cwI g2 p2 n2 l) (cwI g3 p3 n3 l) (okC g1 p1 l) (okC g2 p2 l) = true →
 m2 = m1 ∧
 s2 = s1 ∧
 h2 = h1 ∧
 q2 = q1 ∧ o2 = o1 ∧ False ∧ False ∧ true = true ∧ l = l ∧ g1 = g1 ∧ p1 = p1 ∧ n1 = n1 ∧ g2 = g2 ∧ p2 = p2 ∧ n2 = n2 ∧ g3 = g3 ∧ p3 = p3 ∧ n3 = n3) ∧
 (¬l3a (cwI g1 p1 n1 l) (cwI g2 p2 n2 l) (cwI g3 p3 n3 l) (okC g1 p1 l) (okC g2 p2 l) = true →
 (l3b (cwI g1 p1 n1 l) (cwI g2 p2 n2 l) (cwI g3 p3 n3 l) (okC g1 p1 l) (okC g2 p2 l) = true →
 m2 = m2 ∧
 s2 = s2 ∧ h2 = h2 ∧ q2 = q2 ∧ o2 = o2 ∧ true = true ∧ l = l ∧ g1 = g1 ∧ p1 = p1 ∧ n1 = n1 ∧ g2 = g2 ∧ p2 = p2 ∧ n2 = n2 ∧ g3 = g3 ∧ p3 = p3 ∧ n3 = n3) ∧
 (¬l3b (cwI g1 p1 n1 l) (cwI g2 p2 n2 l) (cwI g3 p3 n3 l) (okC g1 p1 l) (okC g2 p2 l) = true →
 m2 = m3 ∧
 s2 = s3 ∧
 h2 = h3 ∧
 q2 = q3 ∧
 o2 = o3 ∧ False ∧ False ∧ true = true ∧ l = l ∧ g1 = g1 ∧ p1 = p1 ∧ n1 = n1 ∧ g2 = g2 ∧ p2 = p2 ∧ n2 = n2 ∧ g3 = g3 ∧ p3 = p3 ∧ n3 = n3)))) ∧
 (okC g2 p2 l = false →
 (decide (IntKind.wrap IntKind.i64 (IntKind.wrap IntKind.i64 ((0 : Int) + (1 : Int)) + (1 : Int)) < (↑(3 : Nat) : Int)) = true →
 (0 : Int) ≤ IntKind.wrap IntKind.i64 (IntKind.wrap IntKind.i64 ((0 : Int) + (1 : Int)) + (1 : Int)) ∧
 IntKind.wrap IntKind.i64 (IntKind.wrap IntKind.i64 ((0 : Int) + (1 : Int)) + (1 : Int)) < (↑(3 : Nat) : Int) ∧
 List.length p3 ≤ (4294967296 : Nat) ∧
 List.length l ≤ (4294967296 : Nat) ∧
 (okC g3 p3 l = true →
 (decide
 (IntKind.wrap IntKind.i64 (IntKind.wrap IntKind.i64 (IntKind.wrap IntKind.i64 ((0 : Int) + (1 : Int)) + (1 : Int)) + (1 : Int)) <
 (↑(3 : Nat) : Int)) =
 true →
 (0 : Int) ≤ IntKind.wrap IntKind.i64 (IntKind.wrap IntKind.i64 (IntKind.wrap IntKind.i64 ((0 : Int) + (1 : Int)) + (1 : Int)) + (1 : Int)) ∧
 IntKind.wrap IntKind.i64 (IntKind.wrap IntKind.i64 (IntKind.wrap IntKind.i64 ((0 : Int) + (1 : Int)) + (1 : Int)) + (1 : Int)) <
 (↑(3 : Nat) : Int) ∧
 False ∧ False ∧ False ∧ False ∧ False ∧ False) ∧
 (decide
 (IntKind.wrap IntKind.i64 (IntKind.wrap IntKind.i64 (IntKind.wrap IntKind.i64 ((0 : Int) + (1 : Int)) + (1 : Int)) + (1 : Int)) <
 (↑(3 : Nat) : Int)) =
 false →
 (l3a (cwI g1 p1 n1 l) (cwI g2 p2 n2 l) (cwI g3 p3 n3 l) (okC g1 p1 l) (okC g2 p2 l) = true →
 m3 = m1 ∧
 s3 = s1 ∧
 h3 = h1 ∧
 q3 = q1 ∧
 o3 = o1 ∧
 False ∧ False ∧ true = true ∧ l = l ∧ g1 = g1 ∧ p1 = p1 ∧ n1 = n1 ∧ g2 = g2 ∧ p2 = p2 ∧ n2 = n2 ∧ g3 = g3 ∧ p3 = p3 ∧ n3 = n3) ∧
 (¬l3a (cwI g1 p1 n1 l) (cwI g2 p2 n2 l) (cwI g3 p3 n3 l) (okC g1 p1 l) (okC g2 p2 l) = true →
 (l3b (cwI g1 p1 n1 l) (cwI g2 p2 n2 l) (cwI g3 p3 n3 l) (okC g1 p1 l) (okC g2 p2 l) = true →
 m3 = m2 ∧
 s3 = s2 ∧
 h3 = h2 ∧
 q3 = q2 ∧
 o3 = o2 ∧
 False ∧ False ∧ true = true ∧ l = l ∧ g1 = g1 ∧ p1 = p1 ∧ n1 = n1 ∧ g2 = g2 ∧ p2 = p2 ∧ n2 = n2 ∧ g3 = g3 ∧ p3 = p3 ∧ n3 = n3) ∧
 (¬l3b (cwI g1 p1 n1 l) (cwI g2 p2 n2 l) (cwI g3 p3 n3 l) (okC g1 p1 l) (okC g2 p2 l) = true →
 m3 = m3 ∧
 s3 = s3 ∧
 h3 = h3 ∧
 q3 = q3 ∧
 o3 = o3 ∧ true = true ∧ l = l ∧ g1 = g1 ∧ p1 = p1 ∧ n1 = n1 ∧ g2 = g2 ∧ p2 = p2 ∧ n2 = n2 ∧ g3 = g3 ∧ p3 = p3 ∧ n3 = n3)))) ∧
 (okC g3 p3 l = false →
 (decide
 (IntKind.wrap IntKind.i64 (IntKind.wrap IntKind.i64 (IntKind.wrap IntKind.i64 ((0 : Int) + (1 : Int)) + (1 : Int)) + (1 : Int)) <
 (↑(3 : Nat) : Int)) =
 true →
 (0 : Int) ≤ IntKind.wrap IntKind.i64 (IntKind.wrap IntKind.i64 (IntKind.wrap IntKind.i64 ((0 : Int) + (1 : Int)) + (1 : Int)) + (1 : Int)) ∧
 IntKind.wrap IntKind.i64 (IntKind.wrap IntKind.i64 (IntKind.wrap IntKind.i64 ((0 : Int) + (1 : Int)) + (1 : Int)) + (1 : Int)) <
 (↑(3 : Nat) : Int) ∧
 False ∧ False ∧ False ∧ False ∧ False ∧ False) ∧
 (decide
 (IntKind.wrap IntKind.i64 (IntKind.wrap IntKind.i64 (IntKind.wrap IntKind.i64 ((0 : Int) + (1 : Int)) + (1 : Int)) + (1 : Int)) <
 (↑(3 : Nat) : Int)) =
 false →
 (l3a (cwI g1 p1 n1 l) (cwI g2 p2 n2 l) (cwI g3 p3 n3 l) (okC g1 p1 l) (okC g2 p2 l) = true →
 (0 : Int) = m1 ∧
 (0 : Int) = s1 ∧
 (0 : Int) = h1 ∧
 List.length q1 = (0 : Nat) ∧
 (0 : Int) = o1 ∧
 False ∧ false = true ∧ l = l ∧ g1 = g1 ∧ p1 = p1 ∧ n1 = n1 ∧ g2 = g2 ∧ p2 = p2 ∧ n2 = n2 ∧ g3 = g3 ∧ p3 = p3 ∧ n3 = n3) ∧
 (¬l3a (cwI g1 p1 n1 l) (cwI g2 p2 n2 l) (cwI g3 p3 n3 l) (okC g1 p1 l) (okC g2 p2 l) = true →
 (l3b (cwI g1 p1 n1 l) (cwI g2 p2 n2 l) (cwI g3 p3 n3 l) (okC g1 p1 l) (okC g2 p2 l) = true →
 (0 : Int) = m2 ∧
 (0 : Int) = s2 ∧
 (0 : Int) = h2 ∧
 List.length q2 = (0 : Nat) ∧
 (0 : Int) = o2 ∧
 False ∧ false = true ∧ l = l ∧ g1 = g1 ∧ p1 = p1 ∧ n1 = n1 ∧ g2 = g2 ∧ p2 = p2 ∧ n2 = n2 ∧ g3 = g3 ∧ p3 = p3 ∧ n3 = n3) ∧
 (¬l3b (cwI g1 p1 n1 l) (cwI g2 p2 n2 l) (cwI g3 p3 n3 l) (okC g1 p1 l) (okC g2 p2 l) = true →
 (0 : Int) = m3 ∧
 (0 : Int) = s3 ∧
 (0 : Int) = h3 ∧
 List.length q3 = (0 : Nat) ∧
 (0 : Int) = o3 ∧
 False ∧ false = true ∧ l = l ∧ g1 = g1 ∧ p1 = p1 ∧ n1 = n1 ∧ g2 = g2 ∧ p2 = p2 ∧ n2 = n2 ∧ g3 = g3 ∧ p3 = p3 ∧ n3 = n3))))) ∧
 (decide (IntKind.wrap IntKind.i64 (IntKind.wrap IntKind.i64 ((0 : Int) + (1 : Int)) + (1 : Int)) < (↑(3 : Nat) : Int)) = false →
 (l3a (cwI g1 p1 n1 l) (cwI g2 p2 n2 l) (cwI g3 p3 n3 l) (okC g1 p1 l) (okC g2 p2 l) = true →
 (0 : Int) = m1 ∧
 (0 : Int) = s1 ∧
 (0 : Int) = h1 ∧
 List.length q1 = (0 : Nat) ∧
 (0 : Int) = o1 ∧ False ∧ false = true ∧ l = l ∧ g1 = g1 ∧ p1 = p1 ∧ n1 = n1 ∧ g2 = g2 ∧ p2 = p2 ∧ n2 = n2 ∧ g3 = g3 ∧ p3 = p3 ∧ n3 = n3) ∧
 (¬l3a (cwI g1 p1 n1 l) (cwI g2 p2 n2 l) (cwI g3 p3 n3 l) (okC g1 p1 l) (okC g2 p2 l) = true →
 (l3b (cwI g1 p1 n1 l) (cwI g2 p2 n2 l) (cwI g3 p3 n3 l) (okC g1 p1 l) (okC g2 p2 l) = true →
 (0 : Int) = m2 ∧
 (0 : Int) = s2 ∧
 (0 : Int) = h2 ∧
 List.length q2 = (0 : Nat) ∧
 (0 : Int) = o2 ∧ False ∧ false = true ∧ l = l ∧ g1 = g1 ∧ p1 = p1 ∧ n1 = n1 ∧ g2 = g2 ∧ p2 = p2 ∧ n2 = n2 ∧ g3 = g3 ∧ p3 = p3 ∧ n3 = n3) ∧
 (¬l3b (cwI g1 p1 n1 l) (cwI g2 p2 n2 l) (cwI g3 p3 n3 l) (okC g1 p1 l) (okC g2 p2 l) = true →
 (0 : Int) = m3 ∧
 (0 : Int) = s3 ∧
 (0 : Int) = h3 ∧
 List.length q3 = (0 : Nat) ∧
 (0 : Int) = o3 ∧ False ∧ false = true ∧ l = l ∧ g1 = g1 ∧ p1 = p1 ∧ n1 = n1 ∧ g2 = g2 ∧ p2 = p2 ∧ n2 = n2 ∧ g3 = g3 ∧ p3 = p3 ∧ n3 = n3))))) ∧
 (decide (IntKind.wrap IntKind.i64 ((0 : Int) + (1 : Int)) < (↑(3 : Nat) : Int)) = false →
 (l3a (cwI g1 p1 n1 l) (cwI g2 p2 n2 l) (cwI g3 p3 n3 l) (okC g1 p1 l) (okC g2 p2 l) = true →
 (0 : Int) = m1 ∧
 (0 : Int) = s1 ∧
 (0 : Int) = h1 ∧
 List.length q1 = (0 : Nat) ∧ (0 : Int) = o1 ∧ False ∧ false = true ∧ l = l ∧ g1 = g1 ∧ p1 = p1 ∧ n1 = n1 ∧ g2 = g2 ∧ p2 = p2 ∧ n2 = n2 ∧ g3 = g3 ∧ p3 = p3 ∧ n3 = n3) ∧
 (¬l3a (cwI g1 p1 n1 l) (cwI g2 p2 n2 l) (cwI g3 p3 n3 l) (okC g1 p1 l) (okC g2 p2 l) = true →
 (l3b (cwI g1 p1 n1 l) (cwI g2 p2 n2 l) (cwI g3 p3 n3 l) (okC g1 p1 l) (okC g2 p2 l) = true →
 (0 : Int) = m2 ∧
 (0 : Int) = s2 ∧
 (0 : Int) = h2 ∧
 List.length q2 = (0 : Nat) ∧
 (0 : Int) = o2 ∧ False ∧ false = true ∧ l = l ∧ g1 = g1 ∧ p1 = p1 ∧ n1 = n1 ∧ g2 = g2 ∧ p2 = p2 ∧ n2 = n2 ∧ g3 = g3 ∧ p3 = p3 ∧ n3 = n3) ∧
 (¬l3b (cwI g1 p1 n1 l) (cwI g2 p2 n2 l) (cwI g3 p3 n3 l) (okC g1 p1 l) (okC g2 p2 l) = true →
 (0 : Int) = m3 ∧
 (0 : Int) = s3 ∧
 (0 : Int) = h3 ∧
 List.length q3 = (0 : Nat) ∧
 (0 : Int) = o3 ∧ False ∧ false = true ∧ l = l ∧ g1 = g1 ∧ p1 = p1 ∧ n1 = n1 ∧ g2 = g2 ∧ p2 = p2 ∧ n2 = n2 ∧ g3 = g3 ∧ p3 = p3 ∧ n3 = n3))))) ∧
 (decide ((0 : Int) < (↑(3 : Nat) : Int)) = false →
 (l3a (cwI g1 p1 n1 l) (cwI g2 p2 n2 l) (cwI g3 p3 n3 l) (okC g1 p1 l) (okC g2 p2 l) = true →
 (0 : Int) = m1 ∧
 (0 : Int) = s1 ∧
 (0 : Int) = h1 ∧ List.length q1 = (0 : Nat) ∧ (0 : Int) = o1 ∧ False ∧ false = true ∧ l = l ∧ g1 = g1 ∧ p1 = p1 ∧ n1 = n1 ∧ g2 = g2 ∧ p2 = p2 ∧ n2 = n2 ∧ g3 = g3 ∧ p3 = p3 ∧ n3 = n3) ∧
 (¬l3a (cwI g1 p1 n1 l) (cwI g2 p2 n2 l) (cwI g3 p3 n3 l) (okC g1 p1 l) (okC g2 p2 l) = true →
 (l3b (cwI g1 p1 n1 l) (cwI g2 p2 n2 l) (cwI g3 p3 n3 l) (okC g1 p1 l) (okC g2 p2 l) = true →
 (0 : Int) = m2 ∧
 (0 : Int) = s2 ∧
 (0 : Int) = h2 ∧ List.length q2 = (0 : Nat) ∧ (0 : Int) = o2 ∧ False ∧ false = true ∧ l = l ∧ g1 = g1 ∧ p1 = p1 ∧ n1 = n1 ∧ g2 = g2 ∧ p2 = p2 ∧ n2 = n2 ∧ g3 = g3 ∧ p3 = p3 ∧ n3 = n3) ∧
 (¬l3b (cwI g1 p1 n1 l) (cwI g2 p2 n2 l) (cwI g3 p3 n3 l) (okC g1 p1 l) (okC g2 p2 l) = true →
 (0 : Int) = m3 ∧
 (0 : Int) = s3 ∧
 (0 : Int) = h3 ∧ List.length q3 = (0 : Nat) ∧ (0 : Int) = o3 ∧ False ∧ false = true ∧ l = l ∧ g1 = g1 ∧ p1 = p1 ∧ n1 = n1 ∧ g2 = g2 ∧ p2 = p2 ∧ n2 = n2 ∧ g3 = g3 ∧ p3 = p3 ∧ n3 = n3)))
theorem least3E_e (l : List Int) (m1 s1 h1 : Int) (q1 : List Int) (o1 g1 : Int) (p1 : List Int) (n1 : Int) (m2 s2 h2 : Int) (q2 : List Int) (o2 g2 : Int) (p2 : List Int) (n2 : Int) (m3 s3 h3 : Int) (q3 : List Int) (o3 g3 : Int) (p3 : List Int) (n3 : Int) : least3E_t l m1 s1 h1 q1 o1 g1 p1 n1 m2 s2 h2 q2 o2 g2 p2 n2 m3 s3 h3 q3 o3 g3 p3 n3 = vcG Tryz.prog (Gof GSb) (fun k => cond (Nat.beq k 0) (some (.unf 4 [500016])) none) Tryz.f29 [.o 0, .fn (.func 30) [] []] [(0, .rc 56 6 3 [.v (.int .i64 m1), .v (.int .i64 s1), .v (.int .i64 h1), .dat (.ints .i64 q1), .v (.int .i64 o1), .fn (.func 24) [] [.p 2 0 0, .p 1 0 0, .p 3 0 0], .v (.int .i64 m2), .v (.int .i64 s2), .v (.int .i64 h2), .dat (.ints .i64 q2), .v (.int .i64 o2), .fn (.func 24) [] [.p 4 0 0, .p 1 0 0, .p 5 0 0], .v (.int .i64 m3), .v (.int .i64 s3), .v (.int .i64 h3), .dat (.ints .i64 q3), .v (.int .i64 o3), .fn (.func 24) [] [.p 6 0 0, .p 1 0 0, .p 7 0 0]]), (1, .cells 22 [.dat (.ints .i64 l)]), (2, .cells 24 [.v (.int .i64 g1), .dat (.ints .i64 p1)]), (3, .cells 3 [.v (.int .i64 n1)]), (4, .cells 24 [.v (.int .i64 g2), .dat (.ints .i64 p2)]), (5, .cells 3 [.v (.int .i64 n2)]), (6, .cells 24 [.v (.int .i64 g3), .dat (.ints .i64 p3)]), (7, .cells 3 [.v (.int .i64 n3)])] (.ite ⟨l3a (cwI g1 p1 n1 l) (cwI g2 p2 n2 l) (cwI g3 p3 n3 l) (okC g1 p1 l) (okC g2 p2 l) = true, inferInstance⟩ (.leaf (.tu [.ag [.v (.int .i64 m1), .v (.int .i64 s1), .v (.int .i64 h1), .dat (.ints .i64 q1), .v (.int .i64 o1), .fn (.func 24) [] [.p 2 0 0, .p 1 0 0, .p 3 0 0]], .v (.bool true)]) ([(1, .cells 22 [.dat (.ints .i64 l)]), (2, .cells 24 [.v (.int .i64 g1), .dat (.ints .i64 p1)]), (3, .cells 3 [.v (.int .i64 n1)]), (4, .cells 24 [.v (.int .i64 g2), .dat (.ints .i64 p2)]), (5, .cells 3 [.v (.int .i64 n2)]), (6, .cells 24 [.v (.int .i64 g3), .dat (.ints .i64 p3)]), (7, .cells 3 [.v (.int .i64 n3)])])) (.ite ⟨l3b (cwI g1 p1 n1 l) (cwI g2 p2 n2 l) (cwI g3 p3 n3 l) (okC g1 p1 l) (okC g2 p2 l) = true, inferInstance⟩ (.leaf (.tu [.ag [.v (.int .i64 m2), .v (.int .i64 s2), .v (.int .i64 h2), .dat (.ints .i64 q2), .v (.int .i64 o2), .fn (.func 24) [] [.p 4 0 0, .p 1 0 0, .p 5 0 0]], .v (.bool true)]) ([(1, .cells 22 [.dat (.ints .i64 l)]), (2, .cells 24 [.v (.int .i64 g1), .dat (.ints .i64 p1)]), (3, .cells 3 [.v (.int .i64 n1)]), (4, .cells 24 [.v (.int .i64 g2), .dat (.ints .i64 p2)]), (5, .cells 3 [.v (.int .i64 n2)]), (6, .cells 24 [.v (.int .i64 g3), .dat (.ints .i64 p3)]), (7, .cells 3 [.v (.int .i64 n3)])])) (.leaf (.tu [.ag [.v (.int .i64 m3), .v (.int .i64 s3), .v (.int .i64 h3), .dat (.ints .i64 q3), .v (.int .i64 o3), .fn (.func 24) [] [.p 6 0 0, .p 1 0 0, .p 7 0 0]], .v (.bool true)]) ([(1, .cells 22 [.dat (.ints .i64 l)]), (2, .cells 24 [.v (.int .i64 g1), .dat (.ints .i64 p1)]), (3, .cells 3 [.v (.int .i64 n1)]), (4, .cells 24 [.v (.int .i64 g2), .dat (.ints .i64 p2)]), (5, .cells 3 [.v (.int .i64 n2)]), (6, .cells 24 [.v (.int .i64 g3), .dat (.ints .i64 p3)]), (7, .cells 3 [.v (.int .i64 n3)])])))) := by kernel_rfl
def chooE_t (k : Int) (cs : List Int) (lm ls lg : Int) (lp : List Int) : Prop :=
 ((kdE k != (0 : Int)) = true →
 (0 : Int) = chM k cs lm ls lg lp ∧
 (0 : Int) = chS k cs lm ls lg lp ∧ (0 : Int) = chG k cs lm ls lg lp ∧ List.length (chP k cs lm ls lg lp) = (0 : Nat) ∧ (0 : Int) = chO k cs lm ls lg lp ∧ (11 : Int) = chE k cs lm ls lg lp) ∧
 ((kdE k != (0 : Int)) = false →
 (((↑(List.length cs) : Int) == (0 : Int)) = true →
 (0 : Int) = chM k cs lm ls lg lp ∧
 (0 : Int) = chS k cs lm ls lg lp ∧ (0 : Int) = chG k cs lm ls lg lp ∧ List.length (chP k cs lm ls lg lp) = (0 : Nat) ∧ (0 : Int) = chO k cs lm ls lg lp ∧ (5 : Int) = chE k cs lm ls lg lp) ∧
 (((↑(List.length cs) : Int) == (0 : Int)) = false →
 (0 : Int) ≤ mostI k ∧
 mostI k ≤ (255 : Int) ∧
 List.length cs ≤ (1000 : Nat) ∧
 (((syE (mostI k) cs == (2 : Int)) = true →
 ∃ (x0 : Unit),
 (kdE k = (0 : Int) ∧ (0 : Nat) < List.length cs) ∧
 k = k ∧
 (24 : Int) = chC k cs ∧
 lm = lm ∧
 ls = ls ∧
 lg = lg ∧
 lp = lp ∧
 (0 : Int) = (0 : Int) ∧
 (0 : Int) = (0 : Int) ∧ (0 : Int) = (0 : Int) ∧ Value.slice none (0 : Nat) (0 : Nat) = Value.slice none (0 : Nat) (0 : Nat) ∧ syL (mostI k) cs = chL k cs) ∧
 ((syE (mostI k) cs == (2 : Int)) = false →
 ∃ (x1 : Unit),
 (kdE k = (0 : Int) ∧ (0 : Nat) < List.length cs) ∧
 k = k ∧
 syE (mostI k) cs = chC k cs ∧
 lm = lm ∧
 ls = ls ∧
 lg = lg ∧
 lp = lp ∧
 (0 : Int) = (0 : Int) ∧
 (0 : Int) = (0 : Int) ∧ (0 : Int) = (0 : Int) ∧ Value.slice none (0 : Nat) (0 : Nat) = Value.slice none (0 : Nat) (0 : Nat) ∧ syL (mostI k) cs = chL k cs)) ∧
 ∀ (x2 : Unit),
 kdE k = (0 : Int) ∧ (0 : Nat) < List.length cs →
 (((chC k cs == (0 : Int)) = true →
 List.length lp ≤ (4294967296 : Nat) ∧
 ∃ (x3 : Unit),
 (kdE k = (0 : Int) ∧ (0 : Nat) < List.length cs) ∧
 k = k ∧
 tbE k lm ls lg lp = chF k cs lm ls lg lp ∧
 lm = lm ∧
 ls = ls ∧
 lg = lg ∧
 lp = lp ∧
 (0 : Int) = (0 : Int) ∧
 (0 : Int) = (0 : Int) ∧ (0 : Int) = (0 : Int) ∧ Value.slice none (0 : Nat) (0 : Nat) = Value.slice none (0 : Nat) (0 : Nat) ∧ chL k cs = chL k cs) ∧
 ((chC k cs == (0 : Int)) = false →
 ∃ (x4 : Unit),
 (kdE k = (0 : Int) ∧ (0 : Nat) < List.length cs) ∧
 k = k ∧
 chC k cs = chF k cs lm ls lg lp ∧
 lm = lm ∧
 ls = ls ∧
 lg = lg ∧
 lp = lp ∧
 (0 : Int) = (0 : Int) ∧
 (0 : Int) = (0 : Int) ∧ (0 : Int) = (0 : Int) ∧ Value.slice none (0 : Nat) (0 : Nat) = Value.slice none (0 : Nat) (0 : Nat) ∧ chL k cs = chL k cs)) ∧
 ∀ (x5 : Unit),
 kdE k = (0 : Int) ∧ (0 : Nat) < List.length cs →
 ((chF k cs lm ls lg lp != (0 : Int)) = true →
 (0 : Int) = chM k cs lm ls lg lp ∧
 (0 : Int) = chS k cs lm ls lg lp ∧
 (0 : Int) = chG k cs lm ls lg lp ∧ List.length (chP k cs lm ls lg lp) = (0 : Nat) ∧ (0 : Int) = chO k cs lm ls lg lp ∧ chF k cs lm ls lg lp = chE k cs lm ls lg lp) ∧
 ((chF k cs lm ls lg lp != (0 : Int)) = false →
 okN (chL k cs) = true ∧
 (onB (chL k cs) = true →
 (1 : Int) = chM k cs lm ls lg lp ∧
 onI (chL k cs) = chS k cs lm ls lg lp ∧
 (0 : Int) = chG k cs lm ls lg lp ∧ List.length (chP k cs lm ls lg lp) = (0 : Nat) ∧ (1 : Int) = chO k cs lm ls lg lp ∧ (0 : Int) = chE k cs lm ls lg lp) ∧
 (onB (chL k cs) = false →
 (∃ (x6 : Unit),
 (chE k cs lm ls lg lp = (0 : Int) ∧ onB (chL k cs) = false) ∧
 k = k ∧
 Value.slice none (0 : Nat) (0 : Nat) = Value.slice none (0 : Nat) (0 : Nat) ∧
 lm = lm ∧
 ls = ls ∧
 lg = lg ∧
 lp = lp ∧
 (0 : Int) = (0 : Int) ∧
 (0 : Int) = (0 : Int) ∧
 (0 : Int) = (0 : Int) ∧ Value.slice none (0 : Nat) (0 : Nat) = Value.slice none (0 : Nat) (0 : Nat) ∧ chL k cs = chL k cs) ∧
 ∀ (x7 : Unit),
 chE k cs lm ls lg lp = (0 : Int) ∧ onB (chL k cs) = false →
 ((lm == (0 : Int)) = true →
 (1 : Nat) * (64 : Nat) ≤ (140737488355328 : Nat) ∧
 (2 : Nat) * (64 : Nat) ≤ (140737488355328 : Nat) ∧
 (0 : Int) ≤ k ∧
 k < (↑(3 : Nat) : Int) ∧
 (3 : Nat) = List.length [(9 : Int), (8 : Int), (9 : Int)] ∧
 okN (chL k cs) = true ∧
 List.length (ofP (chL k cs) (List.getD [(9 : Int), (8 : Int), (9 : Int)] (Int.toNat k) (0 : Int))) ≤ (4294967296 : Nat) ∧
 (3 : Nat) * (64 : Nat) ≤ (140737488355328 : Nat) ∧
 (l3a (cwI lg lp (0 : Int) (chL k cs)) (cwI (preL k) (preP k) (0 : Int) (chL k cs))
 (cwI (ofG (chL k cs) (List.getD [(9 : Int), (8 : Int), (9 : Int)] (Int.toNat k) (0 : Int)))
 (ofP (chL k cs) (List.getD [(9 : Int), (8 : Int), (9 : Int)] (Int.toNat k) (0 : Int)))
 (IntKind.wrap IntKind.i64
 ((8 : Int) *
 (↑(ByteArray.size
 (writeF (ofG (chL k cs) (List.getD [(9 : Int), (8 : Int), (9 : Int)] (Int.toNat k) (0 : Int)))
 (ofP (chL k cs) (List.getD [(9 : Int), (8 : Int), (9 : Int)] (Int.toNat k) (0 : Int)))).fst) :
 Int)))
 (chL k cs))
 (okC lg lp (chL k cs)) (okC (preL k) (preP k) (chL k cs)) =
 true →
 List.length (chL k cs) ≤ (4294967296 : Nat) ∧
 List.length lp ≤ (4294967296 : Nat) ∧
 List.length (preP k) ≤ (4294967296 : Nat) ∧
 List.length (ofP (chL k cs) (List.getD [(9 : Int), (8 : Int), (9 : Int)] (Int.toNat k) (0 : Int))) ≤ (4294967296 : Nat) ∧
 okC (ofG (chL k cs) (List.getD [(9 : Int), (8 : Int), (9 : Int)] (Int.toNat k) (0 : Int)))
 (ofP (chL k cs) (List.getD [(9 : Int), (8 : Int), (9 : Int)] (Int.toNat k) (0 : Int))) (chL k cs) =
 true ∧
 lm = chM k cs lm ls lg lp ∧
 ls = chS k cs lm ls lg lp ∧
 lg = chG k cs lm ls lg lp ∧
 lp = chP k cs lm ls lg lp ∧ (3 : Int) = chO k cs lm ls lg lp ∧ (0 : Int) = chE k cs lm ls lg lp) ∧
 (¬l3a (cwI lg lp (0 : Int) (chL k cs)) (cwI (preL k) (preP k) (0 : Int) (chL k cs))
 (cwI (ofG (chL k cs) (List.getD [(9 : Int), (8 : Int), (9 : Int)] (Int.toNat k) (0 : Int)))
 (ofP (chL k cs) (List.getD [(9 : Int), (8 : Int), (9 : Int)] (Int.toNat k) (0 : Int)))
 (IntKind.wrap IntKind.i64
 ((8 : Int) *
 (↑(ByteArray.size
 (writeF (ofG (chL k cs) (List.getD [(9 : Int), (8 : Int), (9 : Int)] (Int.toNat k) (0 : Int)))
 (ofP (chL k cs) (List.getD [(9 : Int), (8 : Int), (9 : Int)] (Int.toNat k) (0 : Int)))).fst) :
 Int)))
 (chL k cs))
 (okC lg lp (chL k cs)) (okC (preL k) (preP k) (chL k cs)) =
 true →
 (l3b (cwI lg lp (0 : Int) (chL k cs)) (cwI (preL k) (preP k) (0 : Int) (chL k cs))
 (cwI (ofG (chL k cs) (List.getD [(9 : Int), (8 : Int), (9 : Int)] (Int.toNat k) (0 : Int)))
 (ofP (chL k cs) (List.getD [(9 : Int), (8 : Int), (9 : Int)] (Int.toNat k) (0 : Int)))
 (IntKind.wrap IntKind.i64
 ((8 : Int) *
 (↑(ByteArray.size
 (writeF (ofG (chL k cs) (List.getD [(9 : Int), (8 : Int), (9 : Int)] (Int.toNat k) (0 : Int)))
 (ofP (chL k cs) (List.getD [(9 : Int), (8 : Int), (9 : Int)] (Int.toNat k) (0 : Int)))).fst) :
 Int)))
 (chL k cs))
 (okC lg lp (chL k cs)) (okC (preL k) (preP k) (chL k cs)) =
 true →
 List.length (chL k cs) ≤ (4294967296 : Nat) ∧
 List.length lp ≤ (4294967296 : Nat) ∧
 List.length (preP k) ≤ (4294967296 : Nat) ∧
 List.length (ofP (chL k cs) (List.getD [(9 : Int), (8 : Int), (9 : Int)] (Int.toNat k) (0 : Int))) ≤ (4294967296 : Nat) ∧
 okC (ofG (chL k cs) (List.getD [(9 : Int), (8 : Int), (9 : Int)] (Int.toNat k) (0 : Int)))
 (ofP (chL k cs) (List.getD [(9 : Int), (8 : Int), (9 : Int)] (Int.toNat k) (0 : Int))) (chL k cs) =
 true ∧
 (0 : Int) = chM k cs lm ls lg lp ∧
 (0 : Int) = chS k cs lm ls lg lp ∧
 preL k = chG k cs lm ls lg lp ∧
 preP k = chP k cs lm ls lg lp ∧ (0 : Int) = chO k cs lm ls lg lp ∧ (0 : Int) = chE k cs lm ls lg lp) ∧
 (¬l3b (cwI lg lp (0 : Int) (chL k cs)) (cwI (preL k) (preP k) (0 : Int) (chL k cs))
 (cwI (ofG (chL k cs) (List.getD [(9 : Int), (8 : Int), (9 : Int)] (Int.toNat k) (0 : Int)))
 (ofP (chL k cs) (List.getD [(9 : Int), (8 : Int), (9 : Int)] (Int.toNat k) (0 : Int)))
 (IntKind.wrap IntKind.i64
 ((8 : Int) *
 (↑(ByteArray.size
 (writeF (ofG (chL k cs) (List.getD [(9 : Int), (8 : Int), (9 : Int)] (Int.toNat k) (0 : Int)))
 (ofP (chL k cs) (List.getD [(9 : Int), (8 : Int), (9 : Int)] (Int.toNat k) (0 : Int)))).fst) :
 Int)))
 (chL k cs))
 (okC lg lp (chL k cs)) (okC (preL k) (preP k) (chL k cs)) =
 true →
 List.length (chL k cs) ≤ (4294967296 : Nat) ∧
 List.length lp ≤ (4294967296 : Nat) ∧
 List.length (preP k) ≤ (4294967296 : Nat) ∧
 List.length (ofP (chL k cs) (List.getD [(9 : Int), (8 : Int), (9 : Int)] (Int.toNat k) (0 : Int))) ≤ (4294967296 : Nat) ∧
 okC (ofG (chL k cs) (List.getD [(9 : Int), (8 : Int), (9 : Int)] (Int.toNat k) (0 : Int)))
 (ofP (chL k cs) (List.getD [(9 : Int), (8 : Int), (9 : Int)] (Int.toNat k) (0 : Int))) (chL k cs) =
 true ∧
 (2 : Int) = chM k cs lm ls lg lp ∧
 (0 : Int) = chS k cs lm ls lg lp ∧
 ofG (chL k cs) (List.getD [(9 : Int), (8 : Int), (9 : Int)] (Int.toNat k) (0 : Int)) = chG k cs lm ls lg lp ∧
 ofP (chL k cs) (List.getD [(9 : Int), (8 : Int), (9 : Int)] (Int.toNat k) (0 : Int)) = chP k cs lm ls lg lp ∧
 (2 : Int) = chO k cs lm ls lg lp ∧ (0 : Int) = chE k cs lm ls lg lp))) ∧
 ((lm == (0 : Int)) = false →
 ((lm == (2 : Int)) = true →
 (1 : Nat) * (64 : Nat) ≤ (140737488355328 : Nat) ∧
 (2 : Nat) * (64 : Nat) ≤ (140737488355328 : Nat) ∧
 (0 : Int) ≤ k ∧
 k < (↑(3 : Nat) : Int) ∧
 (3 : Nat) = List.length [(9 : Int), (8 : Int), (9 : Int)] ∧
 okN (chL k cs) = true ∧
 List.length (ofP (chL k cs) (List.getD [(9 : Int), (8 : Int), (9 : Int)] (Int.toNat k) (0 : Int))) ≤ (4294967296 : Nat) ∧
 (3 : Nat) * (64 : Nat) ≤ (140737488355328 : Nat) ∧
 (l3a (cwI lg lp (0 : Int) (chL k cs)) (cwI (preL k) (preP k) (0 : Int) (chL k cs))
 (cwI (ofG (chL k cs) (List.getD [(9 : Int), (8 : Int), (9 : Int)] (Int.toNat k) (0 : Int)))
 (ofP (chL k cs) (List.getD [(9 : Int), (8 : Int), (9 : Int)] (Int.toNat k) (0 : Int)))
 (IntKind.wrap IntKind.i64
 ((8 : Int) *
 (↑(ByteArray.size
 (writeF (ofG (chL k cs) (List.getD [(9 : Int), (8 : Int), (9 : Int)] (Int.toNat k) (0 : Int)))
 (ofP (chL k cs) (List.getD [(9 : Int), (8 : Int), (9 : Int)] (Int.toNat k) (0 : Int)))).fst) :
 Int)))
 (chL k cs))
 (okC lg lp (chL k cs)) (okC (preL k) (preP k) (chL k cs)) =
 true →
 List.length (chL k cs) ≤ (4294967296 : Nat) ∧
 List.length lp ≤ (4294967296 : Nat) ∧
 List.length (preP k) ≤ (4294967296 : Nat) ∧
 List.length (ofP (chL k cs) (List.getD [(9 : Int), (8 : Int), (9 : Int)] (Int.toNat k) (0 : Int))) ≤ (4294967296 : Nat) ∧
 okC (ofG (chL k cs) (List.getD [(9 : Int), (8 : Int), (9 : Int)] (Int.toNat k) (0 : Int)))
 (ofP (chL k cs) (List.getD [(9 : Int), (8 : Int), (9 : Int)] (Int.toNat k) (0 : Int))) (chL k cs) =
 true ∧
 lm = chM k cs lm ls lg lp ∧
 ls = chS k cs lm ls lg lp ∧
 lg = chG k cs lm ls lg lp ∧
 lp = chP k cs lm ls lg lp ∧ (3 : Int) = chO k cs lm ls lg lp ∧ (0 : Int) = chE k cs lm ls lg lp) ∧
 (¬l3a (cwI lg lp (0 : Int) (chL k cs)) (cwI (preL k) (preP k) (0 : Int) (chL k cs))
 (cwI (ofG (chL k cs) (List.getD [(9 : Int), (8 : Int), (9 : Int)] (Int.toNat k) (0 : Int)))
 (ofP (chL k cs) (List.getD [(9 : Int), (8 : Int), (9 : Int)] (Int.toNat k) (0 : Int)))
 (IntKind.wrap IntKind.i64
 ((8 : Int) *
 (↑(ByteArray.size
 (writeF (ofG (chL k cs) (List.getD [(9 : Int), (8 : Int), (9 : Int)] (Int.toNat k) (0 : Int)))
 (ofP (chL k cs) (List.getD [(9 : Int), (8 : Int), (9 : Int)] (Int.toNat k) (0 : Int)))).fst) :
 Int)))
 (chL k cs))
 (okC lg lp (chL k cs)) (okC (preL k) (preP k) (chL k cs)) =
 true →
 (l3b (cwI lg lp (0 : Int) (chL k cs)) (cwI (preL k) (preP k) (0 : Int) (chL k cs))
 (cwI (ofG (chL k cs) (List.getD [(9 : Int), (8 : Int), (9 : Int)] (Int.toNat k) (0 : Int)))
 (ofP (chL k cs) (List.getD [(9 : Int), (8 : Int), (9 : Int)] (Int.toNat k) (0 : Int)))
 (IntKind.wrap IntKind.i64
 ((8 : Int) *
 (↑(ByteArray.size
 (writeF (ofG (chL k cs) (List.getD [(9 : Int), (8 : Int), (9 : Int)] (Int.toNat k) (0 : Int)))
 (ofP (chL k cs) (List.getD [(9 : Int), (8 : Int), (9 : Int)] (Int.toNat k) (0 : Int)))).fst) :
 Int)))
 (chL k cs))
 (okC lg lp (chL k cs)) (okC (preL k) (preP k) (chL k cs)) =
 true →
 List.length (chL k cs) ≤ (4294967296 : Nat) ∧
 List.length lp ≤ (4294967296 : Nat) ∧
 List.length (preP k) ≤ (4294967296 : Nat) ∧
 List.length (ofP (chL k cs) (List.getD [(9 : Int), (8 : Int), (9 : Int)] (Int.toNat k) (0 : Int))) ≤
 (4294967296 : Nat) ∧
 okC (ofG (chL k cs) (List.getD [(9 : Int), (8 : Int), (9 : Int)] (Int.toNat k) (0 : Int)))
 (ofP (chL k cs) (List.getD [(9 : Int), (8 : Int), (9 : Int)] (Int.toNat k) (0 : Int))) (chL k cs) =
 true ∧
 (0 : Int) = chM k cs lm ls lg lp ∧
 (0 : Int) = chS k cs lm ls lg lp ∧
 preL k = chG k cs lm ls lg lp ∧
 preP k = chP k cs lm ls lg lp ∧ (0 : Int) = chO k cs lm ls lg lp ∧ (0 : Int) = chE k cs lm ls lg lp) ∧
 (¬l3b (cwI lg lp (0 : Int) (chL k cs)) (cwI (preL k) (preP k) (0 : Int) (chL k cs))
 (cwI (ofG (chL k cs) (List.getD [(9 : Int), (8 : Int), (9 : Int)] (Int.toNat k) (0 : Int)))
 (ofP (chL k cs) (List.getD [(9 : Int), (8 : Int), (9 : Int)] (Int.toNat k) (0 : Int)))
 (IntKind.wrap IntKind.i64
 ((8 : Int) *
 (↑(ByteArray.size
 (writeF (ofG (chL k cs) (List.getD [(9 : Int), (8 : Int), (9 : Int)] (Int.toNat k) (0 : Int)))
 (ofP (chL k cs) (List.getD [(9 : Int), (8 : Int), (9 : Int)] (Int.toNat k) (0 : Int)))).fst) :
 Int)))
 (chL k cs))
 (okC lg lp (chL k cs)) (okC (preL k) (preP k) (chL k cs)) =
 true →
 List.length (chL k cs) ≤ (4294967296 : Nat) ∧
 List.length lp ≤ (4294967296 : Nat) ∧
 List.length (preP k) ≤ (4294967296 : Nat) ∧
 List.length (ofP (chL k cs) (List.getD [(9 : Int), (8 : Int), (9 : Int)] (Int.toNat k) (0 : Int))) ≤
 (4294967296 : Nat) ∧
 okC (ofG (chL k cs) (List.getD [(9 : Int), (8 : Int), (9 : Int)] (Int.toNat k) (0 : Int)))
 (ofP (chL k cs) (List.getD [(9 : Int), (8 : Int), (9 : Int)] (Int.toNat k) (0 : Int))) (chL k cs) =
 true ∧
 (2 : Int) = chM k cs lm ls lg lp ∧
 (0 : Int) = chS k cs lm ls lg lp ∧
 ofG (chL k cs) (List.getD [(9 : Int), (8 : Int), (9 : Int)] (Int.toNat k) (0 : Int)) = chG k cs lm ls lg lp ∧
 ofP (chL k cs) (List.getD [(9 : Int), (8 : Int), (9 : Int)] (Int.toNat k) (0 : Int)) = chP k cs lm ls lg lp ∧
 (2 : Int) = chO k cs lm ls lg lp ∧ (0 : Int) = chE k cs lm ls lg lp))) ∧
 ((lm == (2 : Int)) = false →
 (1 : Nat) * (64 : Nat) ≤ (140737488355328 : Nat) ∧
 (0 : Int) ≤ k ∧
 k < (↑(3 : Nat) : Int) ∧
 (3 : Nat) = List.length [(9 : Int), (8 : Int), (9 : Int)] ∧
 okN (chL k cs) = true ∧
 List.length (ofP (chL k cs) (List.getD [(9 : Int), (8 : Int), (9 : Int)] (Int.toNat k) (0 : Int))) ≤ (4294967296 : Nat) ∧
 (2 : Nat) * (64 : Nat) ≤ (140737488355328 : Nat) ∧
 (l2a (cwI (preL k) (preP k) (0 : Int) (chL k cs))
 (cwI (ofG (chL k cs) (List.getD [(9 : Int), (8 : Int), (9 : Int)] (Int.toNat k) (0 : Int)))
 (ofP (chL k cs) (List.getD [(9 : Int), (8 : Int), (9 : Int)] (Int.toNat k) (0 : Int)))
 (IntKind.wrap IntKind.i64
 ((8 : Int) *
 (↑(ByteArray.size
 (writeF (ofG (chL k cs) (List.getD [(9 : Int), (8 : Int), (9 : Int)] (Int.toNat k) (0 : Int)))
 (ofP (chL k cs) (List.getD [(9 : Int), (8 : Int), (9 : Int)] (Int.toNat k) (0 : Int)))).fst) :
 Int)))
 (chL k cs))
 (okC (preL k) (preP k) (chL k cs)) =
 true →
 List.length (chL k cs) ≤ (4294967296 : Nat) ∧
 List.length (preP k) ≤ (4294967296 : Nat) ∧
 List.length (ofP (chL k cs) (List.getD [(9 : Int), (8 : Int), (9 : Int)] (Int.toNat k) (0 : Int))) ≤ (4294967296 : Nat) ∧
 okC (ofG (chL k cs) (List.getD [(9 : Int), (8 : Int), (9 : Int)] (Int.toNat k) (0 : Int)))
 (ofP (chL k cs) (List.getD [(9 : Int), (8 : Int), (9 : Int)] (Int.toNat k) (0 : Int))) (chL k cs) =
 true ∧
 (0 : Int) = chM k cs lm ls lg lp ∧
 (0 : Int) = chS k cs lm ls lg lp ∧
 preL k = chG k cs lm ls lg lp ∧
 preP k = chP k cs lm ls lg lp ∧ (0 : Int) = chO k cs lm ls lg lp ∧ (0 : Int) = chE k cs lm ls lg lp) ∧
 (¬l2a (cwI (preL k) (preP k) (0 : Int) (chL k cs))
 (cwI (ofG (chL k cs) (List.getD [(9 : Int), (8 : Int), (9 : Int)] (Int.toNat k) (0 : Int)))
 (ofP (chL k cs) (List.getD [(9 : Int), (8 : Int), (9 : Int)] (Int.toNat k) (0 : Int)))
 (IntKind.wrap IntKind.i64
 ((8 : Int) *
 (↑(ByteArray.size
 (writeF (ofG (chL k cs) (List.getD [(9 : Int), (8 : Int), (9 : Int)] (Int.toNat k) (0 : Int)))
 (ofP (chL k cs) (List.getD [(9 : Int), (8 : Int), (9 : Int)] (Int.toNat k) (0 : Int)))).fst) :
 Int)))
 (chL k cs))
 (okC (preL k) (preP k) (chL k cs)) =
 true →
 List.length (chL k cs) ≤ (4294967296 : Nat) ∧
 List.length (preP k) ≤ (4294967296 : Nat) ∧
 List.length (ofP (chL k cs) (List.getD [(9 : Int), (8 : Int), (9 : Int)] (Int.toNat k) (0 : Int))) ≤ (4294967296 : Nat) ∧
 okC (ofG (chL k cs) (List.getD [(9 : Int), (8 : Int), (9 : Int)] (Int.toNat k) (0 : Int)))
 (ofP (chL k cs) (List.getD [(9 : Int), (8 : Int), (9 : Int)] (Int.toNat k) (0 : Int))) (chL k cs) =
 true ∧
 (2 : Int) = chM k cs lm ls lg lp ∧
 (0 : Int) = chS k cs lm ls lg lp ∧
 ofG (chL k cs) (List.getD [(9 : Int), (8 : Int), (9 : Int)] (Int.toNat k) (0 : Int)) = chG k cs lm ls lg lp ∧
 ofP (chL k cs) (List.getD [(9 : Int), (8 : Int), (9 : Int)] (Int.toNat k) (0 : Int)) = chP k cs lm ls lg lp ∧
 (2 : Int) = chO k cs lm ls lg lp ∧ (0 : Int) = chE k cs lm ls lg lp)))))))
theorem chooE_e (k : Int) (cs : List Int) (lm ls lg : Int) (lp : List Int) : chooE_t k cs lm ls lg lp = vcG Tryz.prog (Gof GSc) (oPc k cs lm ls lg lp) Tryz.f9 [.v (.int .i64 k), .dat (.ints .i64 cs), .ag [.v (.int .i64 lm), .v (.int .i64 ls), .v (.int .i64 lg), .dat (.ints .i64 lp)]] [] (.leaf ((.tu [.ag [.v (.int .i64 (chM k cs lm ls lg lp)), .v (.int .i64 (chS k cs lm ls lg lp)), .v (.int .i64 (chG k cs lm ls lg lp)), .dat (.ints .i64 (chP k cs lm ls lg lp))], .v (.int .i64 (chO k cs lm ls lg lp)), .v (.int .i64 (chE k cs lm ls lg lp))])) ([])) := by kernel_rfl
end Go.Proofs.YtcoogfifjibkhaaGreat
namespace Go.Proofs.YtcoogfifjibkhaaGreat
open Go Go.RowKit
set_option linter.unusedVariables false
set_option linter.unusedSimpArgs false
set_option maxRecDepth 100000
theorem sumI_sF : ∀ l : List Int, sumI l = sF (fun x => x) l
  | [] => rfl
  | x :: r => by
    have := sumI_sF r
    show x + sumI r = x + sF (fun x => x) r
    omega
theorem sumI_rep : ∀ n : Nat, sumI (List.replicate n 0) = 0
  | 0 => rfl
  | n + 1 => by
    have := sumI_rep n
    show (0 : Int) + sumI (List.replicate n 0) = 0
    omega
theorem syT_sum {n : Nat} {l : List Int} (h : ∀ i, i < l.length → (l.getD i 0).toNat < n) : ∀ i, i ≤ l.length → sumI (syT n l i) = i
  | 0, _ => sumI_rep n
  | i + 1, hi => by
    have ih := syT_sum h i (by omega)
    have hx := h i (by omega)
    show sumI ((syT n l i).set _ _) = _
    rw [sumI_sF, sF_set _ _ _ _ (by rw [syT_len]; exact hx), ← sumI_sF, ih]
    omega
theorem pow_le2 {a b : Nat} (h : a ≤ b) : (2 : Int) ^ a ≤ 2 ^ b := by
  have h1 := Nat.pow_le_pow_right (show 0 < 2 by omega) h
  have e : ∀ i : Nat, ((2 ^ i : Nat) : Int) = (2 : Int) ^ i := fun i => by simp
  have := e a
  have := e b
  omega
structure ChH (k : Int) (cs : List Int) : Prop where
  kd : kdE k = 0
  ne : 0 < cs.length
  sm : cs.length ≤ 1000
  ok : okS (mostI k) cs = true
section
variable {k : Int} {cs : List Int} {lm ls lg : Int} {lp : List Int}
theorem ChH.at_ (h : ChH k cs) : ∀ i, i < cs.length → (cs.getD i 0).toNat < (mostI k + 1).toNat := by
  intro i hi
  have := okS_iff.1 h.ok _ (getD_mem' hi)
  omega
theorem ChH.lL (h : ChH k cs) : chL k cs = syT (mostI k + 1).toNat cs cs.length := by unfold chL syL; rw [h.ok]; rfl
theorem ChH.len (h : ChH k cs) : (chL k cs).length ≤ 53 := by
  rw [h.lL, syT_len]
  have := most_bd k
  omega
theorem ChH.sum (h : ChH k cs) : sumI (chL k cs) = cs.length := by rw [h.lL]; exact syT_sum h.at_ _ (Nat.le_refl _)
theorem ChH.okN (h : ChH k cs) : okN (chL k cs) = true := by
  unfold Proofs.YtcoogfifjibkhaaGreat.okN
  simp only [Bool.and_eq_true, List.all_eq_true, decide_eq_true_eq]
  refine ⟨⟨fun x hx => ?_, by have := h.len; omega⟩, by rw [h.sum]; have := h.sm; omega⟩
  obtain ⟨i, hi, e⟩ := mem_getD hx
  rw [h.lL] at e
  have := (syT_bd (mostI k + 1).toNat cs cs.length i).1
  omega
theorem ChH.grt (h : ChH k cs) : 8 ≤ grtI k ∧ grtI k ≤ 9 := by rcases kd_ok0 h.kd with rfl | rfl | rfl <;> decide
theorem wiE_zero {l : List Int} {g : Int} (hm : 0 < ocM l) (h5 : 5 ≤ g) (h12 : g ≤ 12) (h : (ocM l : Int) ≤ 2 ^ g.toNat) : wiE l g = 0 := by
  have hb0 : Nat.beq (ocM l) 0 = false := by cases hb : Nat.beq (ocM l) 0 <;> first | rfl | (have := Nat.eq_of_beq_eq_true hb; omega)
  rw [wiE_in hb0 h5 h12, decide_eq_false (by omega)]
  rfl
theorem cosM_none {p l : List Int} (hn : ∀ x ∈ l, 0 ≤ x) (h : ∀ s, s < l.length → 0 < l.getD s 0 → p.getD s 0 ≠ 0) : cosM p 0 l = false := by
  have key : ∀ i, i ≤ l.length → cosM p 0 (l.take i) = false := by
    intro i
    induction i with
    | zero => intro _; rfl
    | succ i ih =>
      intro hi
      rw [cosM_take (by omega), ih (by omega), Bool.false_or]
      cases hz : l.getD i 0 == 0
      · have hx := hn _ (getD_mem' (show i < l.length by omega))
        have := h i (by omega) (by have := beq2 hz; omega)
        unfold cosB
        rw [beqF this]
        rfl
      · rfl
  have := key l.length (Nat.le_refl _)
  rwa [List.take_length] at this
theorem ChH.fs (h : ChH k cs) (ho : onB (chL k cs) = false) : dchk (fsG k cs) (fsP k cs) = 0 ∧ cosM (fsP k cs) 0 (chL k cs) = false := by
  have hk := okN0 h.okN
  have hm : 0 < ocM (chL k cs) := by
    rcases Nat.eq_zero_or_pos (ocM (chL k cs)) with h0 | h0
    · have := (sum_oc h.okN).2 h0
      have := h.sum
      have := h.ne
      omega
    · exact h0
  have hM := ocM_le (chL k cs)
  have hlen := h.len
  obtain ⟨g8, g9⟩ := h.grt
  have p8 : (256 : Int) ≤ 2 ^ (grtI k).toNat := by have := pow_le2 (a := 8) (b := (grtI k).toNat) (by omega); omega
  have w1 : wiE (chL k cs) (grtI k) = 0 := wiE_zero hm (by omega) (by omega) (by omega)
  obtain ⟨b0, b1, b2⟩ := hi_bd (y := (ocM (chL k cs) : Nat)) (by omega)
  have hsix : hiI (ocM (chL k cs) : Nat) ≤ 5 := by
    have : (2 : Int) ^ (hiI (ocM (chL k cs) : Nat)).toNat < 2 ^ 6 := by omega
    have := pow_lt_of this
    omega
  have hlo : loI (chL k cs) (grtI k) = min (grtI k) (cond (decide (1 < sumI (chL k cs))) (max (loB (chL k cs)) (hiI (sumI (chL k cs) - 1) - 2)) (loB (chL k cs))) := by unfold loI; rw [w1]; rfl
  have hge : loB (chL k cs) ≤ cond (decide (1 < sumI (chL k cs))) (max (loB (chL k cs)) (hiI (sumI (chL k cs) - 1) - 2)) (loB (chL k cs)) := by
    cases decide (1 < sumI (chL k cs)) <;> simp only [cond_true, cond_false] <;> omega
  have hB : loB (chL k cs) = max 5 (hiI (ocM (chL k cs) : Nat) + 1) := rfl
  have r1 : 5 ≤ loI (chL k cs) (grtI k) := by rw [hlo]; omega
  have r2 : loI (chL k cs) (grtI k) ≤ 9 := by rw [hlo]; omega
  have r3 : hiI (ocM (chL k cs) : Nat) + 1 ≤ loI (chL k cs) (grtI k) := by rw [hlo]; omega
  have r4 : (ocM (chL k cs) : Int) ≤ 2 ^ (loI (chL k cs) (grtI k)).toNat := by
    have := pow_le2 (a := (hiI (ocM (chL k cs) : Nat)).toNat + 1) (b := (loI (chL k cs) (grtI k)).toNat) (by omega)
    omega
  have w2 : wiE (chL k cs) (loI (chL k cs) (grtI k)) = 0 := wiE_zero hm r1 (by omega) r4
  obtain ⟨e1, e2, e3⟩ := with_ok h.okN w2
  have eG : fsG k cs = loI (chL k cs) (grtI k) := by unfold fsG ofG; rw [w1]; exact e1
  have eP : fsP k cs = wiP (chL k cs) (loI (chL k cs) (grtI k)) := by unfold fsP ofP; rw [w1]; rfl
  rw [eG, eP]
  exact ⟨e2, cosM_none hk.nn e3⟩
theorem pre_len (k : Int) : (preP k).length ≤ 256 := by
  unfold preP
  cases k == 0
  · cases k == 1
    · cases k == 2
      · show [].length ≤ 256
        decide
      · show pMatch.length ≤ 256
        decide
    · show pOffset.length ≤ 256
      decide
  · show pLits.length ≤ 256
    decide
theorem ok_iff {g : Int} {p l : List Int} (hd : dchk g p = 0) (hc : chA l = 0) : okC g p l = !cosM p 0 l := by
  unfold okC coE
  rw [hd, hc]
  cases cosM p 0 l <;> rfl
theorem chE_ok (h : chE k cs lm ls lg lp = 0) : kdE k = 0 ∧ 0 < cs.length ∧ okS (mostI k) cs = true ∧ tbE k lm ls lg lp = 0 := by
  unfold chE at h
  cases h1 : kdE k == 0
  · rw [h1] at h; cases h
  · rw [h1, cond_true] at h
    cases h2 : Nat.beq cs.length 0
    · rw [h2, cond_false] at h
      cases h3 : okS (mostI k) cs
      · rw [h3] at h; cases h
      · rw [h3] at h
        refine ⟨beq1 h1, ?_, rfl, h⟩
        rcases Nat.eq_zero_or_pos cs.length with h0 | h0
        · rw [h0] at h2; cases h2
        · exact h0
    · rw [h2] at h; cases h
end
end Go.Proofs.YtcoogfifjibkhaaGreat
namespace Go.Proofs.YtcoogfifjibkhaaGreat
open Go Go.RowKit
set_option linter.unusedVariables false
set_option linter.unusedSimpArgs false
set_option maxRecDepth 100000
theorem w01 : IntKind.wrap IntKind.i64 ((0 : Int) + 1) = 1 := by decide
theorem w12 : IntKind.wrap IntKind.i64 ((1 : Int) + 1) = 2 := by decide
theorem w23 : IntKind.wrap IntKind.i64 ((2 : Int) + 1) = 3 := by decide
theorem least2E_v (l : List Int) (m1 s1 h1 : Int) (q1 : List Int) (o1 g1 : Int) (p1 : List Int) (n1 : Int) (m2 s2 h2 : Int) (q2 : List Int) (o2 g2 : Int) (p2 : List Int) (n2 : Int) (hl : l.length ≤ 4294967296) (hp1 : p1.length ≤ 4294967296) (hp2 : p2.length ≤ 4294967296) (ho : okC g2 p2 l = true) :
    least2E_t l m1 s1 h1 q1 o1 g1 p1 n1 m2 s2 h2 q2 o2 g2 p2 n2 := by
  unfold least2E_t l2a
  rw [w01, w12]
  generalize cwI g1 p1 n1 l = a
  generalize cwI g2 p2 n2 l = b
  cases hx : okC g1 p1 l <;> by_cases hba : b < a <;> simp [ho, hba, hl, hp1, hp2]
theorem least3E_v (l : List Int) (m1 s1 h1 : Int) (q1 : List Int) (o1 g1 : Int) (p1 : List Int) (n1 : Int) (m2 s2 h2 : Int) (q2 : List Int) (o2 g2 : Int) (p2 : List Int) (n2 : Int) (m3 s3 h3 : Int) (q3 : List Int) (o3 g3 : Int) (p3 : List Int) (n3 : Int) (hl : l.length ≤ 4294967296) (hp1 : p1.length ≤ 4294967296) (hp2 : p2.length ≤ 4294967296) (hp3 : p3.length ≤ 4294967296) (ho : okC g3 p3 l = true) :
    least3E_t l m1 s1 h1 q1 o1 g1 p1 n1 m2 s2 h2 q2 o2 g2 p2 n2 m3 s3 h3 q3 o3 g3 p3 n3 := by
  unfold least3E_t l3a l3b
  rw [w01, w12, w23]
  generalize cwI g1 p1 n1 l = a
  generalize cwI g2 p2 n2 l = b
  generalize cwI g3 p3 n3 l = c
  cases hx : okC g1 p1 l <;> cases hy : okC g2 p2 l <;> by_cases hba : b < a <;> by_cases hca : c < a <;> by_cases hcb : c < b <;> simp [ho, hba, hca, hcb, hl, hp1, hp2, hp3]
theorem ch1E_v (g : Int) (p : List Int) (n : Int) (l : List Int) : ch1E_t g p n l := ⟨rfl, rfl, rfl, rfl⟩
theorem ch11E_v (g : Int) (p : List Int) (n : Int) (l : List Int) (hp : p.length ≤ 4294967296) (hl : l.length ≤ 4294967296) : ch11E_t g p n l := ⟨hp, hl, rfl, rfl, rfl, rfl, rfl, rfl⟩
theorem ch2E_v (m s h : Int) (q : List Int) (o g : Int) (p : List Int) (n : Int) (l : List Int) (hp : p.length ≤ 4294967296) (hl : l.length ≤ 4294967296) : ch2E_t m s h q o g p n l := ⟨hp, hl, rfl, rfl, rfl, rfl, rfl, rfl⟩
section
variable {k : Int} {cs : List Int} {lm ls lg : Int} {lp : List Int}
theorem chE_in (h1 : kdE k = 0) (h2 : 0 < cs.length) : chE k cs lm ls lg lp = chF k cs lm ls lg lp := by
  unfold chE chF
  rw [h1]
  cases hb : Nat.beq cs.length 0
  · rfl
  · have := Nat.eq_of_beq_eq_true hb; omega
theorem ch_bad {e : Int} (h : chE k cs lm ls lg lp = e) (he : e ≠ 0) : (0 : Int) = chM k cs lm ls lg lp ∧ (0 : Int) = chS k cs lm ls lg lp ∧ (0 : Int) = chG k cs lm ls lg lp ∧ (chP k cs lm ls lg lp).length = 0 ∧ (0 : Int) = chO k cs lm ls lg lp ∧ e = chE k cs lm ls lg lp := by
  have hw : chW k cs lm ls lg lp = 0 := by unfold chW; rw [h, beqF he]; rfl
  unfold chM chS chG chP chO
  rw [hw]
  exact ⟨rfl, rfl, rfl, rfl, rfl, h.symm⟩
theorem ch_rle (h : chE k cs lm ls lg lp = 0) (ho : onB (chL k cs) = true) : (1 : Int) = chM k cs lm ls lg lp ∧ onI (chL k cs) = chS k cs lm ls lg lp ∧ (0 : Int) = chG k cs lm ls lg lp ∧ (chP k cs lm ls lg lp).length = 0 ∧ (1 : Int) = chO k cs lm ls lg lp ∧ (0 : Int) = chE k cs lm ls lg lp := by
  have hw : chW k cs lm ls lg lp = 1 := by unfold chW; rw [h, ho]; rfl
  unfold chM chS chG chP chO
  rw [hw]
  exact ⟨rfl, rfl, rfl, rfl, rfl, h.symm⟩
theorem ch_A (h : chE k cs lm ls lg lp = 0) (ho : onB (chL k cs) = false) (ha : isA k cs lm lg lp = true) : lm = chM k cs lm ls lg lp ∧ ls = chS k cs lm ls lg lp ∧ lg = chG k cs lm ls lg lp ∧ lp = chP k cs lm ls lg lp ∧ (3 : Int) = chO k cs lm ls lg lp ∧ (0 : Int) = chE k cs lm ls lg lp := by
  have hw : chW k cs lm ls lg lp = 2 := by unfold chW; rw [h, ho, ha]; rfl
  unfold chM chS chG chP chO
  rw [hw]
  exact ⟨rfl, rfl, rfl, rfl, rfl, h.symm⟩
theorem ch_B (h : chE k cs lm ls lg lp = 0) (ho : onB (chL k cs) = false) (ha : isA k cs lm lg lp = false) (hb : isB k cs lm lg lp = true) : (0 : Int) = chM k cs lm ls lg lp ∧ (0 : Int) = chS k cs lm ls lg lp ∧ preL k = chG k cs lm ls lg lp ∧ preP k = chP k cs lm ls lg lp ∧ (0 : Int) = chO k cs lm ls lg lp ∧ (0 : Int) = chE k cs lm ls lg lp := by
  have hw : chW k cs lm ls lg lp = 3 := by unfold chW; rw [h, ho, ha, hb]; rfl
  unfold chM chS chG chP chO
  rw [hw]
  exact ⟨rfl, rfl, rfl, rfl, rfl, h.symm⟩
theorem ch_C (h : chE k cs lm ls lg lp = 0) (ho : onB (chL k cs) = false) (ha : isA k cs lm lg lp = false) (hb : isB k cs lm lg lp = false) : (2 : Int) = chM k cs lm ls lg lp ∧ (0 : Int) = chS k cs lm ls lg lp ∧ fsG k cs = chG k cs lm ls lg lp ∧ fsP k cs = chP k cs lm ls lg lp ∧ (2 : Int) = chO k cs lm ls lg lp ∧ (0 : Int) = chE k cs lm ls lg lp := by
  have hw : chW k cs lm ls lg lp = 4 := by unfold chW; rw [h, ho, ha, hb]; rfl
  unfold chM chS chG chP chO
  rw [hw]
  exact ⟨rfl, rfl, rfl, rfl, rfl, h.symm⟩
theorem ch_H (hs : cs.length ≤ 1000) (h : chE k cs lm ls lg lp = 0) : ChH k cs := by
  obtain ⟨h1, h2, h3, _⟩ := chE_ok h
  exact ⟨h1, h2, hs, h3⟩
theorem isA_no (ha : hasA lm = false) : isA k cs lm lg lp = false := by unfold isA; rw [ha]; rfl
theorem isA_has (ha : hasA lm = true) : isA k cs lm lg lp = l3a (cstA k cs lg lp) (cstB k cs) (cstC k cs) (okC lg lp (chL k cs)) (okC (preL k) (preP k) (chL k cs)) := by unfold isA; rw [ha]; rfl
theorem isB_has (ha : hasA lm = true) : isB k cs lm lg lp = l3b (cstA k cs lg lp) (cstB k cs) (cstC k cs) (okC lg lp (chL k cs)) (okC (preL k) (preP k) (chL k cs)) := by unfold isB; rw [ha]; rfl
theorem isB_no (ha : hasA lm = false) : isB k cs lm lg lp = l2a (cstB k cs) (cstC k cs) (okC (preL k) (preP k) (chL k cs)) := by unfold isB; rw [ha]; rfl
theorem syE_C : (syE (mostI k) cs == 2) = true → (24 : Int) = chC k cs := by
  unfold syE chC
  cases okS (mostI k) cs
  · exact fun _ => rfl
  · exact fun h => (by cases h)
theorem syE_C' : (syE (mostI k) cs == 2) = false → syE (mostI k) cs = chC k cs := by
  unfold syE chC
  cases okS (mostI k) cs
  · exact fun h => (by cases h)
  · exact fun _ => rfl
theorem chC_F : (chC k cs == 0) = true → tbE k lm ls lg lp = chF k cs lm ls lg lp := by
  unfold chC chF
  cases okS (mostI k) cs
  · exact fun h => (by cases h)
  · exact fun _ => rfl
theorem chC_F' : (chC k cs == 0) = false → chC k cs = chF k cs lm ls lg lp := by
  unfold chC chF
  cases okS (mostI k) cs
  · exact fun _ => rfl
  · exact fun h => (by cases h)
theorem bT {b : Bool} (h : ¬ b = true) : b = false := by cases b <;> first | rfl | exact absurd rfl h
end
theorem chooE_v (k : Int) (cs : List Int) (lm ls lg : Int) (lp : List Int) (hc : cs.length ≤ 1000) (hl : lp.length ≤ 4294967296) : chooE_t k cs lm ls lg lp := by
  obtain ⟨m0, m1⟩ := most_bd k
  unfold chooE_t
  refine ⟨fun h => ch_bad (by unfold chE; rw [bne0 h]; rfl) (by omega), fun h => ?_⟩
  have hk := bne1 h
  have hkk := kd_ok0 hk
  rw [grt_at hk]
  refine ⟨fun h2 => ch_bad ?_ (by omega), fun h2 => ?_⟩
  · unfold chE
    rw [hk, show Nat.beq cs.length 0 = true by have := beq1 h2; rw [show cs.length = 0 by omega]; rfl]; rfl
  have hn : 0 < cs.length := by have := beq2 h2; omega
  refine ⟨m0, by omega, hc, ⟨fun hs => ⟨(), ⟨hk, hn⟩, (by first | rfl | trivial), syE_C hs, (by first | rfl | trivial), (by first | rfl | trivial), (by first | rfl | trivial), (by first | rfl | trivial), (by first | rfl | trivial), (by first | rfl | trivial), (by first | rfl | trivial), (by first | rfl | trivial), (by first | rfl | trivial)⟩, fun hs => ⟨(), ⟨hk, hn⟩, (by first | rfl | trivial), syE_C' hs, (by first | rfl | trivial), (by first | rfl | trivial), (by first | rfl | trivial), (by first | rfl | trivial), (by first | rfl | trivial), (by first | rfl | trivial), (by first | rfl | trivial), (by first | rfl | trivial), (by first | rfl | trivial)⟩⟩, fun _ _ => ⟨⟨fun hs => ⟨hl, (), ⟨hk, hn⟩, (by first | rfl | trivial), chC_F hs, (by first | rfl | trivial), (by first | rfl | trivial), (by first | rfl | trivial), (by first | rfl | trivial), (by first | rfl | trivial), (by first | rfl | trivial), (by first | rfl | trivial), (by first | rfl | trivial), (by first | rfl | trivial)⟩, fun hs => ⟨(), ⟨hk, hn⟩, (by first | rfl | trivial), chC_F' hs, (by first | rfl | trivial), (by first | rfl | trivial), (by first | rfl | trivial), (by first | rfl | trivial), (by first | rfl | trivial), (by first | rfl | trivial), (by first | rfl | trivial), (by first | rfl | trivial), (by first | rfl | trivial)⟩⟩, fun _ _ => ⟨fun hf => ?_, fun hf => ?_⟩⟩⟩
  · exact ch_bad (chE_in hk hn) (nz hf)
  have hE : chE k cs lm ls lg lp = 0 := (chE_in hk hn).trans (bne1 hf)
  have H := ch_H hc hE
  refine ⟨H.okN, fun ho => ch_rle hE ho, fun ho => ⟨⟨(), ⟨hE, ho⟩, (by first | rfl | trivial), (by first | rfl | trivial), (by first | rfl | trivial), (by first | rfl | trivial), (by first | rfl | trivial), (by first | rfl | trivial), (by first | rfl | trivial), (by first | rfl | trivial), (by first | rfl | trivial), (by first | rfl | trivial), (by first | rfl | trivial)⟩, fun _ _ => ?_⟩⟩
  have hL := H.len
  have hc0 := chA_ok H.okN
  obtain ⟨f1, f2⟩ := H.fs ho
  have hfo : okC (fsG k cs) (fsP k cs) (chL k cs) = true := by rw [ok_iff f1 hc0, f2]; rfl
  have hfl : (fsP k cs).length ≤ 4294967296 := by have := (dchk0 f1).n2; omega
  have hpl := pre_len k
  have three : hasA lm = true → 1 * 64 ≤ 140737488355328 ∧ 2 * 64 ≤ 140737488355328 ∧ 0 ≤ k ∧ k < ((3 : Nat) : Int) ∧ 3 = [(9 : Int), 8, 9].length ∧ Proofs.YtcoogfifjibkhaaGreat.okN (chL k cs) = true ∧ (fsP k cs).length ≤ 4294967296 ∧ 3 * 64 ≤ 140737488355328 ∧
      (l3a (cstA k cs lg lp) (cstB k cs) (cstC k cs) (okC lg lp (chL k cs)) (okC (preL k) (preP k) (chL k cs)) = true → (chL k cs).length ≤ 4294967296 ∧ lp.length ≤ 4294967296 ∧ (preP k).length ≤ 4294967296 ∧ (fsP k cs).length ≤ 4294967296 ∧ okC (fsG k cs) (fsP k cs) (chL k cs) = true ∧ lm = chM k cs lm ls lg lp ∧ ls = chS k cs lm ls lg lp ∧ lg = chG k cs lm ls lg lp ∧ lp = chP k cs lm ls lg lp ∧ (3 : Int) = chO k cs lm ls lg lp ∧ (0 : Int) = chE k cs lm ls lg lp) ∧
      (¬ l3a (cstA k cs lg lp) (cstB k cs) (cstC k cs) (okC lg lp (chL k cs)) (okC (preL k) (preP k) (chL k cs)) = true →
        (l3b (cstA k cs lg lp) (cstB k cs) (cstC k cs) (okC lg lp (chL k cs)) (okC (preL k) (preP k) (chL k cs)) = true → (chL k cs).length ≤ 4294967296 ∧ lp.length ≤ 4294967296 ∧ (preP k).length ≤ 4294967296 ∧ (fsP k cs).length ≤ 4294967296 ∧ okC (fsG k cs) (fsP k cs) (chL k cs) = true ∧ (0 : Int) = chM k cs lm ls lg lp ∧ (0 : Int) = chS k cs lm ls lg lp ∧ preL k = chG k cs lm ls lg lp ∧ preP k = chP k cs lm ls lg lp ∧ (0 : Int) = chO k cs lm ls lg lp ∧ (0 : Int) = chE k cs lm ls lg lp) ∧
        (¬ l3b (cstA k cs lg lp) (cstB k cs) (cstC k cs) (okC lg lp (chL k cs)) (okC (preL k) (preP k) (chL k cs)) = true → (chL k cs).length ≤ 4294967296 ∧ lp.length ≤ 4294967296 ∧ (preP k).length ≤ 4294967296 ∧ (fsP k cs).length ≤ 4294967296 ∧ okC (fsG k cs) (fsP k cs) (chL k cs) = true ∧ (2 : Int) = chM k cs lm ls lg lp ∧ (0 : Int) = chS k cs lm ls lg lp ∧ fsG k cs = chG k cs lm ls lg lp ∧ fsP k cs = chP k cs lm ls lg lp ∧ (2 : Int) = chO k cs lm ls lg lp ∧ (0 : Int) = chE k cs lm ls lg lp)) := by
    intro ha
    refine ⟨by omega, by omega, by omega, by omega, rfl, H.okN, hfl, by omega, fun h3 => ⟨by omega, hl, by omega, hfl, hfo, ch_A hE ho ((isA_has ha).trans h3)⟩, fun h3 => ⟨fun h4 => ⟨by omega, hl, by omega, hfl, hfo, ch_B hE ho ((isA_has ha).trans (bT h3)) ((isB_has ha).trans h4)⟩, fun h4 => ⟨by omega, hl, by omega, hfl, hfo, ch_C hE ho ((isA_has ha).trans (bT h3)) ((isB_has ha).trans (bT h4))⟩⟩⟩
  refine ⟨fun hm => three (by unfold hasA; rw [hm]; rfl), fun hm => ⟨fun hm2 => three (by unfold hasA; rw [hm2, Bool.or_true]), fun hm2 => ?_⟩⟩
  have ha : hasA lm = false := by unfold hasA; rw [hm, hm2]; rfl
  refine ⟨by omega, by omega, by omega, rfl, H.okN, hfl, by omega, fun h3 => ⟨by omega, by omega, hfl, hfo, ch_B hE ho (isA_no ha) ((isB_no ha).trans h3)⟩, fun h3 => ⟨by omega, by omega, hfl, hfo, ch_C hE ho (isA_no ha) ((isB_no ha).trans (bT h3))⟩⟩
theorem ch1E_sound : Sound Tryz.prog 23 sCh1.ctr := sCh1.sound (by kernel_rfl) sCh1_enc fun ⟨g, p, n, l⟩ hc => by
  exact satG GPc_ok mixed Tryz.func23 (ch1E_e g p n l) (ch1E_v g p n l)
theorem ch11E_sound : Sound Tryz.prog 24 sCh11.ctr := sCh11.sound (by kernel_rfl) sCh11_enc fun ⟨g, p, n, l⟩ hc => by
  have h0 := hc _ (.head _)
  have h1 := hc _ (.tail _ (.head _))
  exact satG GPc_ok mixed Tryz.func24 (ch11E_e g p n l) (ch11E_v g p n l h0 h1)
theorem GSa_ok : AllOk Tryz.prog GSa := .cons ch1E_sound <| .cons ch11E_sound <| GPc_ok
theorem ch2E_sound : Sound Tryz.prog 30 sCh2.ctr := sCh2.sound (by kernel_rfl) sCh2_enc fun ⟨m, s, h, q, o, g, p, n, l⟩ hc => by
  have h0 := hc _ (.head _)
  have h1 := hc _ (.tail _ (.head _))
  exact satG GSa_ok mixed Tryz.func30 (ch2E_e m s h q o g p n l) (ch2E_v m s h q o g p n l h0 h1)
theorem GSb_ok : AllOk Tryz.prog GSb := .cons ch2E_sound <| GSa_ok
theorem least2E_sound : Sound Tryz.prog 29 sLeast2.ctr := sLeast2.sound (by kernel_rfl) sLeast2_enc fun ⟨l, (m1, s1, h1, q1, o1, g1, p1, n1), (m2, s2, h2, q2, o2, g2, p2, n2)⟩ hc => by
  have c0 : l.length ≤ 4294967296 := hc _ (.head _)
  have c1 : p1.length ≤ 4294967296 := hc _ (.tail _ (.head _))
  have c2 : p2.length ≤ 4294967296 := hc _ (.tail _ (.tail _ (.head _)))
  have c3 : okC g2 p2 l = true := hc _ (.tail _ (.tail _ (.tail _ (.head _))))
  exact satG GSb_ok mixed Tryz.func29 (least2E_e l m1 s1 h1 q1 o1 g1 p1 n1 m2 s2 h2 q2 o2 g2 p2 n2) (least2E_v l m1 s1 h1 q1 o1 g1 p1 n1 m2 s2 h2 q2 o2 g2 p2 n2 c0 c1 c2 c3)
theorem least3E_sound : Sound Tryz.prog 29 sLeast3.ctr := sLeast3.sound (by kernel_rfl) sLeast3_enc fun ⟨l, (m1, s1, h1, q1, o1, g1, p1, n1), (m2, s2, h2, q2, o2, g2, p2, n2), (m3, s3, h3, q3, o3, g3, p3, n3)⟩ hc => by
  have c0 : l.length ≤ 4294967296 := hc _ (.head _)
  have c1 : p1.length ≤ 4294967296 := hc _ (.tail _ (.head _))
  have c2 : p2.length ≤ 4294967296 := hc _ (.tail _ (.tail _ (.head _)))
  have c3 : p3.length ≤ 4294967296 := hc _ (.tail _ (.tail _ (.tail _ (.head _))))
  have c4 : okC g3 p3 l = true := hc _ (.tail _ (.tail _ (.tail _ (.tail _ (.head _)))))
  exact satG GSb_ok mixed Tryz.func29 (least3E_e l m1 s1 h1 q1 o1 g1 p1 n1 m2 s2 h2 q2 o2 g2 p2 n2 m3 s3 h3 q3 o3 g3 p3 n3) (least3E_v l m1 s1 h1 q1 o1 g1 p1 n1 m2 s2 h2 q2 o2 g2 p2 n2 m3 s3 h3 q3 o3 g3 p3 n3 c0 c1 c2 c3 c4)
theorem GSc_ok : AllOk Tryz.prog GSc := .cons (orC_sound least2E_sound least3E_sound) <| GSb_ok
theorem chooE_sound : Sound Tryz.prog 9 sChoo.ctr := sChoo.sound (by kernel_rfl) sChoo_enc fun ⟨k, cs, lm, ls, lg, lp⟩ hc => by
  have h0 := hc _ (.head _)
  have h1 := hc _ (.tail _ (.head _))
  exact satG GSc_ok mixed Tryz.func9 (chooE_e k cs lm ls lg lp) (chooE_v k cs lm ls lg lp h0 h1)
theorem GSd_ok : AllOk Tryz.prog GSd := .cons chooE_sound <| GSc_ok
end Go.Proofs.YtcoogfifjibkhaaGreat
namespace Go.Proofs.YtcoogfifjibkhaaGreat
open Go Go.RowKit
set_option linter.unusedVariables false
set_option linter.unusedSimpArgs false
def nil0 : SV → SV
  | .v (.slice none 0 0) => .dat (.ints .i64 [])
  | x => x
def nilA : SV → SV
  | .ag cs => .ag (cs.map nil0)
  | x => nil0 x
def Ctr.nilA (c : Ctr) : Ctr := ⟨c.own, fun l H n => c.tr (l.map Proofs.YtcoogfifjibkhaaGreat.nilA) H n⟩
section
variable {D : Nat → Prop} {w : World} {β : Nat → Option Loc}
theorem nil0_ok (x : SV) {u : Value} (h : Rep D w β x u) : Rep D w β (nil0 x) u := by
  unfold nil0
  split
  · simp only [Rep] at h
    subst h
    simp only [Rep, RepDat, SliceAt]
    exact ⟨none, 0, rfl, Nat.le_refl _, fun h => by cases h⟩
  · exact h
theorem nil0s_ok : ∀ (xs : List SV) {us : List Value}, Reps D w β xs us → Reps D w β (xs.map nil0) us
  | [], _, h => h
  | x :: xs, _, h => by
    simp only [Reps, List.map_cons] at h ⊢
    obtain ⟨u, us, h1, h2, h3⟩ := h
    exact ⟨u, us, h1, nil0_ok x h2, nil0s_ok xs h3⟩
theorem nilA_ok (x : SV) {u : Value} (h : Rep D w β x u) : Rep D w β (Proofs.YtcoogfifjibkhaaGreat.nilA x) u := by
  unfold Proofs.YtcoogfifjibkhaaGreat.nilA
  split
  · simp only [Rep] at h ⊢
    obtain ⟨us, h1, h2⟩ := h
    exact ⟨us, h1, nil0s_ok _ h2⟩
  · exact nil0_ok x h
theorem nilAs_ok : ∀ (xs : List SV) {us : List Value}, Reps D w β xs us → Reps D w β (xs.map Proofs.YtcoogfifjibkhaaGreat.nilA) us
  | [], _, h => h
  | x :: xs, _, h => by
    simp only [Reps, List.map_cons] at h ⊢
    obtain ⟨u, us, h1, h2, h3⟩ := h
    exact ⟨u, us, h1, nilA_ok x h2, nilAs_ok xs h3⟩
end
theorem Sound.nilA {P : Program} {f : FuncId} {c : Ctr} (h : Sound P f c) : Sound P f c.nilA :=
  ⟨h.1, fun l H n hp => fun D β w us hr => h.2 (l.map Proofs.YtcoogfifjibkhaaGreat.nilA) H n hp D β w us (nilAs_ok l hr)⟩
end Go.Proofs.YtcoogfifjibkhaaGreat
namespace Go.Proofs.YtcoogfifjibkhaaGreat
open Go Go.RowKit
set_option linter.unusedVariables false
set_option linter.unusedSimpArgs false
set_option maxRecDepth 100000
def sOwnT : Spec where
  ι := Int × Int × Int × List Int
  dec l H := match l with
    | [.ag [.v (.int .i64 m), .v (.int .i64 s), .v (.int .i64 g), .dat (.ints .i64 p)]] => some ((m, s, g, p), [])
    | _ => none
  args := fun (m, s, g, p) => [.ag [.v (.int .i64 m), .v (.int .i64 s), .v (.int .i64 g), .dat (.ints .i64 p)]]
  pre := fun (m, s, g, p) => [⟨p.length ≤ 4294967296, inferInstance⟩]
  out := fun (m, s, g, p) => .leaf (.ag [.v (.int .i64 m), .v (.int .i64 s), .v (.int .i64 g), .dat (.ints .i64 p)]) []
theorem sOwnT_enc : ∀ l H n i ls, sOwnT.dec l H = some (i, ls) → l = renL (rho ls n) (sOwnT.args i) ∧ givenHp H ls = renH (rho ls n) (sOwnT.hp i) := by
  intro l H n i ls h
  simp only [sOwnT] at h
  repeat' split at h
  all_goals first
    | (cases h; done)
    | (cases h; exact ⟨rfl, rfl⟩)
def sLiT : Spec where
  ι := Int × Int × Int × List Int
  dec l H := match l with
    | [.ag [.v (.int .i64 m), .v (.int .i64 s), .v (.int .i64 g), .dat (.ints .i64 p)]] => some ((m, s, g, p), [])
    | _ => none
  args := fun (m, s, g, p) => [.ag [.v (.int .i64 m), .v (.int .i64 s), .v (.int .i64 g), .dat (.ints .i64 p)]]
  out := fun (m, s, g, p) => .leaf (.v (.bool (lightT g p))) []
theorem sLiT_enc : ∀ l H n i ls, sLiT.dec l H = some (i, ls) → l = renL (rho ls n) (sLiT.args i) ∧ givenHp H ls = renH (rho ls n) (sLiT.hp i) := by
  intro l H n i ls h
  simp only [sLiT] at h
  repeat' split at h
  all_goals first
    | (cases h; done)
    | (cases h; exact ⟨rfl, rfl⟩)
def sTrue : Spec where
  ι := Unit
  dec l H := match l with
    | [] => some ((), [])
    | _ => none
  args := fun _ => []
  out := fun _ => .leaf (.v (.bool true)) []
theorem sTrue_enc : ∀ l H n i ls, sTrue.dec l H = some (i, ls) → l = renL (rho ls n) (sTrue.args i) ∧ givenHp H ls = renH (rho ls n) (sTrue.hp i) := by
  intro l H n i ls h
  simp only [sTrue] at h
  repeat' split at h
  all_goals first
    | (cases h; done)
    | (cases h; exact ⟨rfl, rfl⟩)
def sNoT : Spec where
  ι := Unit
  dec l H := match l with
    | [] => some ((), [])
    | _ => none
  args := fun _ => []
  out := fun _ => .leaf (.ag [.v (.int .i64 (-1)), .v (.int .i64 0), .v (.int .i64 0), .dat (.ints .i64 [])]) []
theorem sNoT_enc : ∀ l H n i ls, sNoT.dec l H = some (i, ls) → l = renL (rho ls n) (sNoT.args i) ∧ givenHp H ls = renH (rho ls n) (sNoT.hp i) := by
  intro l H n i ls h
  simp only [sNoT] at h
  repeat' split at h
  all_goals first
    | (cases h; done)
    | (cases h; exact ⟨rfl, rfl⟩)
def sPrT : Spec where
  ι := Int
  dec l H := match l with
    | [.v (.int .i64 k)] => some (k, [])
    | _ => none
  args := fun k => [.v (.int .i64 k)]
  out := fun k => .leaf (.ag [.v (.int .i64 0), .v (.int .i64 0), .v (.int .i64 (preL k)), .dat (.ints .i64 (preP k))]) []
theorem sPrT_enc : ∀ l H n i ls, sPrT.dec l H = some (i, ls) → l = renL (rho ls n) (sPrT.args i) ∧ givenHp H ls = renH (rho ls n) (sPrT.hp i) := by
  intro l H n i ls h
  simp only [sPrT] at h
  repeat' split at h
  all_goals first
    | (cases h; done)
    | (cases h; exact ⟨rfl, rfl⟩)
def GUa : List (Nat × Ctr) := (7, sOwnT.ctr) :: (5, sLiT.ctr) :: (11, sSaT.ctr.nilA) :: (17, sNoT.ctr) :: (18, sPrT.ctr) :: GSd
def GUb : List (Nat × Ctr) := (6, sTrue.ctr) :: GUa
end Go.Proofs.YtcoogfifjibkhaaGreat
namespace Go.Proofs.YtcoogfifjibkhaaGreat
open Go Go.RowKit
set_option linter.unusedVariables false
set_option maxRecDepth 100000
def lownE_t (m s g : Int) (p : List Int) : Prop :=
 List.length p ≤ (4294967296 : Nat) ∧ m = m ∧ s = s ∧ g = g ∧ p = p
theorem lownE_e (m s g : Int) (p : List Int) : lownE_t m s g p = vcG Tryz.prog (Gof GSd) (fun _ => none) Tryz.f7 [.ag [.v (.int .i64 m), .v (.int .i64 s), .v (.int .i64 g), .dat (.ints .i64 p)]] [] (.leaf ((.ag [.v (.int .i64 m), .v (.int .i64 s), .v (.int .i64 g), .dat (.ints .i64 p)])) ([])) := by kernel_rfl
def lliE_t (m s g : Int) (p : List Int) : Prop :=
 (decide ((↑(List.length p) : Int) ≤ (60 : Int)) = true → decide (g ≤ (9 : Int)) = lightT g p) ∧ (decide ((↑(List.length p) : Int) ≤ (60 : Int)) = false → false = lightT g p)
theorem lliE_e (m s g : Int) (p : List Int) : lliE_t m s g p = vcG Tryz.prog (Gof GSd) (fun _ => none) Tryz.f5 [.ag [.v (.int .i64 m), .v (.int .i64 s), .v (.int .i64 g), .dat (.ints .i64 p)]] [] (.leaf ((.v (.bool (lightT g p)))) ([])) := by kernel_rfl
def lsaE_t (m s g : Int) (p : List Int) (n t h : Int) (q : List Int) : Prop :=
 ((m == n) = true →
 ((s == t) = true → ((g == h) = true → List.length p ≤ (4294967296 : Nat) ∧ eqI p q = saT m s g p n t h q) ∧ ((g == h) = false → false = saT m s g p n t h q)) ∧
 ((s == t) = false → false = saT m s g p n t h q)) ∧
 ((m == n) = false → false = saT m s g p n t h q)
theorem lsaE_e (m s g : Int) (p : List Int) (n t h : Int) (q : List Int) : lsaE_t m s g p n t h q = vcG Tryz.prog (Gof GSd) (fun _ => none) Tryz.f11 [.ag [.v (.int .i64 m), .v (.int .i64 s), .v (.int .i64 g), .dat (.ints .i64 p)], .ag [.v (.int .i64 n), .v (.int .i64 t), .v (.int .i64 h), .dat (.ints .i64 q)]] [] (.leaf ((.v (.bool (saT m s g p n t h q)))) ([])) := by kernel_rfl
def lnoE_t  : Prop :=
 (-1 : Int) = (-1 : Int) ∧ (0 : Int) = (0 : Int) ∧ (0 : Int) = (0 : Int) ∧ (0 : Nat) = (0 : Nat)
theorem lnoE_e  : lnoE_t  = vcG Tryz.prog (Gof GSd) (fun _ => none) Tryz.f17 [] [] (.leaf ((.ag [.v (.int .i64 (-1)), .v (.int .i64 0), .v (.int .i64 0), .dat (.ints .i64 [])])) ([])) := by kernel_rfl
def lprE_t (k : Int) : Prop :=
 (0 : Int) = (0 : Int) ∧ (0 : Int) = (0 : Int) ∧ preL k = preL k ∧ preP k = preP k
theorem lprE_e (k : Int) : lprE_t k = vcG Tryz.prog (Gof GSd) (fun _ => none) Tryz.f18 [.v (.int .i64 k)] [] (.leaf ((.ag [.v (.int .i64 0), .v (.int .i64 0), .v (.int .i64 (preL k)), .dat (.ints .i64 (preP k))])) ([])) := by kernel_rfl
def lawakeE_t  : Prop :=
 List.length [(5 : Int), (5 : Int), (5 : Int)] ≤ (1000 : Nat) ∧
 List.length ([] : List Int) ≤ (4294967296 : Nat) ∧
 List.length [(0 : Int), (1 : Int)] ≤ (1000 : Nat) ∧
 List.length ([] : List Int) ≤ (4294967296 : Nat) ∧
 ByteArray.size ByteArray.empty ≤ (700 : Nat) ∧
 List.length ([] : List Int) ≤ (4294967296 : Nat) ∧
 ((chE (0 : Int) [(5 : Int), (5 : Int), (5 : Int)] (-1 : Int) (0 : Int) (0 : Int) [] == (0 : Int)) = true →
 ((chO (0 : Int) [(5 : Int), (5 : Int), (5 : Int)] (-1 : Int) (0 : Int) (0 : Int) [] == (1 : Int)) = true →
 List.length (chP (0 : Int) [(5 : Int), (5 : Int), (5 : Int)] (-1 : Int) (0 : Int) (0 : Int) []) ≤ (4294967296 : Nat) ∧
 (saT (chM (0 : Int) [(5 : Int), (5 : Int), (5 : Int)] (-1 : Int) (0 : Int) (0 : Int) []) (chS (0 : Int) [(5 : Int), (5 : Int), (5 : Int)] (-1 : Int) (0 : Int) (0 : Int) [])
 (chG (0 : Int) [(5 : Int), (5 : Int), (5 : Int)] (-1 : Int) (0 : Int) (0 : Int) []) (chP (0 : Int) [(5 : Int), (5 : Int), (5 : Int)] (-1 : Int) (0 : Int) (0 : Int) [])
 (1 : Int) (5 : Int) (0 : Int) [] =
 true →
 ((chE (0 : Int) [(0 : Int), (1 : Int)] (-1 : Int) (0 : Int) (0 : Int) [] == (0 : Int)) = true →
 ((chO (0 : Int) [(0 : Int), (1 : Int)] (-1 : Int) (0 : Int) (0 : Int) [] == (0 : Int)) = true →
 List.length (chP (0 : Int) [(0 : Int), (1 : Int)] (-1 : Int) (0 : Int) (0 : Int) []) ≤ (4294967296 : Nat) ∧
 (saT (chM (0 : Int) [(0 : Int), (1 : Int)] (-1 : Int) (0 : Int) (0 : Int) []) (chS (0 : Int) [(0 : Int), (1 : Int)] (-1 : Int) (0 : Int) (0 : Int) [])
 (chG (0 : Int) [(0 : Int), (1 : Int)] (-1 : Int) (0 : Int) (0 : Int) []) (chP (0 : Int) [(0 : Int), (1 : Int)] (-1 : Int) (0 : Int) (0 : Int) []) (0 : Int)
 (0 : Int) (preL (0 : Int)) (preP (0 : Int)) =
 true →
 (trE (0 : Int) (3 : Int) ByteArray.empty (0 : Int) (-1 : Int) (0 : Int) (0 : Int) [] == (26 : Int) &&
 (trA (0 : Int) (3 : Int) ByteArray.empty (0 : Int) (-1 : Int) (0 : Int) (0 : Int) [] == (0 : Int) && true)) =
 true) ∧
 (saT (chM (0 : Int) [(0 : Int), (1 : Int)] (-1 : Int) (0 : Int) (0 : Int) []) (chS (0 : Int) [(0 : Int), (1 : Int)] (-1 : Int) (0 : Int) (0 : Int) [])
 (chG (0 : Int) [(0 : Int), (1 : Int)] (-1 : Int) (0 : Int) (0 : Int) []) (chP (0 : Int) [(0 : Int), (1 : Int)] (-1 : Int) (0 : Int) (0 : Int) []) (0 : Int)
 (0 : Int) (preL (0 : Int)) (preP (0 : Int)) =
 false →
 false = true)) ∧
 ((chO (0 : Int) [(0 : Int), (1 : Int)] (-1 : Int) (0 : Int) (0 : Int) [] == (0 : Int)) = false → false = true)) ∧
 ((chE (0 : Int) [(0 : Int), (1 : Int)] (-1 : Int) (0 : Int) (0 : Int) [] == (0 : Int)) = false → false = true)) ∧
 (saT (chM (0 : Int) [(5 : Int), (5 : Int), (5 : Int)] (-1 : Int) (0 : Int) (0 : Int) []) (chS (0 : Int) [(5 : Int), (5 : Int), (5 : Int)] (-1 : Int) (0 : Int) (0 : Int) [])
 (chG (0 : Int) [(5 : Int), (5 : Int), (5 : Int)] (-1 : Int) (0 : Int) (0 : Int) []) (chP (0 : Int) [(5 : Int), (5 : Int), (5 : Int)] (-1 : Int) (0 : Int) (0 : Int) [])
 (1 : Int) (5 : Int) (0 : Int) [] =
 false →
 false = true)) ∧
 ((chO (0 : Int) [(5 : Int), (5 : Int), (5 : Int)] (-1 : Int) (0 : Int) (0 : Int) [] == (1 : Int)) = false → false = true)) ∧
 ((chE (0 : Int) [(5 : Int), (5 : Int), (5 : Int)] (-1 : Int) (0 : Int) (0 : Int) [] == (0 : Int)) = false → false = true)
theorem lawakeE_e  : lawakeE_t  = vcG Tryz.prog (Gof GUa) (fun _ => none) Tryz.f6 [] [] (.leaf ((.v (.bool true))) ([])) := by kernel_rfl
def lawRdE_t (k m : Int) (s : ByteArray) (a lm ls lg : Int) (lp : List Int) : Prop :=
 (decide ((↑(ByteArray.size s) : Int) > (100 : Int)) = true → true = true) ∧
 (decide ((↑(ByteArray.size s) : Int) > (100 : Int)) = false →
 ((!lightT lg lp) = true → true = true) ∧
 ((!lightT lg lp) = false →
 List.length lp ≤ (4294967296 : Nat) ∧
 ByteArray.size s ≤ (700 : Nat) ∧
 List.length lp ≤ (4294967296 : Nat) ∧
 ByteArray.size s ≤ (700 : Nat) ∧
 List.length lp ≤ (4294967296 : Nat) ∧
 List.length (trP k m s a lm ls lg lp) ≤ (4294967296 : Nat) ∧
 (saT (trM k m s a lm ls lg lp) (trS k m s a lm ls lg lp) (trG k m s a lm ls lg lp) (trP k m s a lm ls lg lp) (trM k m s a lm ls lg lp) (trS k m s a lm ls lg lp)
 (trG k m s a lm ls lg lp) (trP k m s a lm ls lg lp) =
 true →
 ((trN k m s a lm ls lg lp == trN k m s a lm ls lg lp) = true →
 ((trE k m s a lm ls lg lp == trE k m s a lm ls lg lp && (trA k m s a lm ls lg lp == trA k m s a lm ls lg lp && true)) = true → true = true) ∧
 ((trE k m s a lm ls lg lp == trE k m s a lm ls lg lp && (trA k m s a lm ls lg lp == trA k m s a lm ls lg lp && true)) = false → false = true)) ∧
 ((trN k m s a lm ls lg lp == trN k m s a lm ls lg lp) = false → false = true)) ∧
 (saT (trM k m s a lm ls lg lp) (trS k m s a lm ls lg lp) (trG k m s a lm ls lg lp) (trP k m s a lm ls lg lp) (trM k m s a lm ls lg lp) (trS k m s a lm ls lg lp)
 (trG k m s a lm ls lg lp) (trP k m s a lm ls lg lp) =
 false →
 false = true)))
theorem lawRdE_e (k m : Int) (s : ByteArray) (a lm ls lg : Int) (lp : List Int) : lawRdE_t k m s a lm ls lg lp = vcG Tryz.prog (Gof GUb) (fun _ => none) Tryz.f4 [.v (.int .i64 k), .v (.int .i64 m), .v (.string s), .v (.int .i64 a), .ag [.v (.int .i64 lm), .v (.int .i64 ls), .v (.int .i64 lg), .dat (.ints .i64 lp)]] [] (.leaf ((.v (.bool true))) ([])) := by kernel_rfl
end Go.Proofs.YtcoogfifjibkhaaGreat
namespace Go.Proofs.YtcoogfifjibkhaaGreat
open Go Go.RowKit
set_option linter.unusedVariables false
set_option linter.unusedSimpArgs false
set_option maxRecDepth 100000
theorem lliE_v (m s g : Int) (p : List Int) : lliE_t m s g p := by
  unfold lliE_t lightT
  refine ⟨fun h => ?_, fun h => ?_⟩ <;> rw [h]
  · rw [Bool.true_and]
  · rfl
theorem lsaE_v (m s g : Int) (p : List Int) (n t h : Int) (q : List Int) (hp : p.length ≤ 4294967296) : lsaE_t m s g p n t h q := by
  unfold lsaE_t saT saD
  refine ⟨fun h1 => ⟨fun h2 => ⟨fun h3 => ⟨hp, ?_⟩, fun h3 => ?_⟩, fun h2 => ?_⟩, fun h1 => ?_⟩
  · rw [h1, h2, h3]; rfl
  · rw [h1, h2, h3]; rfl
  · rw [h1, h2]; rfl
  · rw [h1]; rfl
set_option synthInstance.maxSize 100000 in
set_option synthInstance.maxHeartbeats 0 in
theorem lawakeE_v : lawakeE_t := by
  unfold lawakeE_t
  decide +kernel
theorem saT_refl (m s g : Int) (p : List Int) : saT m s g p m s g p = true := by unfold saT saD eqI; simp
theorem trP_len (k m : Int) (s : ByteArray) (a lm ls lg : Int) (lp : List Int) (hl : lp.length ≤ 256) : (trP k m s a lm ls lg lp).length ≤ 4294967296 := by
  have hpl := pre_len k
  have hr := readF_len 2000 s a (grtI k) (mostI k + 1)
  unfold trP rfA
  cases trB k m s a lm ls lg lp
  · exact Nat.zero_le _
  · cases m == 0
    · cases m == 2
      · cases m == 3
        · exact Nat.zero_le _
        · show lp.length ≤ _; omega
      · exact hr
    · show (preP k).length ≤ _; omega
theorem light_len {g : Int} {p : List Int} (h : (!lightT g p) = false) : p.length ≤ 60 := by
  unfold lightT at h
  cases hb : decide ((p.length : Int) ≤ 60)
  · rw [hb] at h; cases h
  · simp only [decide_eq_true_eq] at hb; omega
theorem lawRdE_v (k m : Int) (s : ByteArray) (a lm ls lg : Int) (lp : List Int) : lawRdE_t k m s a lm ls lg lp := by
  unfold lawRdE_t
  refine ⟨fun _ => rfl, fun h1 => ⟨fun _ => rfl, fun h2 => ?_⟩⟩
  have h1 : s.size ≤ 100 := by simp only [gt_iff_lt, decide_eq_false_iff_not] at h1; omega
  have h2 := light_len h2
  have hp := trP_len k m s a lm ls lg lp (by omega)
  have a1 : lp.length ≤ 4294967296 := by omega
  have a4 : s.size ≤ 700 := by omega
  simp only [hp, a1, a4, saT_refl, bne_self_eq_false, beq_self_eq_true, Bool.and_self, Bool.not_true, true_and, and_true, implies_true, Bool.false_eq_true, Bool.true_eq_false, false_implies, true_implies]
theorem lownE_v (m s g : Int) (p : List Int) (h : p.length ≤ 4294967296) : lownE_t m s g p := ⟨h, rfl, rfl, rfl, rfl⟩
theorem lownE_sound : Sound Tryz.prog 7 sOwnT.ctr := sOwnT.sound (by kernel_rfl) sOwnT_enc fun ⟨m, s, g, p⟩ hc => by
  have h0 := hc _ (.head _)
  exact satG GSd_ok mixed Tryz.func7 (lownE_e m s g p) (lownE_v m s g p h0)
theorem lliE_sound : Sound Tryz.prog 5 sLiT.ctr := sLiT.sound (by kernel_rfl) sLiT_enc fun ⟨m, s, g, p⟩ hc => by
  exact satG GSd_ok mixed Tryz.func5 (lliE_e m s g p) (lliE_v m s g p)
theorem lsaE_sound : Sound Tryz.prog 11 sSaT.ctr := sSaT.sound (by kernel_rfl) sSaT_enc fun ⟨m, s, g, p, n, t, h, q⟩ hc => by
  have h0 := hc _ (.head _)
  exact satG GSd_ok mixed Tryz.func11 (lsaE_e m s g p n t h q) (lsaE_v m s g p n t h q h0)
theorem lnoE_sound : Sound Tryz.prog 17 sNoT.ctr := sNoT.sound (by kernel_rfl) sNoT_enc fun _ hc => by
  exact satG GSd_ok mixed Tryz.func17 (lnoE_e ) (⟨rfl, rfl, rfl, rfl⟩)
theorem lprE_sound : Sound Tryz.prog 18 sPrT.ctr := sPrT.sound (by kernel_rfl) sPrT_enc fun k hc => by
  exact satG GSd_ok mixed Tryz.func18 (lprE_e k) (⟨rfl, rfl, rfl, rfl⟩)
theorem GUa_ok : AllOk Tryz.prog GUa := .cons lownE_sound <| .cons lliE_sound <| .cons lsaE_sound.nilA <| .cons lnoE_sound <| .cons lprE_sound <| GSd_ok
theorem lawakeE_sound : Sound Tryz.prog 6 sTrue.ctr := sTrue.sound (by kernel_rfl) sTrue_enc fun _ hc => by
  exact satG GUa_ok mixed Tryz.func6 (lawakeE_e ) (lawakeE_v)
theorem GUb_ok : AllOk Tryz.prog GUb := .cons lawakeE_sound <| GUa_ok
theorem trd_any (k m : Int) (x : ByteArray) (a : Int) (lm s g : Int) (A2 : Option Addr) (n2 cap2 : Nat) (zs2 : List Int) (W : World) (hk : InR k) (hm : InR m) (hx : x.size ≤ 9223372036854775807) (ha : InR a) (hlm : InR lm) (hs : InR s) (hg : InR g) (hI2 : IntsIn W A2 n2 cap2 zs2) :
    Calls Tryz.prog 4 #[.int .i64 k, .int .i64 m, .string x, .int .i64 a, .agg #[.int .i64 lm, .int .i64 s, .int .i64 g, .slice A2 n2 cap2]] W fun e w' => e = .returned (.bool true) ∧ Below W.heap.size W w' := by
  refine law_true (us := [.int .i64 k, .int .i64 m, .string x, .int .i64 a, .agg #[.int .i64 lm, .int .i64 s, .int .i64 g, .slice A2 n2 cap2]]) (satG GUb_ok mixed Tryz.func4 (lawRdE_e k m x a lm s g (zs2.take n2)) (lawRdE_v _ _ _ _ _ _ _ _)) (.inr rfl) ?_
  simp only [Reps]
  exact ⟨_, _, rfl, rfl, _, _, rfl, rfl, _, _, rfl, rfl, _, _, rfl, rfl, _, _, rfl, ⟨[_, _, _, _], rfl, _, _, rfl, rfl, _, _, rfl, rfl, _, _, rfl, rfl, _, _, rfl, dat_ints hI2, rfl⟩, rfl⟩
end Go.Proofs.YtcoogfifjibkhaaGreat
