/- For every input the law FnExactDeleteZ returns true, and every argument reads behind the call as it read before: no condition. Here: the last part, the theorem in it. -/
import Derived.Test.YthdddcegopgopaaDoorQax0
import Derived.Test.YthdddcegopgopaaDoorQax2
import Derived.Test.YthdddcegopgopaaDoorQax18
import Derived.Test.YthdddcegopgopaaDoorQax20
import Derived.Test.YthdddcegopgopaaDoorZFnExactDeleteZa
import Derived.Test.YthdddcegopgopaaDoorZFnExactDeleteZb
import Derived.Test.YthdddcegopgopaaDoorWWords
import Derived.Deep.Slices
import Derived.ChangeArms
import Derived.Test.YthdddcegopgopaaDoorQax1
import Derived.Test.YthdddcegopgopaaDoorQax19
import Derived.Test.YthdddcegopgopaaDoorQax21
import Derived.Test.YthdddcegopgopaaDoorQax4
import Derived.Test.YthdddcegopgopaaDoorQax22
import Derived.Test.YthdddcegopgopaaDoorQax5
import Derived.Test.YthdddcegopgopaaDoorQax23
import Derived.Test.YthdddcegopgopaaDoorQax3
import Derived.Test.YthdddcegopgopaaDoorQax6
import Derived.Test.YthdddcegopgopaaDoorQax7
import Derived.Test.YthdddcegopgopaaDoorQax11
import Derived.Lib.Bytealg
import Derived.Test.YthdddcegopgopaaDoorQax12
import Derived.Test.YthdddcegopgopaaDoorQax10
import Derived.Test.YthdddcegopgopaaDoorQax13
import Derived.Test.YthdddcegopgopaaDoorQax28
import Derived.Test.YthdddcegopgopaaDoorQax29
import Derived.Test.YthdddcegopgopaaDoorQax30
import Derived.Test.YthdddcegopgopaaDoorQax31
import Derived.Test.YthdddcegopgopaaDoorQax8
import Derived.Test.YthdddcegopgopaaDoorQax9
import Derived.Test.YthdddcegopgopaaDoorQax14
import Derived.Test.YthdddcegopgopaaDoorQax16
import Derived.Test.YthdddcegopgopaaDoorQax17
import Derived.Test.YthdddcegopgopaaDoorCards
import Derived.Test.YthdddcegopgopaaDoorTie
import Derived.WalkKit
import Derived.ProofKit
import Derived.OpenShut
import Derived.ShutString
import Derived.ChangeOld
import Derived.Below
import Derived.SizedLaws
import Derived.Lay
import Derived.LaidOnce
import Derived.SevenTiedAt
-- By gp.py (wip/gen of the work's repo), a program of this workplace over the kit's print: Lean checks it.
namespace Go.Proofs.YthdddcegopgopaaDoor.Qa
open Go.RowKit Go.Proofs.YthdddcegopgopaaDoorW.PrintWords Go.Proofs.YthdddcegopgopaaDoorW.PrintLast Go.Proofs.YthdddcegopgopaaDoorW.PrintMore
attribute [local go_sem] max2_int min2_int max_two min_two max_three min_three max_four min_four   -- for this text's walks alone
set_option linter.unusedVariables false
set_option linter.unusedSimpArgs false
set_option maxHeartbeats 8000000
set_option maxRecDepth 100000

/-! ### laws_FnExactDeleteZ: function 3 -/
mutual
def laws_FnExactDeleteZ.j0 : Nat → List (S44) → ByteArray → Int → Option (Bool)
 | 0, _, _, _ => none
 | k + 1, x0, x1, x2 => (laws_szZnodeS.f k x0 1048576).bind fun t101 => (if t101 < 0 then (some true) else (laws_FnExactDeleteZ.j1 k x0 x1 x2))
def laws_FnExactDeleteZ.j1 : Nat → List (S44) → ByteArray → Int → Option (Bool)
 | 0, _, _, _ => none
 | k + 1, x0, x1, x2 => (laws_toZnodeS.f k x0).bind fun t102 => ((spec_DeleteZ.f k t102 x1 x2).bind fun bt105 => ((laws_toZnodeS.f k x0).bind fun t111 => ((impl_DeleteZ.f k t111 x1 x2).bind fun bt114 => ((laws_eqZResult.f k bt114.1 bt114.2.1 bt114.2.2 bt105.1 bt105.2.1 bt105.2.2).bind fun t120 => (if t120 = true then (laws_FnExactDeleteZ.j2 k x0 x1 x2 t111 bt105.1 bt105.2.1 bt105.2.2 bt114.1 bt114.2.1 bt114.2.2) else (some false))))))
def laws_FnExactDeleteZ.j2 : Nat → List (S44) → ByteArray → Int → List (S47) → Int → ByteArray → List (S47) → Int → ByteArray → List (S47) → Option (Bool)
 | 0, _, _, _, _, _, _, _, _, _, _ => none
 | k + 1, x0, x1, x2, x9, x111000, x111001, x111002, x120000, x120001, x120002 => (laws_toZnodeS.f k x0).bind fun t121 => ((laws_eqZnodeS.f k x9 t121).bind fun t124 => (if t124 = true then (laws_FnExactDeleteZ.j3 k x0 x1 x2 x9 x111000 x111001 x111002 x120000 x120001 x120002) else (some false)))
def laws_FnExactDeleteZ.j3 : Nat → List (S44) → ByteArray → Int → List (S47) → Int → ByteArray → List (S47) → Int → ByteArray → List (S47) → Option (Bool)
 | 0, _, _, _, _, _, _, _, _, _, _ => none
 | k + 1, x0, x1, x2, x9, x111000, x111001, x111002, x120000, x120001, x120002 => (laws_markZnodeS.f k x9 1).bind fun bt125 => (if bt125.1 < 0 then (laws_FnExactDeleteZ.j4 k x0 x1 x2 true x111000 x111001 x111002 x120000 x120001 x120002) else ((laws_eqZResult.f k x120000 x120001 x120002 x111000 x111001 x111002).bind fun t127 => (laws_FnExactDeleteZ.j4 k x0 x1 x2 (!t127) x111000 x111001 x111002 x120000 x120001 x120002)))
def laws_FnExactDeleteZ.j4 : Nat → List (S44) → ByteArray → Int → Bool → Int → ByteArray → List (S47) → Int → ByteArray → List (S47) → Option (Bool)
 | 0, _, _, _, _, _, _, _, _, _, _ => none
 | k + 1, x0, x1, x2, x53, x111000, x111001, x111002, x120000, x120001, x120002 => if x53 = true then (some false) else (laws_FnExactDeleteZ.j5 k x0 x1 x2 x111000 x111001 x111002 x120000 x120001 x120002)
def laws_FnExactDeleteZ.j5 : Nat → List (S44) → ByteArray → Int → Int → ByteArray → List (S47) → Int → ByteArray → List (S47) → Option (Bool)
 | 0, _, _, _, _, _, _, _, _, _ => none
 | k + 1, x0, x1, x2, x111000, x111001, x111002, x120000, x120001, x120002 => (laws_markZResult.f k x120000 x120001 x120002 1).bind fun bt128 => ((laws_heldZResult.f k x120000 x120001 bt128.2 1).bind fun t130 => (if t130 < 0 then (some false) else (laws_FnExactDeleteZ.j6 k x0 x1 x2 bt128.1 t130 x111000 x111001 x111002 x120000 x120001 bt128.2)))
def laws_FnExactDeleteZ.j6 : Nat → List (S44) → ByteArray → Int → Int → Int → Int → ByteArray → List (S47) → Int → ByteArray → List (S47) → Option (Bool)
 | 0, _, _, _, _, _, _, _, _, _, _, _ => none
 | k + 1, x0, x1, x2, x12, x13, x111000, x111001, x111002, x120000, x120001, x120002 => if x13 = x12 then (laws_FnExactDeleteZ.j7 k x0 x1 x2 x12 x111000 x111001 x111002 x120000 x120001 x120002) else (some false)
def laws_FnExactDeleteZ.j7 : Nat → List (S44) → ByteArray → Int → Int → Int → ByteArray → List (S47) → Int → ByteArray → List (S47) → Option (Bool)
 | 0, _, _, _, _, _, _, _, _, _, _ => none
 | k + 1, x0, x1, x2, x12, x111000, x111001, x111002, x120000, x120001, x120002 => (laws_toZnodeS.f k x0).bind fun t131 => ((impl_DeleteZ.f k t131 x1 x2).bind fun bt134 => ((laws_eqZResult.f k bt134.1 bt134.2.1 bt134.2.2 x111000 x111001 x111002).bind fun t140 => (if t140 = true then (laws_FnExactDeleteZ.j8 k x12 x120000 x120001 x120002) else (some false))))
def laws_FnExactDeleteZ.j8 : Nat → Int → Int → ByteArray → List (S47) → Option (Bool)
 | 0, _, _, _, _ => none
 | k + 1, x12, x120000, x120001, x120002 => (laws_heldZResult.f k x120000 x120001 x120002 1).bind fun t141 => (if t141 < 0 then (some false) else (if t141 = x12 then (some true) else (some false)))
end
def laws_FnExactDeleteZ.f (k : Nat) (l0 : List (S44)) (a1 : ByteArray) (a2 : Int) : Option (Bool) := if (a1.size : Int) > 1048576 then (some true) else (laws_FnExactDeleteZ.j0 k l0 a1 a2)
theorem laws_FnExactDeleteZ.mono_l : ∀ k, (∀ y0 y1 y2, LeO (laws_FnExactDeleteZ.j0 k y0 y1 y2) (laws_FnExactDeleteZ.j0 (k + 1) y0 y1 y2)) ∧ (∀ y0 y1 y2, LeO (laws_FnExactDeleteZ.j1 k y0 y1 y2) (laws_FnExactDeleteZ.j1 (k + 1) y0 y1 y2)) ∧ (∀ y0 y1 y2 y3 y4 y5 y6 y7 y8 y9, LeO (laws_FnExactDeleteZ.j2 k y0 y1 y2 y3 y4 y5 y6 y7 y8 y9) (laws_FnExactDeleteZ.j2 (k + 1) y0 y1 y2 y3 y4 y5 y6 y7 y8 y9)) ∧ (∀ y0 y1 y2 y3 y4 y5 y6 y7 y8 y9, LeO (laws_FnExactDeleteZ.j3 k y0 y1 y2 y3 y4 y5 y6 y7 y8 y9) (laws_FnExactDeleteZ.j3 (k + 1) y0 y1 y2 y3 y4 y5 y6 y7 y8 y9)) ∧ (∀ y0 y1 y2 y3 y4 y5 y6 y7 y8 y9, LeO (laws_FnExactDeleteZ.j4 k y0 y1 y2 y3 y4 y5 y6 y7 y8 y9) (laws_FnExactDeleteZ.j4 (k + 1) y0 y1 y2 y3 y4 y5 y6 y7 y8 y9)) ∧ (∀ y0 y1 y2 y3 y4 y5 y6 y7 y8, LeO (laws_FnExactDeleteZ.j5 k y0 y1 y2 y3 y4 y5 y6 y7 y8) (laws_FnExactDeleteZ.j5 (k + 1) y0 y1 y2 y3 y4 y5 y6 y7 y8)) ∧ (∀ y0 y1 y2 y3 y4 y5 y6 y7 y8 y9 y10, LeO (laws_FnExactDeleteZ.j6 k y0 y1 y2 y3 y4 y5 y6 y7 y8 y9 y10) (laws_FnExactDeleteZ.j6 (k + 1) y0 y1 y2 y3 y4 y5 y6 y7 y8 y9 y10)) ∧ (∀ y0 y1 y2 y3 y4 y5 y6 y7 y8 y9, LeO (laws_FnExactDeleteZ.j7 k y0 y1 y2 y3 y4 y5 y6 y7 y8 y9) (laws_FnExactDeleteZ.j7 (k + 1) y0 y1 y2 y3 y4 y5 y6 y7 y8 y9)) ∧ (∀ y0 y1 y2 y3, LeO (laws_FnExactDeleteZ.j8 k y0 y1 y2 y3) (laws_FnExactDeleteZ.j8 (k + 1) y0 y1 y2 y3))
 | 0 => ⟨fun _ _ _ r h => by simp [laws_FnExactDeleteZ.j0] at h, fun _ _ _ r h => by simp [laws_FnExactDeleteZ.j1] at h, fun _ _ _ _ _ _ _ _ _ _ r h => by simp [laws_FnExactDeleteZ.j2] at h, fun _ _ _ _ _ _ _ _ _ _ r h => by simp [laws_FnExactDeleteZ.j3] at h, fun _ _ _ _ _ _ _ _ _ _ r h => by simp [laws_FnExactDeleteZ.j4] at h, fun _ _ _ _ _ _ _ _ _ r h => by simp [laws_FnExactDeleteZ.j5] at h, fun _ _ _ _ _ _ _ _ _ _ _ r h => by simp [laws_FnExactDeleteZ.j6] at h, fun _ _ _ _ _ _ _ _ _ _ r h => by simp [laws_FnExactDeleteZ.j7] at h, fun _ _ _ _ r h => by simp [laws_FnExactDeleteZ.j8] at h⟩
 | k + 1 => by
  obtain ⟨ih0, ih1, ih2, ih3, ih4, ih5, ih6, ih7, ih8⟩ := laws_FnExactDeleteZ.mono_l k
  refine ⟨?_, ?_, ?_, ?_, ?_, ?_, ?_, ?_, ?_⟩
  ·
   intro y0 y1 y2
   unfold laws_FnExactDeleteZ.j0
   repeat' first
   | (with_reducible exact ih0 _ _ _)
   | (with_reducible exact ih1 _ _ _)
   | (with_reducible exact ih2 _ _ _ _ _ _ _ _ _ _)
   | (with_reducible exact ih3 _ _ _ _ _ _ _ _ _ _)
   | (with_reducible exact ih4 _ _ _ _ _ _ _ _ _ _)
   | (with_reducible exact ih5 _ _ _ _ _ _ _ _ _)
   | (with_reducible exact ih6 _ _ _ _ _ _ _ _ _ _ _)
   | (with_reducible exact ih7 _ _ _ _ _ _ _ _ _ _)
   | (with_reducible exact ih8 _ _ _ _)
   | (with_reducible exact impl_DeleteZ.mono _ _ _ _)
   | (with_reducible exact laws_eqZResult.mono _ _ _ _ _ _ _)
   | (with_reducible exact laws_eqZnodeS.mono _ _ _)
   | (with_reducible exact laws_heldZResult.mono _ _ _ _ _)
   | (with_reducible exact laws_markZResult.mono _ _ _ _ _)
   | (with_reducible exact laws_markZnodeS.mono _ _ _)
   | (with_reducible exact laws_szZnodeS.mono _ _ _)
   | (with_reducible exact laws_toZnodeS.mono _ _)
   | (with_reducible exact spec_DeleteZ.mono _ _ _ _)
   | (with_reducible exact LeO.refl _)
   | (with_reducible exact LeO.none _)
   | (with_reducible refine LeO.ite ?_ ?_)
   | (with_reducible refine LeO.bind ?_ (fun _ => ?_))
   | exact ih0 _ _ _
   | exact ih1 _ _ _
   | exact ih2 _ _ _ _ _ _ _ _ _ _
   | exact ih3 _ _ _ _ _ _ _ _ _ _
   | exact ih4 _ _ _ _ _ _ _ _ _ _
   | exact ih5 _ _ _ _ _ _ _ _ _
   | exact ih6 _ _ _ _ _ _ _ _ _ _ _
   | exact ih7 _ _ _ _ _ _ _ _ _ _
   | exact ih8 _ _ _ _
   | exact impl_DeleteZ.mono _ _ _ _
   | exact laws_eqZResult.mono _ _ _ _ _ _ _
   | exact laws_eqZnodeS.mono _ _ _
   | exact laws_heldZResult.mono _ _ _ _ _
   | exact laws_markZResult.mono _ _ _ _ _
   | exact laws_markZnodeS.mono _ _ _
   | exact laws_szZnodeS.mono _ _ _
   | exact laws_toZnodeS.mono _ _
   | exact spec_DeleteZ.mono _ _ _ _
   | exact LeO.none _
   | refine LeO.ite ?_ ?_
   | refine LeO.bind ?_ (fun _ => ?_)
  ·
   intro y0 y1 y2
   unfold laws_FnExactDeleteZ.j1
   repeat' first
   | (with_reducible exact ih0 _ _ _)
   | (with_reducible exact ih1 _ _ _)
   | (with_reducible exact ih2 _ _ _ _ _ _ _ _ _ _)
   | (with_reducible exact ih3 _ _ _ _ _ _ _ _ _ _)
   | (with_reducible exact ih4 _ _ _ _ _ _ _ _ _ _)
   | (with_reducible exact ih5 _ _ _ _ _ _ _ _ _)
   | (with_reducible exact ih6 _ _ _ _ _ _ _ _ _ _ _)
   | (with_reducible exact ih7 _ _ _ _ _ _ _ _ _ _)
   | (with_reducible exact ih8 _ _ _ _)
   | (with_reducible exact impl_DeleteZ.mono _ _ _ _)
   | (with_reducible exact laws_eqZResult.mono _ _ _ _ _ _ _)
   | (with_reducible exact laws_eqZnodeS.mono _ _ _)
   | (with_reducible exact laws_heldZResult.mono _ _ _ _ _)
   | (with_reducible exact laws_markZResult.mono _ _ _ _ _)
   | (with_reducible exact laws_markZnodeS.mono _ _ _)
   | (with_reducible exact laws_szZnodeS.mono _ _ _)
   | (with_reducible exact laws_toZnodeS.mono _ _)
   | (with_reducible exact spec_DeleteZ.mono _ _ _ _)
   | (with_reducible exact LeO.refl _)
   | (with_reducible exact LeO.none _)
   | (with_reducible refine LeO.ite ?_ ?_)
   | (with_reducible refine LeO.bind ?_ (fun _ => ?_))
   | exact ih0 _ _ _
   | exact ih1 _ _ _
   | exact ih2 _ _ _ _ _ _ _ _ _ _
   | exact ih3 _ _ _ _ _ _ _ _ _ _
   | exact ih4 _ _ _ _ _ _ _ _ _ _
   | exact ih5 _ _ _ _ _ _ _ _ _
   | exact ih6 _ _ _ _ _ _ _ _ _ _ _
   | exact ih7 _ _ _ _ _ _ _ _ _ _
   | exact ih8 _ _ _ _
   | exact impl_DeleteZ.mono _ _ _ _
   | exact laws_eqZResult.mono _ _ _ _ _ _ _
   | exact laws_eqZnodeS.mono _ _ _
   | exact laws_heldZResult.mono _ _ _ _ _
   | exact laws_markZResult.mono _ _ _ _ _
   | exact laws_markZnodeS.mono _ _ _
   | exact laws_szZnodeS.mono _ _ _
   | exact laws_toZnodeS.mono _ _
   | exact spec_DeleteZ.mono _ _ _ _
   | exact LeO.none _
   | refine LeO.ite ?_ ?_
   | refine LeO.bind ?_ (fun _ => ?_)
  ·
   intro y0 y1 y2 y3 y4 y5 y6 y7 y8 y9
   unfold laws_FnExactDeleteZ.j2
   repeat' first
   | (with_reducible exact ih0 _ _ _)
   | (with_reducible exact ih1 _ _ _)
   | (with_reducible exact ih2 _ _ _ _ _ _ _ _ _ _)
   | (with_reducible exact ih3 _ _ _ _ _ _ _ _ _ _)
   | (with_reducible exact ih4 _ _ _ _ _ _ _ _ _ _)
   | (with_reducible exact ih5 _ _ _ _ _ _ _ _ _)
   | (with_reducible exact ih6 _ _ _ _ _ _ _ _ _ _ _)
   | (with_reducible exact ih7 _ _ _ _ _ _ _ _ _ _)
   | (with_reducible exact ih8 _ _ _ _)
   | (with_reducible exact impl_DeleteZ.mono _ _ _ _)
   | (with_reducible exact laws_eqZResult.mono _ _ _ _ _ _ _)
   | (with_reducible exact laws_eqZnodeS.mono _ _ _)
   | (with_reducible exact laws_heldZResult.mono _ _ _ _ _)
   | (with_reducible exact laws_markZResult.mono _ _ _ _ _)
   | (with_reducible exact laws_markZnodeS.mono _ _ _)
   | (with_reducible exact laws_szZnodeS.mono _ _ _)
   | (with_reducible exact laws_toZnodeS.mono _ _)
   | (with_reducible exact spec_DeleteZ.mono _ _ _ _)
   | (with_reducible exact LeO.refl _)
   | (with_reducible exact LeO.none _)
   | (with_reducible refine LeO.ite ?_ ?_)
   | (with_reducible refine LeO.bind ?_ (fun _ => ?_))
   | exact ih0 _ _ _
   | exact ih1 _ _ _
   | exact ih2 _ _ _ _ _ _ _ _ _ _
   | exact ih3 _ _ _ _ _ _ _ _ _ _
   | exact ih4 _ _ _ _ _ _ _ _ _ _
   | exact ih5 _ _ _ _ _ _ _ _ _
   | exact ih6 _ _ _ _ _ _ _ _ _ _ _
   | exact ih7 _ _ _ _ _ _ _ _ _ _
   | exact ih8 _ _ _ _
   | exact impl_DeleteZ.mono _ _ _ _
   | exact laws_eqZResult.mono _ _ _ _ _ _ _
   | exact laws_eqZnodeS.mono _ _ _
   | exact laws_heldZResult.mono _ _ _ _ _
   | exact laws_markZResult.mono _ _ _ _ _
   | exact laws_markZnodeS.mono _ _ _
   | exact laws_szZnodeS.mono _ _ _
   | exact laws_toZnodeS.mono _ _
   | exact spec_DeleteZ.mono _ _ _ _
   | exact LeO.none _
   | refine LeO.ite ?_ ?_
   | refine LeO.bind ?_ (fun _ => ?_)
  ·
   intro y0 y1 y2 y3 y4 y5 y6 y7 y8 y9
   unfold laws_FnExactDeleteZ.j3
   repeat' first
   | (with_reducible exact ih0 _ _ _)
   | (with_reducible exact ih1 _ _ _)
   | (with_reducible exact ih2 _ _ _ _ _ _ _ _ _ _)
   | (with_reducible exact ih3 _ _ _ _ _ _ _ _ _ _)
   | (with_reducible exact ih4 _ _ _ _ _ _ _ _ _ _)
   | (with_reducible exact ih5 _ _ _ _ _ _ _ _ _)
   | (with_reducible exact ih6 _ _ _ _ _ _ _ _ _ _ _)
   | (with_reducible exact ih7 _ _ _ _ _ _ _ _ _ _)
   | (with_reducible exact ih8 _ _ _ _)
   | (with_reducible exact impl_DeleteZ.mono _ _ _ _)
   | (with_reducible exact laws_eqZResult.mono _ _ _ _ _ _ _)
   | (with_reducible exact laws_eqZnodeS.mono _ _ _)
   | (with_reducible exact laws_heldZResult.mono _ _ _ _ _)
   | (with_reducible exact laws_markZResult.mono _ _ _ _ _)
   | (with_reducible exact laws_markZnodeS.mono _ _ _)
   | (with_reducible exact laws_szZnodeS.mono _ _ _)
   | (with_reducible exact laws_toZnodeS.mono _ _)
   | (with_reducible exact spec_DeleteZ.mono _ _ _ _)
   | (with_reducible exact LeO.refl _)
   | (with_reducible exact LeO.none _)
   | (with_reducible refine LeO.ite ?_ ?_)
   | (with_reducible refine LeO.bind ?_ (fun _ => ?_))
   | exact ih0 _ _ _
   | exact ih1 _ _ _
   | exact ih2 _ _ _ _ _ _ _ _ _ _
   | exact ih3 _ _ _ _ _ _ _ _ _ _
   | exact ih4 _ _ _ _ _ _ _ _ _ _
   | exact ih5 _ _ _ _ _ _ _ _ _
   | exact ih6 _ _ _ _ _ _ _ _ _ _ _
   | exact ih7 _ _ _ _ _ _ _ _ _ _
   | exact ih8 _ _ _ _
   | exact impl_DeleteZ.mono _ _ _ _
   | exact laws_eqZResult.mono _ _ _ _ _ _ _
   | exact laws_eqZnodeS.mono _ _ _
   | exact laws_heldZResult.mono _ _ _ _ _
   | exact laws_markZResult.mono _ _ _ _ _
   | exact laws_markZnodeS.mono _ _ _
   | exact laws_szZnodeS.mono _ _ _
   | exact laws_toZnodeS.mono _ _
   | exact spec_DeleteZ.mono _ _ _ _
   | exact LeO.none _
   | refine LeO.ite ?_ ?_
   | refine LeO.bind ?_ (fun _ => ?_)
  ·
   intro y0 y1 y2 y3 y4 y5 y6 y7 y8 y9
   unfold laws_FnExactDeleteZ.j4
   repeat' first
   | (with_reducible exact ih0 _ _ _)
   | (with_reducible exact ih1 _ _ _)
   | (with_reducible exact ih2 _ _ _ _ _ _ _ _ _ _)
   | (with_reducible exact ih3 _ _ _ _ _ _ _ _ _ _)
   | (with_reducible exact ih4 _ _ _ _ _ _ _ _ _ _)
   | (with_reducible exact ih5 _ _ _ _ _ _ _ _ _)
   | (with_reducible exact ih6 _ _ _ _ _ _ _ _ _ _ _)
   | (with_reducible exact ih7 _ _ _ _ _ _ _ _ _ _)
   | (with_reducible exact ih8 _ _ _ _)
   | (with_reducible exact impl_DeleteZ.mono _ _ _ _)
   | (with_reducible exact laws_eqZResult.mono _ _ _ _ _ _ _)
   | (with_reducible exact laws_eqZnodeS.mono _ _ _)
   | (with_reducible exact laws_heldZResult.mono _ _ _ _ _)
   | (with_reducible exact laws_markZResult.mono _ _ _ _ _)
   | (with_reducible exact laws_markZnodeS.mono _ _ _)
   | (with_reducible exact laws_szZnodeS.mono _ _ _)
   | (with_reducible exact laws_toZnodeS.mono _ _)
   | (with_reducible exact spec_DeleteZ.mono _ _ _ _)
   | (with_reducible exact LeO.refl _)
   | (with_reducible exact LeO.none _)
   | (with_reducible refine LeO.ite ?_ ?_)
   | (with_reducible refine LeO.bind ?_ (fun _ => ?_))
   | exact ih0 _ _ _
   | exact ih1 _ _ _
   | exact ih2 _ _ _ _ _ _ _ _ _ _
   | exact ih3 _ _ _ _ _ _ _ _ _ _
   | exact ih4 _ _ _ _ _ _ _ _ _ _
   | exact ih5 _ _ _ _ _ _ _ _ _
   | exact ih6 _ _ _ _ _ _ _ _ _ _ _
   | exact ih7 _ _ _ _ _ _ _ _ _ _
   | exact ih8 _ _ _ _
   | exact impl_DeleteZ.mono _ _ _ _
   | exact laws_eqZResult.mono _ _ _ _ _ _ _
   | exact laws_eqZnodeS.mono _ _ _
   | exact laws_heldZResult.mono _ _ _ _ _
   | exact laws_markZResult.mono _ _ _ _ _
   | exact laws_markZnodeS.mono _ _ _
   | exact laws_szZnodeS.mono _ _ _
   | exact laws_toZnodeS.mono _ _
   | exact spec_DeleteZ.mono _ _ _ _
   | exact LeO.none _
   | refine LeO.ite ?_ ?_
   | refine LeO.bind ?_ (fun _ => ?_)
  ·
   intro y0 y1 y2 y3 y4 y5 y6 y7 y8
   unfold laws_FnExactDeleteZ.j5
   repeat' first
   | (with_reducible exact ih0 _ _ _)
   | (with_reducible exact ih1 _ _ _)
   | (with_reducible exact ih2 _ _ _ _ _ _ _ _ _ _)
   | (with_reducible exact ih3 _ _ _ _ _ _ _ _ _ _)
   | (with_reducible exact ih4 _ _ _ _ _ _ _ _ _ _)
   | (with_reducible exact ih5 _ _ _ _ _ _ _ _ _)
   | (with_reducible exact ih6 _ _ _ _ _ _ _ _ _ _ _)
   | (with_reducible exact ih7 _ _ _ _ _ _ _ _ _ _)
   | (with_reducible exact ih8 _ _ _ _)
   | (with_reducible exact impl_DeleteZ.mono _ _ _ _)
   | (with_reducible exact laws_eqZResult.mono _ _ _ _ _ _ _)
   | (with_reducible exact laws_eqZnodeS.mono _ _ _)
   | (with_reducible exact laws_heldZResult.mono _ _ _ _ _)
   | (with_reducible exact laws_markZResult.mono _ _ _ _ _)
   | (with_reducible exact laws_markZnodeS.mono _ _ _)
   | (with_reducible exact laws_szZnodeS.mono _ _ _)
   | (with_reducible exact laws_toZnodeS.mono _ _)
   | (with_reducible exact spec_DeleteZ.mono _ _ _ _)
   | (with_reducible exact LeO.refl _)
   | (with_reducible exact LeO.none _)
   | (with_reducible refine LeO.ite ?_ ?_)
   | (with_reducible refine LeO.bind ?_ (fun _ => ?_))
   | exact ih0 _ _ _
   | exact ih1 _ _ _
   | exact ih2 _ _ _ _ _ _ _ _ _ _
   | exact ih3 _ _ _ _ _ _ _ _ _ _
   | exact ih4 _ _ _ _ _ _ _ _ _ _
   | exact ih5 _ _ _ _ _ _ _ _ _
   | exact ih6 _ _ _ _ _ _ _ _ _ _ _
   | exact ih7 _ _ _ _ _ _ _ _ _ _
   | exact ih8 _ _ _ _
   | exact impl_DeleteZ.mono _ _ _ _
   | exact laws_eqZResult.mono _ _ _ _ _ _ _
   | exact laws_eqZnodeS.mono _ _ _
   | exact laws_heldZResult.mono _ _ _ _ _
   | exact laws_markZResult.mono _ _ _ _ _
   | exact laws_markZnodeS.mono _ _ _
   | exact laws_szZnodeS.mono _ _ _
   | exact laws_toZnodeS.mono _ _
   | exact spec_DeleteZ.mono _ _ _ _
   | exact LeO.none _
   | refine LeO.ite ?_ ?_
   | refine LeO.bind ?_ (fun _ => ?_)
  ·
   intro y0 y1 y2 y3 y4 y5 y6 y7 y8 y9 y10
   unfold laws_FnExactDeleteZ.j6
   repeat' first
   | (with_reducible exact ih0 _ _ _)
   | (with_reducible exact ih1 _ _ _)
   | (with_reducible exact ih2 _ _ _ _ _ _ _ _ _ _)
   | (with_reducible exact ih3 _ _ _ _ _ _ _ _ _ _)
   | (with_reducible exact ih4 _ _ _ _ _ _ _ _ _ _)
   | (with_reducible exact ih5 _ _ _ _ _ _ _ _ _)
   | (with_reducible exact ih6 _ _ _ _ _ _ _ _ _ _ _)
   | (with_reducible exact ih7 _ _ _ _ _ _ _ _ _ _)
   | (with_reducible exact ih8 _ _ _ _)
   | (with_reducible exact impl_DeleteZ.mono _ _ _ _)
   | (with_reducible exact laws_eqZResult.mono _ _ _ _ _ _ _)
   | (with_reducible exact laws_eqZnodeS.mono _ _ _)
   | (with_reducible exact laws_heldZResult.mono _ _ _ _ _)
   | (with_reducible exact laws_markZResult.mono _ _ _ _ _)
   | (with_reducible exact laws_markZnodeS.mono _ _ _)
   | (with_reducible exact laws_szZnodeS.mono _ _ _)
   | (with_reducible exact laws_toZnodeS.mono _ _)
   | (with_reducible exact spec_DeleteZ.mono _ _ _ _)
   | (with_reducible exact LeO.refl _)
   | (with_reducible exact LeO.none _)
   | (with_reducible refine LeO.ite ?_ ?_)
   | (with_reducible refine LeO.bind ?_ (fun _ => ?_))
   | exact ih0 _ _ _
   | exact ih1 _ _ _
   | exact ih2 _ _ _ _ _ _ _ _ _ _
   | exact ih3 _ _ _ _ _ _ _ _ _ _
   | exact ih4 _ _ _ _ _ _ _ _ _ _
   | exact ih5 _ _ _ _ _ _ _ _ _
   | exact ih6 _ _ _ _ _ _ _ _ _ _ _
   | exact ih7 _ _ _ _ _ _ _ _ _ _
   | exact ih8 _ _ _ _
   | exact impl_DeleteZ.mono _ _ _ _
   | exact laws_eqZResult.mono _ _ _ _ _ _ _
   | exact laws_eqZnodeS.mono _ _ _
   | exact laws_heldZResult.mono _ _ _ _ _
   | exact laws_markZResult.mono _ _ _ _ _
   | exact laws_markZnodeS.mono _ _ _
   | exact laws_szZnodeS.mono _ _ _
   | exact laws_toZnodeS.mono _ _
   | exact spec_DeleteZ.mono _ _ _ _
   | exact LeO.none _
   | refine LeO.ite ?_ ?_
   | refine LeO.bind ?_ (fun _ => ?_)
  ·
   intro y0 y1 y2 y3 y4 y5 y6 y7 y8 y9
   unfold laws_FnExactDeleteZ.j7
   repeat' first
   | (with_reducible exact ih0 _ _ _)
   | (with_reducible exact ih1 _ _ _)
   | (with_reducible exact ih2 _ _ _ _ _ _ _ _ _ _)
   | (with_reducible exact ih3 _ _ _ _ _ _ _ _ _ _)
   | (with_reducible exact ih4 _ _ _ _ _ _ _ _ _ _)
   | (with_reducible exact ih5 _ _ _ _ _ _ _ _ _)
   | (with_reducible exact ih6 _ _ _ _ _ _ _ _ _ _ _)
   | (with_reducible exact ih7 _ _ _ _ _ _ _ _ _ _)
   | (with_reducible exact ih8 _ _ _ _)
   | (with_reducible exact impl_DeleteZ.mono _ _ _ _)
   | (with_reducible exact laws_eqZResult.mono _ _ _ _ _ _ _)
   | (with_reducible exact laws_eqZnodeS.mono _ _ _)
   | (with_reducible exact laws_heldZResult.mono _ _ _ _ _)
   | (with_reducible exact laws_markZResult.mono _ _ _ _ _)
   | (with_reducible exact laws_markZnodeS.mono _ _ _)
   | (with_reducible exact laws_szZnodeS.mono _ _ _)
   | (with_reducible exact laws_toZnodeS.mono _ _)
   | (with_reducible exact spec_DeleteZ.mono _ _ _ _)
   | (with_reducible exact LeO.refl _)
   | (with_reducible exact LeO.none _)
   | (with_reducible refine LeO.ite ?_ ?_)
   | (with_reducible refine LeO.bind ?_ (fun _ => ?_))
   | exact ih0 _ _ _
   | exact ih1 _ _ _
   | exact ih2 _ _ _ _ _ _ _ _ _ _
   | exact ih3 _ _ _ _ _ _ _ _ _ _
   | exact ih4 _ _ _ _ _ _ _ _ _ _
   | exact ih5 _ _ _ _ _ _ _ _ _
   | exact ih6 _ _ _ _ _ _ _ _ _ _ _
   | exact ih7 _ _ _ _ _ _ _ _ _ _
   | exact ih8 _ _ _ _
   | exact impl_DeleteZ.mono _ _ _ _
   | exact laws_eqZResult.mono _ _ _ _ _ _ _
   | exact laws_eqZnodeS.mono _ _ _
   | exact laws_heldZResult.mono _ _ _ _ _
   | exact laws_markZResult.mono _ _ _ _ _
   | exact laws_markZnodeS.mono _ _ _
   | exact laws_szZnodeS.mono _ _ _
   | exact laws_toZnodeS.mono _ _
   | exact spec_DeleteZ.mono _ _ _ _
   | exact LeO.none _
   | refine LeO.ite ?_ ?_
   | refine LeO.bind ?_ (fun _ => ?_)
  ·
   intro y0 y1 y2 y3
   unfold laws_FnExactDeleteZ.j8
   repeat' first
   | (with_reducible exact ih0 _ _ _)
   | (with_reducible exact ih1 _ _ _)
   | (with_reducible exact ih2 _ _ _ _ _ _ _ _ _ _)
   | (with_reducible exact ih3 _ _ _ _ _ _ _ _ _ _)
   | (with_reducible exact ih4 _ _ _ _ _ _ _ _ _ _)
   | (with_reducible exact ih5 _ _ _ _ _ _ _ _ _)
   | (with_reducible exact ih6 _ _ _ _ _ _ _ _ _ _ _)
   | (with_reducible exact ih7 _ _ _ _ _ _ _ _ _ _)
   | (with_reducible exact ih8 _ _ _ _)
   | (with_reducible exact impl_DeleteZ.mono _ _ _ _)
   | (with_reducible exact laws_eqZResult.mono _ _ _ _ _ _ _)
   | (with_reducible exact laws_eqZnodeS.mono _ _ _)
   | (with_reducible exact laws_heldZResult.mono _ _ _ _ _)
   | (with_reducible exact laws_markZResult.mono _ _ _ _ _)
   | (with_reducible exact laws_markZnodeS.mono _ _ _)
   | (with_reducible exact laws_szZnodeS.mono _ _ _)
   | (with_reducible exact laws_toZnodeS.mono _ _)
   | (with_reducible exact spec_DeleteZ.mono _ _ _ _)
   | (with_reducible exact LeO.refl _)
   | (with_reducible exact LeO.none _)
   | (with_reducible refine LeO.ite ?_ ?_)
   | (with_reducible refine LeO.bind ?_ (fun _ => ?_))
   | exact ih0 _ _ _
   | exact ih1 _ _ _
   | exact ih2 _ _ _ _ _ _ _ _ _ _
   | exact ih3 _ _ _ _ _ _ _ _ _ _
   | exact ih4 _ _ _ _ _ _ _ _ _ _
   | exact ih5 _ _ _ _ _ _ _ _ _
   | exact ih6 _ _ _ _ _ _ _ _ _ _ _
   | exact ih7 _ _ _ _ _ _ _ _ _ _
   | exact ih8 _ _ _ _
   | exact impl_DeleteZ.mono _ _ _ _
   | exact laws_eqZResult.mono _ _ _ _ _ _ _
   | exact laws_eqZnodeS.mono _ _ _
   | exact laws_heldZResult.mono _ _ _ _ _
   | exact laws_markZResult.mono _ _ _ _ _
   | exact laws_markZnodeS.mono _ _ _
   | exact laws_szZnodeS.mono _ _ _
   | exact laws_toZnodeS.mono _ _
   | exact spec_DeleteZ.mono _ _ _ _
   | exact LeO.none _
   | refine LeO.ite ?_ ?_
   | refine LeO.bind ?_ (fun _ => ?_)
theorem laws_FnExactDeleteZ.mono : ∀ a0 a1 a2 k, LeO (laws_FnExactDeleteZ.f k a0 a1 a2) (laws_FnExactDeleteZ.f (k + 1) a0 a1 a2) := by
 intro a0 a1 a2 k
 obtain ⟨ih0, ih1, ih2, ih3, ih4, ih5, ih6, ih7, ih8⟩ := laws_FnExactDeleteZ.mono_l k
 unfold laws_FnExactDeleteZ.f
 repeat' first
   | (with_reducible exact ih0 _ _ _)
   | (with_reducible exact ih1 _ _ _)
   | (with_reducible exact ih2 _ _ _ _ _ _ _ _ _ _)
   | (with_reducible exact ih3 _ _ _ _ _ _ _ _ _ _)
   | (with_reducible exact ih4 _ _ _ _ _ _ _ _ _ _)
   | (with_reducible exact ih5 _ _ _ _ _ _ _ _ _)
   | (with_reducible exact ih6 _ _ _ _ _ _ _ _ _ _ _)
   | (with_reducible exact ih7 _ _ _ _ _ _ _ _ _ _)
   | (with_reducible exact ih8 _ _ _ _)
   | (with_reducible exact impl_DeleteZ.mono _ _ _ _)
   | (with_reducible exact laws_eqZResult.mono _ _ _ _ _ _ _)
   | (with_reducible exact laws_eqZnodeS.mono _ _ _)
   | (with_reducible exact laws_heldZResult.mono _ _ _ _ _)
   | (with_reducible exact laws_markZResult.mono _ _ _ _ _)
   | (with_reducible exact laws_markZnodeS.mono _ _ _)
   | (with_reducible exact laws_szZnodeS.mono _ _ _)
   | (with_reducible exact laws_toZnodeS.mono _ _)
   | (with_reducible exact spec_DeleteZ.mono _ _ _ _)
   | (with_reducible exact LeO.refl _)
   | (with_reducible exact LeO.none _)
   | (with_reducible refine LeO.ite ?_ ?_)
   | (with_reducible refine LeO.bind ?_ (fun _ => ?_))
   | exact ih0 _ _ _
   | exact ih1 _ _ _
   | exact ih2 _ _ _ _ _ _ _ _ _ _
   | exact ih3 _ _ _ _ _ _ _ _ _ _
   | exact ih4 _ _ _ _ _ _ _ _ _ _
   | exact ih5 _ _ _ _ _ _ _ _ _
   | exact ih6 _ _ _ _ _ _ _ _ _ _ _
   | exact ih7 _ _ _ _ _ _ _ _ _ _
   | exact ih8 _ _ _ _
   | exact impl_DeleteZ.mono _ _ _ _
   | exact laws_eqZResult.mono _ _ _ _ _ _ _
   | exact laws_eqZnodeS.mono _ _ _
   | exact laws_heldZResult.mono _ _ _ _ _
   | exact laws_markZResult.mono _ _ _ _ _
   | exact laws_markZnodeS.mono _ _ _
   | exact laws_szZnodeS.mono _ _ _
   | exact laws_toZnodeS.mono _ _
   | exact spec_DeleteZ.mono _ _ _ _
   | exact LeO.none _
   | refine LeO.ite ?_ ?_
   | refine LeO.bind ?_ (fun _ => ?_)
theorem laws_FnExactDeleteZ.calls (k : Nat) (A0 : Option Addr) (c0 : Nat) (l0 : List (S44)) (a1 : ByteArray) (a2 : Int) (r : Bool) (w : World) (hr0 : Kd.C k44 w A0 l0.length l0) (hc0 : l0.length ≤ c0) (h : laws_FnExactDeleteZ.f k l0 a1 a2 = some r) :
  Calls Tryd.prog 3 #[.slice A0 l0.length c0, .string a1, .int .i64 a2] w fun e w' => e = .returned (.bool r) ∧ Below w.heap.size w w' := by
 have hu26 := Tryd.underlying26
 have HR0 := aa hr0
 have HC0 := aa hc0
 clear hr0 hc0
 have HB := aa (Below.refl w.heap.size w)
 have H : (if (a1.size : Int) > 1048576 then (some true) else (laws_FnExactDeleteZ.j0 k l0 a1 a2)) = some r := h
 clear h
 have HC4 := aa H
 clear H
 go_enter Tryd.func3, Tryd.ntmps3
 go_upto_if 17 with (fail)
 go_cut [] (fun wc => ∃ (kq : Nat), Aside0 (laws_FnExactDeleteZ.j0 kq l0 a1 a2 = some r) ∧ Aside0 (kq ≤ k) ∧ Aside0 (Below w.heap.size w wc))
 case first =>
  have H := HC4.out
  clear HC4
  by_cases c5 : (a1.size : Int) > 1048576
  ·
   rw [if_pos c5] at H
   have c5b0 : decide (1048576 < (a1.size : Int)) = true := decide_eq_true c5
   have c5b1 : decide (1048576 < a1.size) = true := decide_eq_true (by omega)
   clear c5
   (first | rw [c5b0] | (simp only [i64_w, i32_w]; rw [c5b0]) | (simp only [c5b2, Bool.not_false, Bool.not_true]) | skip)
   obtain rfl := Option.some.inj H
   go_wp2
   go_ret
   exact ⟨by first | rfl | (simp [errW_none, errW_some] <;> rfl) | (simp [*, errW_none, errW_some] <;> rfl), by repeat (first | (with_reducible first | exact HB.out | apply below_alloc | apply pw_below_drewN | apply below_drew1) | exact HB.out)⟩
  ·
   rw [if_neg c5] at H
   have c5b0 : decide (1048576 < (a1.size : Int)) = false := decide_eq_false c5
   have c5b1 : decide (1048576 < a1.size) = false := decide_eq_false (by omega)
   clear c5
   (first | rw [c5b0] | (simp only [i64_w, i32_w]; rw [c5b0]) | (simp only [c5b2, Bool.not_false, Bool.not_true]) | skip)
   have H' := aa H
   clear H
   go_wp2
   go_meet
   case rel => exact ⟨_, H', ⟨by first | omega | exact Nat.le_refl _⟩, ⟨by repeat (first | (with_reducible first | exact HB.out | apply below_alloc | apply pw_below_drewN | apply below_drew1) | exact HB.out)⟩⟩
 case rest =>
  clear HC4
  try clear p2
  try clear c3
  try clear c5
  try clear c5b0
  try clear c5b1
  try clear c5b2
  obtain ⟨kq, HA, HJ3, HB⟩ := hcut
  cases kq with
  | zero => exact absurd HA.out (by simp [laws_FnExactDeleteZ.j0])
  | succ kj3 =>
   have H := HA.out
   clear HA
   simp only [laws_FnExactDeleteZ.j0] at H
   replace H := Option.bind_eq_some_iff.mp H
   obtain ⟨t101, A60, H⟩ := H
   replace H : (if t101 < 0 then (some true) else (laws_FnExactDeleteZ.j1 kj3 l0 a1 a2)) = some r := H
   have A6 := aa A60
   clear A60
   have HC7 := aa H
   clear H
   go_upto_if 22 with (first | ((with_reducible refine gate_callee (f := 6) rfl ?_); refine goesL_ (some 20) rfl rfl Tryd.func6 (by kernel_rfl) rfl #[.slice A0 l0.length c0, .int .i64 1048576] rfl zjnmae ?_; (with_reducible refine (laws_szZnodeS.calls kj3 _ _ l0 1048576 t101 _ ?side1 ?side2 A6.out).mono ?_); (case side1 => exact zfmbgg); (case side2 => exact HC0.out); rintro e w8 ⟨rfl, hb⟩; refine ⟨_, rfl, ?_⟩; have n0_ := aa (below_step zjjbob hb); clear HB; have HB := n0_; clear n0_; (try clear hb); (try clear hb2); (try clear hk); (try clear hi)))
   (try simp only [Act.put, List.setIfInBounds_toArray, List.set_cons_zero, List.set_cons_succ])
   go_cut [] (fun wc => ∃ (kq : Nat), Aside0 (laws_FnExactDeleteZ.j1 kq l0 a1 a2 = some r) ∧ Aside0 (kq ≤ kj3) ∧ Aside0 (Below w.heap.size w wc))
   case first =>
    have H := HC7.out
    clear HC7
    by_cases c9 : t101 < 0
    ·
     rw [if_pos c9] at H
     have c9b0 : decide (t101 < 0) = true := decide_eq_true c9
     clear c9
     (first | rw [c9b0] | (simp only [i64_w, i32_w]; rw [c9b0]) | (simp only [c9b2, Bool.not_false, Bool.not_true]) | skip)
     obtain rfl := Option.some.inj H
     go_wp2
     go_ret
     exact ⟨by first | rfl | (simp [errW_none, errW_some] <;> rfl) | (simp [*, errW_none, errW_some] <;> rfl), by repeat (first | (with_reducible first | exact HB.out | apply below_alloc | apply pw_below_drewN | apply below_drew1) | exact HB.out)⟩
    ·
     rw [if_neg c9] at H
     have c9b0 : decide (t101 < 0) = false := decide_eq_false c9
     clear c9
     (first | rw [c9b0] | (simp only [i64_w, i32_w]; rw [c9b0]) | (simp only [c9b2, Bool.not_false, Bool.not_true]) | skip)
     have H' := aa H
     clear H
     go_wp2
     go_meet
     case rel => exact ⟨_, H', ⟨by have := HJ3.out; first | omega | exact Nat.le_refl _⟩, ⟨by repeat (first | (with_reducible first | exact HB.out | apply below_alloc | apply pw_below_drewN | apply below_drew1) | exact HB.out)⟩⟩
   case rest =>
    clear HC7
    try clear p2
    try clear c3
    try clear c5
    try clear c5b0
    try clear c5b1
    try clear c5b2
    try clear c6
    try clear c9
    try clear c9b0
    try clear c9b2
    try clear p2
    obtain ⟨kq, HA, HJ6, HB⟩ := hcut
    cases kq with
    | zero => exact absurd HA.out (by simp [laws_FnExactDeleteZ.j1])
    | succ kj6 =>
     have H := HA.out
     clear HA
     simp only [laws_FnExactDeleteZ.j1] at H
     replace H := Option.bind_eq_some_iff.mp H
     obtain ⟨t102, A100, H⟩ := H
     replace H : ((spec_DeleteZ.f kj6 t102 a1 a2).bind fun bt105 => ((laws_toZnodeS.f kj6 l0).bind fun t111 => ((impl_DeleteZ.f kj6 t111 a1 a2).bind fun bt114 => ((laws_eqZResult.f kj6 bt114.1 bt114.2.1 bt114.2.2 bt105.1 bt105.2.1 bt105.2.2).bind fun t120 => (if t120 = true then (laws_FnExactDeleteZ.j2 kj6 l0 a1 a2 t111 bt105.1 bt105.2.1 bt105.2.2 bt114.1 bt114.2.1 bt114.2.2) else (some false)))))) = some r := H
     have A10 := aa A100
     clear A100
     replace H := Option.bind_eq_some_iff.mp H
     obtain ⟨⟨t105, t106, t107⟩, A110, H⟩ := H
     replace H : ((laws_toZnodeS.f kj6 l0).bind fun t111 => ((impl_DeleteZ.f kj6 t111 a1 a2).bind fun bt114 => ((laws_eqZResult.f kj6 bt114.1 bt114.2.1 bt114.2.2 t105 t106 t107).bind fun t120 => (if t120 = true then (laws_FnExactDeleteZ.j2 kj6 l0 a1 a2 t111 t105 t106 t107 bt114.1 bt114.2.1 bt114.2.2) else (some false))))) = some r := H
     have A11 := aa A110
     clear A110
     replace H := Option.bind_eq_some_iff.mp H
     obtain ⟨t111, A120, H⟩ := H
     replace H : ((impl_DeleteZ.f kj6 t111 a1 a2).bind fun bt114 => ((laws_eqZResult.f kj6 bt114.1 bt114.2.1 bt114.2.2 t105 t106 t107).bind fun t120 => (if t120 = true then (laws_FnExactDeleteZ.j2 kj6 l0 a1 a2 t111 t105 t106 t107 bt114.1 bt114.2.1 bt114.2.2) else (some false)))) = some r := H
     have A12 := aa A120
     clear A120
     replace H := Option.bind_eq_some_iff.mp H
     obtain ⟨⟨t114, t115, t116⟩, A130, H⟩ := H
     replace H : ((laws_eqZResult.f kj6 t114 t115 t116 t105 t106 t107).bind fun t120 => (if t120 = true then (laws_FnExactDeleteZ.j2 kj6 l0 a1 a2 t111 t105 t106 t107 t114 t115 t116) else (some false))) = some r := H
     have A13 := aa A130
     clear A130
     replace H := Option.bind_eq_some_iff.mp H
     obtain ⟨t120, A140, H⟩ := H
     replace H : (if t120 = true then (laws_FnExactDeleteZ.j2 kj6 l0 a1 a2 t111 t105 t106 t107 t114 t115 t116) else (some false)) = some r := H
     have A14 := aa A140
     clear A140
     have HC15 := aa H
     clear H
     go_upto_if 37 with (first | ((with_reducible refine gate_callee (f := 8) rfl ?_); refine goesL_ (some 24) rfl rfl Tryd.func8 (by kernel_rfl) rfl #[.slice A0 l0.length c0] rfl zjnmae ?_; (with_reducible refine (laws_toZnodeS.calls kj6 _ _ l0 t102 _ ?side1 ?side2 A10.out).mono ?_); (case side1 => exact zfmbgg); (case side2 => exact HC0.out); rintro e w16 ⟨v103, rfl, ho0, hb⟩; refine ⟨_, rfl, ?_⟩; have n0_ := aa (Kd.R_lower ho0 (below_size zjjbob)); have n1_ := aa (below_step zjjbob hb); clear HB; have HO104 := n0_; have HB := n1_; clear n0_ n1_; (try clear hb); (try clear hb2); (try clear hk); (try clear hi); (try clear ho0); obtain ⟨Ao17, co17, eo17⟩ := Kd.R_slice HO104.out; subst eo17) | ((with_reducible refine gate_callee (f := 7) rfl ?_); refine goesL_ (some 27) rfl rfl Tryd.func7 (by kernel_rfl) rfl #[.slice Ao17 t102.length co17, .string a1, .int .i64 a2] rfl zjnmae ?_; (with_reducible refine (spec_DeleteZ.calls kj6 _ _ t102 a1 a2 t105 t106 t107 _ ?side1 ?side2 A11.out).mono ?_); (case side1 => repeat (first | exact (Kd.R_reads' HO104.out).2.2 | (with_reducible refine Kd.C_alloc ?_ _) | (with_reducible refine Kd.C_drewN ?_ _) | (with_reducible refine Kd.C_drew ?_))); (case side2 => exact (Kd.R_reads' HO104.out).2.1); rintro e w18 ⟨v108, rfl, ho0, hb⟩; refine ⟨_, rfl, ?_⟩; have n0_ := aa (Kd.R_elder' (zcaken HO104.out) (Kd.R_base ho0) hb); have n1_ := aa (Kd.R_lower (Kd.R_new' ho0 (Kd.R_lt (zcaken HO104.out))) (below_size zjjbob)); have n2_ := aa (below_step zjjbob hb); clear HO104; clear HB; have HO104 := n0_; have HO109 := n1_; have HB := n2_; clear n0_ n1_ n2_; (try clear hb); (try clear hb2); (try clear hk); (try clear hi); (try clear ho0)) | ((with_reducible refine gate_dst (N := 8) rfl ?_); refine box_event ?hg (N := 8) ?hd (cs := #[.int .i64 0, .string (⟨#[]⟩ : ByteArray), .slice none 0 0]) (t := 26) ?hr ?_; (case hd => rfl); (case hg => rfl); (case hr => exact zhlgcp); intro gb110 hg w19 hbox hb; have n0_ := aa (Kd.R_below (zcaken HO104.out) hb); have n1_ := aa (Kd.R_below (zcaken HO109.out) hb); have n2_ := aa (below_step zjjbob hb); have n3_ := aa (hbox); have n4_ := aa ((zkpfjp : w.heap.size ≤ gb110)); have n5_ := aa ((zkpfjp : w.heap.size ≤ gb110)); clear HO104; clear HO109; clear HB; have HO104 := n0_; have HO109 := n1_; have HB := n2_; have BK110 := n3_; have GW110 := n4_; have GE110 := n5_; clear n0_ n1_ n2_ n3_ n4_ n5_; clear hb hbox hg; have hcz20_0 : w19.cell? ⟨gb110, 0, none⟩ = some (.int .i64 0) := (blk_cell BK110.out 0).trans rfl; have hcz20_1 : w19.cell? ⟨gb110, 1, none⟩ = some (.string (⟨#[]⟩ : ByteArray)) := (blk_cell BK110.out 1).trans rfl; have hcz20_2 : w19.cell? ⟨gb110, 2, none⟩ = some (.slice none 0 0) := (blk_cell BK110.out 2).trans rfl; have hfz20_0 := blk_frozen BK110.out 0; have hfz20_1 := blk_frozen BK110.out 1; have hfz20_2 := blk_frozen BK110.out 2; obtain ⟨Ao21, co21, eo21⟩ := Kd.R_slice HO109.out; subst eo21) | ((with_reducible refine gate_callee (f := 8) rfl ?_); refine goesL_ (some 29) rfl rfl Tryd.func8 (by kernel_rfl) rfl #[.slice A0 l0.length c0] rfl zjnmae ?_; (with_reducible refine (laws_toZnodeS.calls kj6 _ _ l0 t111 _ ?side1 ?side2 A12.out).mono ?_); (case side1 => exact Kd.C_below HR0.out zphagh); (case side2 => exact HC0.out); rintro e w22 ⟨v112, rfl, ho0, hb⟩; refine ⟨_, rfl, ?_⟩; have n0_ := aa (Kd.R_elder' (by (with_reducible repeat (first | apply Kd.R_alloc | apply Kd.R_drewN | apply Kd.R_drew)); exact (Kd.R_mono (Kd.R_far (p := ⟨gb110, 2, none⟩) (Kd.R_far (p := ⟨gb110, 1, none⟩) (Kd.R_far (p := ⟨gb110, 0, none⟩) (Kd.R_types HO104.out BK110.out (by decide)) (fun _ hk => hk.2) (.int .i64 t105)) (fun _ hk => hk.2) (.string t106)) (fun _ hk => hk.2) (.slice Ao21 t107.length co21)) (fun _ h_ => h_.1))) (Kd.R_base ho0) hb); have n1_ := aa (Kd.R_elder' (by (with_reducible repeat (first | apply Kd.R_alloc | apply Kd.R_drewN | apply Kd.R_drew)); exact (Kd.R_mono (Kd.R_far (p := ⟨gb110, 2, none⟩) (Kd.R_far (p := ⟨gb110, 1, none⟩) (Kd.R_far (p := ⟨gb110, 0, none⟩) (Kd.R_types HO109.out BK110.out (by decide)) (fun _ hk => hk.2) (.int .i64 t105)) (fun _ hk => hk.2) (.string t106)) (fun _ hk => hk.2) (.slice Ao21 t107.length co21)) (fun _ h_ => h_.1))) (Kd.R_base ho0) hb); have n2_ := aa (Kd.R_lower (Kd.R_new' (Kd.R_new' ho0 (Kd.R_lt (by (with_reducible repeat (first | apply Kd.R_alloc | apply Kd.R_drewN | apply Kd.R_drew)); exact (Kd.R_mono (Kd.R_far (p := ⟨gb110, 2, none⟩) (Kd.R_far (p := ⟨gb110, 1, none⟩) (Kd.R_far (p := ⟨gb110, 0, none⟩) (Kd.R_types HO104.out BK110.out (by decide)) (fun _ hk => hk.2) (.int .i64 t105)) (fun _ hk => hk.2) (.string t106)) (fun _ hk => hk.2) (.slice Ao21 t107.length co21)) (fun _ h_ => h_.1))))) (Kd.R_lt (by (with_reducible repeat (first | apply Kd.R_alloc | apply Kd.R_drewN | apply Kd.R_drew)); exact (Kd.R_mono (Kd.R_far (p := ⟨gb110, 2, none⟩) (Kd.R_far (p := ⟨gb110, 1, none⟩) (Kd.R_far (p := ⟨gb110, 0, none⟩) (Kd.R_types HO109.out BK110.out (by decide)) (fun _ hk => hk.2) (.int .i64 t105)) (fun _ hk => hk.2) (.string t106)) (fun _ hk => hk.2) (.slice Ao21 t107.length co21)) (fun _ h_ => h_.1))))) (below_size zphagh)); have n3_ := aa (blk_below (g := gb110) (o := .cells #[.int .i64 t105, .string t106, .slice Ao21 t107.length co21] 26 (0, 0)) (by (with_reducible repeat (first | refine blk_drewN ?_ _ | refine blk_drew ?_ | refine blk_alloc ?_ _)); refine blk_put (cs := #[.int .i64 t105, .string t106, .slice none 0 0]) ?_ 2 _ rfl; (with_reducible repeat (first | refine blk_drewN ?_ _ | refine blk_drew ?_ | refine blk_alloc ?_ _)); refine blk_put (cs := #[.int .i64 t105, .string (⟨#[]⟩ : ByteArray), .slice none 0 0]) ?_ 1 _ rfl; (with_reducible repeat (first | refine blk_drewN ?_ _ | refine blk_drew ?_ | refine blk_alloc ?_ _)); refine blk_put (cs := #[.int .i64 0, .string (⟨#[]⟩ : ByteArray), .slice none 0 0]) ?_ 0 _ rfl; (with_reducible repeat (first | refine blk_drewN ?_ _ | refine blk_drew ?_ | refine blk_alloc ?_ _)); exact BK110.out) hb); have n4_ := aa (below_step zphagh hb); clear HO104; clear HO109; clear BK110; clear HB; have HO104 := n0_; have HO109 := n1_; have HO113 := n2_; have BK110 := n3_; have HB := n4_; clear n0_ n1_ n2_ n3_ n4_; (try clear hb); (try clear hb2); (try clear hk); (try clear hi); (try clear ho0); obtain ⟨Ao23, co23, eo23⟩ := Kd.R_slice HO113.out; subst eo23) | ((with_reducible refine gate_callee (f := 9) rfl ?_); refine goesL_ (some 33) rfl rfl Tryd.func9 (by kernel_rfl) rfl #[.slice Ao23 t111.length co23, .string a1, .int .i64 a2] rfl zjnmae ?_; (with_reducible refine (impl_DeleteZ.calls kj6 _ _ t111 a1 a2 t114 t115 t116 _ ?side1 ?side2 A13.out).mono ?_); (case side1 => repeat (first | exact (Kd.R_reads' HO113.out).2.2 | (with_reducible refine Kd.C_alloc ?_ _) | (with_reducible refine Kd.C_drewN ?_ _) | (with_reducible refine Kd.C_drew ?_))); (case side2 => exact (Kd.R_reads' HO113.out).2.1); rintro e w24 ⟨v117, rfl, ho0, hb⟩; refine ⟨_, rfl, ?_⟩; have n0_ := aa (Kd.R_elder' (zcaken HO104.out) (Kd.R_base ho0) hb); have n1_ := aa (Kd.R_elder' (zcaken HO109.out) (Kd.R_base ho0) hb); have n2_ := aa (Kd.R_elder' (zcaken HO113.out) (Kd.R_base ho0) hb); have n3_ := aa (Kd.R_lower (Kd.R_new' (Kd.R_new' (Kd.R_new' ho0 (Kd.R_lt (zcaken HO104.out))) (Kd.R_lt (zcaken HO109.out))) (Kd.R_lt (zcaken HO113.out))) (below_size zphagh)); have n4_ := aa (blk_below (g := gb110) (o := .cells #[.int .i64 t105, .string t106, .slice Ao21 t107.length co21] 26 (0, 0)) (zkjhpm BK110.out) hb); have n5_ := aa (below_step zphagh hb); clear HO104; clear HO109; clear HO113; clear BK110; clear HB; have HO104 := n0_; have HO109 := n1_; have HO113 := n2_; have HO118 := n3_; have BK110 := n4_; have HB := n5_; clear n0_ n1_ n2_ n3_ n4_ n5_; (try clear hb); (try clear hb2); (try clear hk); (try clear hi); (try clear ho0)) | ((with_reducible refine gate_dst (N := 10) rfl ?_); refine box_event ?hg (N := 10) ?hd (cs := #[.int .i64 0, .string (⟨#[]⟩ : ByteArray), .slice none 0 0]) (t := 26) ?hr ?_; (case hd => rfl); (case hg => rfl); (case hr => exact zhlgcp); intro gb119 hg w25 hbox hb; have n0_ := aa (Kd.R_below (zcaken HO104.out) hb); have n1_ := aa (Kd.R_below (zcaken HO109.out) hb); have n2_ := aa (Kd.R_below (zcaken HO113.out) hb); have n3_ := aa (Kd.R_below (zcaken HO118.out) hb); have n4_ := aa (blk_below (g := gb110) (o := .cells #[.int .i64 t105, .string t106, .slice Ao21 t107.length co21] 26 (0, 0)) (zkjhpm BK110.out) hb); have n5_ := aa (below_step zphagh hb); have n6_ := aa (hbox); have n7_ := aa ((by rw [hg]; exact (below_size zphagh) : w.heap.size ≤ gb119)); have n8_ := aa ((by rw [hg]; exact (below_size zphagh) : w.heap.size ≤ gb119)); have n9_ := aa ((zbhpom : gb110 ≠ gb119)); have n10_ := aa ((zkfonk : gb119 ≠ gb110)); clear HO104; clear HO109; clear HO113; clear HO118; clear BK110; clear HB; have HO104 := n0_; have HO109 := n1_; have HO113 := n2_; have HO118 := n3_; have BK110 := n4_; have HB := n5_; have BK119 := n6_; have GW119 := n7_; have GE119 := n8_; have NB110_119 := n9_; have NB119_110 := n10_; clear n0_ n1_ n2_ n3_ n4_ n5_ n6_ n7_ n8_ n9_ n10_; clear hb hbox hg; have hnb26 := NB119_110.out; have hnc26 := NB110_119.out; have hcz27_0 : w25.cell? ⟨gb119, 0, none⟩ = some (.int .i64 0) := (blk_cell BK119.out 0).trans rfl; have hcz27_1 : w25.cell? ⟨gb119, 1, none⟩ = some (.string (⟨#[]⟩ : ByteArray)) := (blk_cell BK119.out 1).trans rfl; have hcz27_2 : w25.cell? ⟨gb119, 2, none⟩ = some (.slice none 0 0) := (blk_cell BK119.out 2).trans rfl; have hfz27_0 := blk_frozen BK119.out 0; have hfz27_1 := blk_frozen BK119.out 1; have hfz27_2 := blk_frozen BK119.out 2; obtain ⟨Ao28, co28, eo28⟩ := Kd.R_slice HO118.out; subst eo28; have hcz29_0 : w25.cell? ⟨gb110, 0, none⟩ = some (.int .i64 t105) := (blk_cell BK110.out 0).trans rfl; have hcz29_1 : w25.cell? ⟨gb110, 1, none⟩ = some (.string t106) := (blk_cell BK110.out 1).trans rfl; have hcz29_2 : w25.cell? ⟨gb110, 2, none⟩ = some (.slice Ao21 t107.length co21) := (blk_cell BK110.out 2).trans rfl; have hfz29_0 := blk_frozen BK110.out 0; have hfz29_1 := blk_frozen BK110.out 1; have hfz29_2 := blk_frozen BK110.out 2) | ((with_reducible refine gate_callee (f := 10) rfl ?_); refine goesL_ (some 36) rfl rfl Tryd.func10 (by kernel_rfl) rfl #[.agg #[.int .i64 t114, .string t115, .slice Ao28 t116.length co28], .agg #[.int .i64 t105, .string t106, .slice Ao21 t107.length co21]] rfl zjnmae ?_; (with_reducible refine (laws_eqZResult.calls kj6 t114 t115 _ _ t116 t105 t106 _ _ t107 t120 _ ?side1 ?side2 ?side3 ?side4 A14.out).mono ?_); (case side1 => refine (Kd.R_reads' (e := 47) (base := w.heap.size) (ok := fun k_ => (((True ∧ some k_ ≠ (.slice Ao17 t102.length co17 : Value).ownBlock) ∧ some k_ ≠ (.slice Ao21 t107.length co21 : Value).ownBlock) ∧ some k_ ≠ (.slice Ao23 t111.length co23 : Value).ownBlock)) (n := t116.length) (c := co28) ?_).2.2; exact (by (with_reducible repeat (first | apply Kd.R_alloc | apply Kd.R_drewN | apply Kd.R_drew)); exact (Kd.R_mono (Kd.R_far (p := ⟨gb119, 2, none⟩) (Kd.R_far (p := ⟨gb119, 1, none⟩) (Kd.R_far (p := ⟨gb119, 0, none⟩) (Kd.R_types HO118.out BK119.out (by decide)) (fun _ hk => hk.2) (.int .i64 t114)) (fun _ hk => hk.2) (.string t115)) (fun _ hk => hk.2) (.slice Ao28 t116.length co28)) (fun _ h_ => h_.1)))); (case side2 => exact (Kd.R_reads' HO118.out).2.1); (case side3 => refine (Kd.R_reads' (e := 47) (base := w.heap.size) (ok := fun k_ => (((True ∧ some k_ ≠ (.slice Ao17 t102.length co17 : Value).ownBlock) ∧ some k_ ≠ (.slice Ao23 t111.length co23 : Value).ownBlock) ∧ some k_ ≠ (.slice Ao28 t116.length co28 : Value).ownBlock)) (n := t107.length) (c := co21) ?_).2.2; exact (by (with_reducible repeat (first | apply Kd.R_alloc | apply Kd.R_drewN | apply Kd.R_drew)); exact (Kd.R_mono (Kd.R_far (p := ⟨gb119, 2, none⟩) (Kd.R_far (p := ⟨gb119, 1, none⟩) (Kd.R_far (p := ⟨gb119, 0, none⟩) (Kd.R_types HO109.out BK119.out (by decide)) (fun _ hk => hk.2) (.int .i64 t114)) (fun _ hk => hk.2) (.string t115)) (fun _ hk => hk.2) (.slice Ao28 t116.length co28)) (fun _ h_ => h_.1)))); (case side4 => exact (Kd.R_reads' HO109.out).2.1); rintro e w30 ⟨rfl, hb⟩; refine ⟨_, rfl, ?_⟩; have n0_ := aa (Kd.R_below (by (with_reducible repeat (first | apply Kd.R_alloc | apply Kd.R_drewN | apply Kd.R_drew)); exact (Kd.R_mono (Kd.R_far (p := ⟨gb119, 2, none⟩) (Kd.R_far (p := ⟨gb119, 1, none⟩) (Kd.R_far (p := ⟨gb119, 0, none⟩) (Kd.R_types HO104.out BK119.out (by decide)) (fun _ hk => hk.2) (.int .i64 t114)) (fun _ hk => hk.2) (.string t115)) (fun _ hk => hk.2) (.slice Ao28 t116.length co28)) (fun _ h_ => h_.1))) hb); have n1_ := aa (Kd.R_below (by (with_reducible repeat (first | apply Kd.R_alloc | apply Kd.R_drewN | apply Kd.R_drew)); exact (Kd.R_mono (Kd.R_far (p := ⟨gb119, 2, none⟩) (Kd.R_far (p := ⟨gb119, 1, none⟩) (Kd.R_far (p := ⟨gb119, 0, none⟩) (Kd.R_types HO109.out BK119.out (by decide)) (fun _ hk => hk.2) (.int .i64 t114)) (fun _ hk => hk.2) (.string t115)) (fun _ hk => hk.2) (.slice Ao28 t116.length co28)) (fun _ h_ => h_.1))) hb); have n2_ := aa (Kd.R_below (by (with_reducible repeat (first | apply Kd.R_alloc | apply Kd.R_drewN | apply Kd.R_drew)); exact (Kd.R_mono (Kd.R_far (p := ⟨gb119, 2, none⟩) (Kd.R_far (p := ⟨gb119, 1, none⟩) (Kd.R_far (p := ⟨gb119, 0, none⟩) (Kd.R_types HO113.out BK119.out (by decide)) (fun _ hk => hk.2) (.int .i64 t114)) (fun _ hk => hk.2) (.string t115)) (fun _ hk => hk.2) (.slice Ao28 t116.length co28)) (fun _ h_ => h_.1))) hb); have n3_ := aa (Kd.R_below (by (with_reducible repeat (first | apply Kd.R_alloc | apply Kd.R_drewN | apply Kd.R_drew)); exact (Kd.R_mono (Kd.R_far (p := ⟨gb119, 2, none⟩) (Kd.R_far (p := ⟨gb119, 1, none⟩) (Kd.R_far (p := ⟨gb119, 0, none⟩) (Kd.R_types HO118.out BK119.out (by decide)) (fun _ hk => hk.2) (.int .i64 t114)) (fun _ hk => hk.2) (.string t115)) (fun _ hk => hk.2) (.slice Ao28 t116.length co28)) (fun _ h_ => h_.1))) hb); have n4_ := aa (blk_below (g := gb110) (o := .cells #[.int .i64 t105, .string t106, .slice Ao21 t107.length co21] 26 (0, 0)) (by (with_reducible repeat (first | refine blk_drewN ?_ _ | refine blk_drew ?_ | refine blk_alloc ?_ _)); refine blk_far ?_ NB110_119.out _; (with_reducible repeat (first | refine blk_drewN ?_ _ | refine blk_drew ?_ | refine blk_alloc ?_ _)); refine blk_far ?_ NB110_119.out _; (with_reducible repeat (first | refine blk_drewN ?_ _ | refine blk_drew ?_ | refine blk_alloc ?_ _)); refine blk_far ?_ NB110_119.out _; (with_reducible repeat (first | refine blk_drewN ?_ _ | refine blk_drew ?_ | refine blk_alloc ?_ _)); exact BK110.out) hb); have n5_ := aa (blk_below (g := gb119) (o := .cells #[.int .i64 t114, .string t115, .slice Ao28 t116.length co28] 26 (0, 0)) (by (with_reducible repeat (first | refine blk_drewN ?_ _ | refine blk_drew ?_ | refine blk_alloc ?_ _)); refine blk_put (cs := #[.int .i64 t114, .string t115, .slice none 0 0]) ?_ 2 _ rfl; (with_reducible repeat (first | refine blk_drewN ?_ _ | refine blk_drew ?_ | refine blk_alloc ?_ _)); refine blk_put (cs := #[.int .i64 t114, .string (⟨#[]⟩ : ByteArray), .slice none 0 0]) ?_ 1 _ rfl; (with_reducible repeat (first | refine blk_drewN ?_ _ | refine blk_drew ?_ | refine blk_alloc ?_ _)); refine blk_put (cs := #[.int .i64 0, .string (⟨#[]⟩ : ByteArray), .slice none 0 0]) ?_ 0 _ rfl; (with_reducible repeat (first | refine blk_drewN ?_ _ | refine blk_drew ?_ | refine blk_alloc ?_ _)); exact BK119.out) hb); have n6_ := aa (below_step zjnifo hb); clear HO104; clear HO109; clear HO113; clear HO118; clear BK110; clear BK119; clear HB; have HO104 := n0_; have HO109 := n1_; have HO113 := n2_; have HO118 := n3_; have BK110 := n4_; have BK119 := n5_; have HB := n6_; clear n0_ n1_ n2_ n3_ n4_ n5_ n6_; (try clear hb); (try clear hb2); (try clear hk); (try clear hi)))
     (try simp only [Act.put, List.setIfInBounds_toArray, List.set_cons_zero, List.set_cons_succ])
     go_cut [] (fun wc => ∃ (kq : Nat), Aside0 (laws_FnExactDeleteZ.j2 kq l0 a1 a2 t111 t105 t106 t107 t114 t115 t116 = some r) ∧ Aside0 (kq ≤ kj6) ∧ Aside0 (Kd.R k47 47 wc w.heap.size (fun k_ => some k_ ≠ ((.slice Ao21 t107.length co21) : Value).ownBlock ∧ some k_ ≠ ((.slice Ao28 t116.length co28) : Value).ownBlock) (.slice Ao23 t111.length co23) t111) ∧ Aside0 (Kd.R k47 47 wc w.heap.size (fun k_ => some k_ ≠ ((.slice Ao23 t111.length co23) : Value).ownBlock ∧ some k_ ≠ ((.slice Ao28 t116.length co28) : Value).ownBlock) (.slice Ao21 t107.length co21) t107) ∧ Aside0 (Kd.R k47 47 wc w.heap.size (fun k_ => some k_ ≠ ((.slice Ao23 t111.length co23) : Value).ownBlock ∧ some k_ ≠ ((.slice Ao21 t107.length co21) : Value).ownBlock) (.slice Ao28 t116.length co28) t116) ∧ Aside0 (wc.heap[gb110]? = some (.cells #[.int .i64 t105, .string t106, (.slice Ao21 t107.length co21)] 26 (0, 0))) ∧ Aside0 (wc.heap[gb119]? = some (.cells #[.int .i64 t114, .string t115, (.slice Ao28 t116.length co28)] 26 (0, 0))) ∧ Aside0 (Below w.heap.size w wc))
     case first =>
      have H := HC15.out
      clear HC15
      by_cases c31 : t120 = true
      ·
       subst c31
       have H1 : (laws_FnExactDeleteZ.j2 kj6 l0 a1 a2 t111 t105 t106 t107 t114 t115 t116) = some r := by rw [if_pos rfl] at H; exact H
       clear H
       have H := H1
       clear H1
       have H' := aa H
       clear H
       go_wp2
       go_meet
       case rel => exact ⟨_, H', ⟨by have := HJ3.out; have := HJ6.out; first | omega | exact Nat.le_refl _⟩, ⟨by (with_reducible repeat (first | apply Kd.R_alloc | apply Kd.R_drewN | apply Kd.R_drew)); exact Kd.R_mono HO113.out (fun _ hk => ⟨hk.1.2, hk.2⟩)⟩, ⟨by (with_reducible repeat (first | apply Kd.R_alloc | apply Kd.R_drewN | apply Kd.R_drew)); exact Kd.R_mono HO109.out (fun _ hk => ⟨hk.1.2, hk.2⟩)⟩, ⟨by (with_reducible repeat (first | apply Kd.R_alloc | apply Kd.R_drewN | apply Kd.R_drew)); exact Kd.R_mono HO118.out (fun _ hk => ⟨hk.2, hk.1.2⟩)⟩, ⟨by (with_reducible repeat (first | refine blk_drewN ?_ _ | refine blk_drew ?_ | refine blk_alloc ?_ _)); exact BK110.out⟩, ⟨by (with_reducible repeat (first | refine blk_drewN ?_ _ | refine blk_drew ?_ | refine blk_alloc ?_ _)); exact BK119.out⟩, ⟨by repeat (first | (with_reducible first | exact HB.out | apply below_alloc | apply pw_below_drewN | apply below_drew1 | refine below_set ?_ GE110.out | refine below_set ?_ GE119.out) | exact HB.out)⟩⟩
      ·
       replace c31 := Bool.eq_false_iff.mpr c31
       subst c31
       have H1 : (some false) = some r := by rw [if_neg (show ¬ (false = true) by decide)] at H; exact H
       clear H
       have H := H1
       clear H1
       obtain rfl := Option.some.inj H
       go_wp2
       go_ret
       exact ⟨by first | rfl | (simp [errW_none, errW_some] <;> rfl) | (simp [*, errW_none, errW_some] <;> rfl), by repeat (first | (with_reducible first | exact HB.out | apply below_alloc | apply pw_below_drewN | apply below_drew1 | refine below_set ?_ GE110.out | refine below_set ?_ GE119.out) | exact HB.out)⟩
     case rest =>
      clear HC15
      try clear c1
      try clear c2
      try clear p2
      try clear c3
      try clear c5
      try clear c5b0
      try clear c5b1
      try clear c5b2
      try clear c6
      try clear c7
      try clear c8
      try clear c9
      try clear c9b0
      try clear c9b2
      try clear c10
      try clear c26
      try clear c31
      try clear hcz20_0
      try clear hcz20_1
      try clear hcz20_2
      try clear hcz27_0
      try clear hcz27_1
      try clear hcz27_2
      try clear hcz29_0
      try clear hcz29_1
      try clear hcz29_2
      try clear hfz20_0
      try clear hfz20_1
      try clear hfz20_2
      try clear hfz27_0
      try clear hfz27_1
      try clear hfz27_2
      try clear hfz29_0
      try clear hfz29_1
      try clear hfz29_2
      try clear p2
      obtain ⟨kq, HA, HJ14, HO_9, HO_111002, HO_120002, BK110, BK119, HB⟩ := hcut
      cases kq with
      | zero => exact absurd HA.out (by simp [laws_FnExactDeleteZ.j2])
      | succ kj14 =>
       have H := HA.out
       clear HA
       simp only [laws_FnExactDeleteZ.j2] at H
       replace H := Option.bind_eq_some_iff.mp H
       obtain ⟨t121, A320, H⟩ := H
       replace H : ((laws_eqZnodeS.f kj14 t111 t121).bind fun t124 => (if t124 = true then (laws_FnExactDeleteZ.j3 kj14 l0 a1 a2 t111 t105 t106 t107 t114 t115 t116) else (some false))) = some r := H
       have A32 := aa A320
       clear A320
       replace H := Option.bind_eq_some_iff.mp H
       obtain ⟨t124, A330, H⟩ := H
       replace H : (if t124 = true then (laws_FnExactDeleteZ.j3 kj14 l0 a1 a2 t111 t105 t106 t107 t114 t115 t116) else (some false)) = some r := H
       have A33 := aa A330
       clear A330
       have HC34 := aa H
       clear H
       go_upto_if 42 with (first | ((with_reducible refine gate_callee (f := 8) rfl ?_); refine goesL_ (some 40) rfl rfl Tryd.func8 (by kernel_rfl) rfl #[.slice A0 l0.length c0] rfl zjnmae ?_; (with_reducible refine (laws_toZnodeS.calls kj14 _ _ l0 t121 _ ?side1 ?side2 A32.out).mono ?_); (case side1 => exact zfmbgg); (case side2 => exact HC0.out); rintro e w35 ⟨v122, rfl, ho0, hb⟩; refine ⟨_, rfl, ?_⟩; have n0_ := aa (Kd.R_elder' (zcaken HO_9.out) (Kd.R_base ho0) hb); have n1_ := aa (Kd.R_elder' (zcaken HO_111002.out) (Kd.R_base ho0) hb); have n2_ := aa (Kd.R_elder' (zcaken HO_120002.out) (Kd.R_base ho0) hb); have n3_ := aa (Kd.R_lower (Kd.R_new' (Kd.R_new' (Kd.R_new' ho0 (Kd.R_lt (zcaken HO_9.out))) (Kd.R_lt (zcaken HO_111002.out))) (Kd.R_lt (zcaken HO_120002.out))) (below_size zjnifo)); have n4_ := aa (blk_below (g := gb110) (o := .cells #[.int .i64 t105, .string t106, .slice Ao21 t107.length co21] 26 (0, 0)) (zkjhpm BK110.out) hb); have n5_ := aa (blk_below (g := gb119) (o := .cells #[.int .i64 t114, .string t115, .slice Ao28 t116.length co28] 26 (0, 0)) (zkjhpm BK119.out) hb); have n6_ := aa (below_step zjnifo hb); clear HO_9; clear HO_111002; clear HO_120002; clear BK110; clear BK119; clear HB; have HO_9 := n0_; have HO_111002 := n1_; have HO_120002 := n2_; have HO123 := n3_; have BK110 := n4_; have BK119 := n5_; have HB := n6_; clear n0_ n1_ n2_ n3_ n4_ n5_ n6_; (try clear hb); (try clear hb2); (try clear hk); (try clear hi); (try clear ho0); obtain ⟨Ao36, co36, eo36⟩ := Kd.R_slice HO123.out; subst eo36) | ((with_reducible refine gate_callee (f := 11) rfl ?_); refine goesL_ (some 41) rfl rfl Tryd.func11 (by kernel_rfl) rfl #[.slice Ao23 t111.length co23, .slice Ao36 t121.length co36] rfl zjnmae ?_; (with_reducible refine (laws_eqZnodeS.calls kj14 _ _ t111 _ _ t121 t124 _ ?side1 ?side2 ?side3 ?side4 A33.out).mono ?_); (case side1 => repeat (first | exact (Kd.R_reads' HO_9.out).2.2 | (with_reducible refine Kd.C_alloc ?_ _) | (with_reducible refine Kd.C_drewN ?_ _) | (with_reducible refine Kd.C_drew ?_))); (case side2 => exact (Kd.R_reads' HO_9.out).2.1); (case side3 => repeat (first | exact (Kd.R_reads' HO123.out).2.2 | (with_reducible refine Kd.C_alloc ?_ _) | (with_reducible refine Kd.C_drewN ?_ _) | (with_reducible refine Kd.C_drew ?_))); (case side4 => exact (Kd.R_reads' HO123.out).2.1); rintro e w37 ⟨rfl, hb⟩; refine ⟨_, rfl, ?_⟩; have n0_ := aa (Kd.R_below (zcaken HO_9.out) hb); have n1_ := aa (Kd.R_below (zcaken HO_111002.out) hb); have n2_ := aa (Kd.R_below (zcaken HO_120002.out) hb); have n3_ := aa (Kd.R_below (zcaken HO123.out) hb); have n4_ := aa (blk_below (g := gb110) (o := .cells #[.int .i64 t105, .string t106, .slice Ao21 t107.length co21] 26 (0, 0)) (zkjhpm BK110.out) hb); have n5_ := aa (blk_below (g := gb119) (o := .cells #[.int .i64 t114, .string t115, .slice Ao28 t116.length co28] 26 (0, 0)) (zkjhpm BK119.out) hb); have n6_ := aa (below_step zjnifo hb); clear HO_9; clear HO_111002; clear HO_120002; clear HO123; clear BK110; clear BK119; clear HB; have HO_9 := n0_; have HO_111002 := n1_; have HO_120002 := n2_; have HO123 := n3_; have BK110 := n4_; have BK119 := n5_; have HB := n6_; clear n0_ n1_ n2_ n3_ n4_ n5_ n6_; (try clear hb); (try clear hb2); (try clear hk); (try clear hi)))
       (try simp only [Act.put, List.setIfInBounds_toArray, List.set_cons_zero, List.set_cons_succ])
       go_cut [] (fun wc => ∃ (kq : Nat), Aside0 (laws_FnExactDeleteZ.j3 kq l0 a1 a2 t111 t105 t106 t107 t114 t115 t116 = some r) ∧ Aside0 (kq ≤ kj14) ∧ Aside0 (Kd.R k47 47 wc w.heap.size (fun k_ => some k_ ≠ ((.slice Ao21 t107.length co21) : Value).ownBlock ∧ some k_ ≠ ((.slice Ao28 t116.length co28) : Value).ownBlock) (.slice Ao23 t111.length co23) t111) ∧ Aside0 (Kd.R k47 47 wc w.heap.size (fun k_ => some k_ ≠ ((.slice Ao23 t111.length co23) : Value).ownBlock ∧ some k_ ≠ ((.slice Ao28 t116.length co28) : Value).ownBlock) (.slice Ao21 t107.length co21) t107) ∧ Aside0 (Kd.R k47 47 wc w.heap.size (fun k_ => some k_ ≠ ((.slice Ao23 t111.length co23) : Value).ownBlock ∧ some k_ ≠ ((.slice Ao21 t107.length co21) : Value).ownBlock) (.slice Ao28 t116.length co28) t116) ∧ Aside0 (wc.heap[gb110]? = some (.cells #[.int .i64 t105, .string t106, (.slice Ao21 t107.length co21)] 26 (0, 0))) ∧ Aside0 (wc.heap[gb119]? = some (.cells #[.int .i64 t114, .string t115, (.slice Ao28 t116.length co28)] 26 (0, 0))) ∧ Aside0 (Below w.heap.size w wc))
       case first =>
        have H := HC34.out
        clear HC34
        by_cases c38 : t124 = true
        ·
         subst c38
         have H1 : (laws_FnExactDeleteZ.j3 kj14 l0 a1 a2 t111 t105 t106 t107 t114 t115 t116) = some r := by rw [if_pos rfl] at H; exact H
         clear H
         have H := H1
         clear H1
         have H' := aa H
         clear H
         go_wp2
         go_meet
         case rel => exact ⟨_, H', ⟨by have := HJ3.out; have := HJ6.out; have := HJ14.out; first | omega | exact Nat.le_refl _⟩, ⟨by (with_reducible repeat (first | apply Kd.R_alloc | apply Kd.R_drewN | apply Kd.R_drew)); exact Kd.R_mono HO_9.out (fun _ hk => ⟨hk.1.1, hk.1.2⟩)⟩, ⟨by (with_reducible repeat (first | apply Kd.R_alloc | apply Kd.R_drewN | apply Kd.R_drew)); exact Kd.R_mono HO_111002.out (fun _ hk => ⟨hk.1.1, hk.1.2⟩)⟩, ⟨by (with_reducible repeat (first | apply Kd.R_alloc | apply Kd.R_drewN | apply Kd.R_drew)); exact Kd.R_mono HO_120002.out (fun _ hk => ⟨hk.1.1, hk.1.2⟩)⟩, ⟨by (with_reducible repeat (first | refine blk_drewN ?_ _ | refine blk_drew ?_ | refine blk_alloc ?_ _)); exact BK110.out⟩, ⟨by (with_reducible repeat (first | refine blk_drewN ?_ _ | refine blk_drew ?_ | refine blk_alloc ?_ _)); exact BK119.out⟩, ⟨by repeat (first | (with_reducible first | exact HB.out | apply below_alloc | apply pw_below_drewN | apply below_drew1 | refine below_set ?_ GE110.out | refine below_set ?_ GE119.out) | exact HB.out)⟩⟩
        ·
         replace c38 := Bool.eq_false_iff.mpr c38
         subst c38
         have H1 : (some false) = some r := by rw [if_neg (show ¬ (false = true) by decide)] at H; exact H
         clear H
         have H := H1
         clear H1
         obtain rfl := Option.some.inj H
         go_wp2
         go_ret
         exact ⟨by first | rfl | (simp [errW_none, errW_some] <;> rfl) | (simp [*, errW_none, errW_some] <;> rfl), by repeat (first | (with_reducible first | exact HB.out | apply below_alloc | apply pw_below_drewN | apply below_drew1 | refine below_set ?_ GE110.out | refine below_set ?_ GE119.out) | exact HB.out)⟩
       case rest =>
        clear HC34
        try clear c1
        try clear c2
        try clear p2
        try clear c3
        try clear c5
        try clear c5b0
        try clear c5b1
        try clear c5b2
        try clear c6
        try clear c7
        try clear c8
        try clear c9
        try clear c9b0
        try clear c9b2
        try clear c10
        try clear c11
        try clear c26
        try clear c31
        try clear c38
        try clear hcz20_0
        try clear hcz20_1
        try clear hcz20_2
        try clear hcz27_0
        try clear hcz27_1
        try clear hcz27_2
        try clear hcz29_0
        try clear hcz29_1
        try clear hcz29_2
        try clear hfz20_0
        try clear hfz20_1
        try clear hfz20_2
        try clear hfz27_0
        try clear hfz27_1
        try clear hfz27_2
        try clear hfz29_0
        try clear hfz29_1
        try clear hfz29_2
        try clear p2
        obtain ⟨kq, HA, HJ33, HO_9, HO_111002, HO_120002, BK110, BK119, HB⟩ := hcut
        cases kq with
        | zero => exact absurd HA.out (by simp [laws_FnExactDeleteZ.j3])
        | succ kj33 =>
         have H := HA.out
         clear HA
         simp only [laws_FnExactDeleteZ.j3] at H
         replace H := Option.bind_eq_some_iff.mp H
         obtain ⟨⟨t125, t126⟩, A390, H⟩ := H
         replace H : (if t125 < 0 then (laws_FnExactDeleteZ.j4 kj33 l0 a1 a2 true t105 t106 t107 t114 t115 t116) else ((laws_eqZResult.f kj33 t114 t115 t116 t105 t106 t107).bind fun t127 => (laws_FnExactDeleteZ.j4 kj33 l0 a1 a2 (!t127) t105 t106 t107 t114 t115 t116))) = some r := H
         have A39 := aa A390
         clear A390
         have HC40 := aa H
         clear H
         go_upto_region 16 with (first | ((with_reducible refine gate_callee (f := 12) rfl ?_); refine goesL_ (some 45) rfl rfl Tryd.func12 (by kernel_rfl) rfl #[.slice Ao23 t111.length co23, .int .i64 1] rfl zjnmae ?_; (with_reducible refine (laws_markZnodeS.calls kj33 (fun k_ => some k_ = (.slice Ao23 t111.length co23 : Value).ownBlock) (.slice Ao23 t111.length co23) t111 1 t125 t126 w _ ?side1 ?side2 A39.out).mono ?_); (case side1 => exact zjnifo); (case side2 => exact Kd.R_tight rfl HO_9.out); rintro e w41 ⟨rfl, hy0, hb, hkp⟩; refine ⟨_, rfl, ?_⟩; have n0_ := aa (Kd.R_reok rfl hy0 (fun k_ e_ => HO_9.out.1 k_ e_)); have n1_ := aa (Kd.R_mono (ok' := fun k_ => some k_ ≠ (.slice Ao23 t111.length co23 : Value).ownBlock ∧ some k_ ≠ (.slice Ao28 t116.length co28 : Value).ownBlock) (Kd.R_keptB (HO_111002.out) hkp (fun k_ hk_ hs_ => (hk_.1) hs_)) (fun k_ hk_ => ⟨hk_.1.1, hk_.1.2⟩)); have n2_ := aa (Kd.R_mono (ok' := fun k_ => some k_ ≠ (.slice Ao23 t111.length co23 : Value).ownBlock ∧ some k_ ≠ (.slice Ao21 t107.length co21 : Value).ownBlock) (Kd.R_keptB (HO_120002.out) hkp (fun k_ hk_ hs_ => (hk_.1) hs_)) (fun k_ hk_ => ⟨hk_.1.1, hk_.1.2⟩)); have n3_ := aa (blk_kept (zkjhpm BK110.out) hkp (fun hs_ => (fun e_ => (Kd.R_ne HO_9.out BK110.out (by decide)) e_) hs_)); have n4_ := aa (blk_kept (zkjhpm BK119.out) hkp (fun hs_ => (fun e_ => (Kd.R_ne HO_9.out BK119.out (by decide)) e_) hs_)); have n5_ := aa (hb); clear HO_9; clear HO_111002; clear HO_120002; clear BK110; clear BK119; clear HB; have HO_9 := n0_; have HO_111002 := n1_; have HO_120002 := n2_; have BK110 := n3_; have BK119 := n4_; have HB := n5_; clear n0_ n1_ n2_ n3_ n4_ n5_; (try clear hb); (try clear hkp); (try clear hy0)))
         (try simp only [Act.put, List.setIfInBounds_toArray, List.set_cons_zero, List.set_cons_succ])
         go_cut [53] (fun v53 wc => ∃ (kq : Nat) (x53_39 : Bool), v53 = .bool x53_39 ∧ Aside0 (laws_FnExactDeleteZ.j4 kq l0 a1 a2 x53_39 t105 t106 t107 t114 t115 t116 = some r) ∧ Aside0 (kq ≤ kj33) ∧ Aside0 (Kd.R k47 47 wc w.heap.size (fun k_ => some k_ ≠ ((.slice Ao28 t116.length co28) : Value).ownBlock) (.slice Ao21 t107.length co21) t107) ∧ Aside0 (Kd.R k47 47 wc w.heap.size (fun k_ => some k_ ≠ ((.slice Ao21 t107.length co21) : Value).ownBlock) (.slice Ao28 t116.length co28) t116) ∧ Aside0 (wc.heap[gb110]? = some (.cells #[.int .i64 t105, .string t106, (.slice Ao21 t107.length co21)] 26 (0, 0))) ∧ Aside0 (wc.heap[gb119]? = some (.cells #[.int .i64 t114, .string t115, (.slice Ao28 t116.length co28)] 26 (0, 0))) ∧ Aside0 (Below w.heap.size w wc))
         case first =>
          have H := HC40.out
          clear HC40
          by_cases c42 : t125 < 0
          ·
           rw [if_pos c42] at H
           have c42b0 : decide (t125 < 0) = true := decide_eq_true c42
           clear c42
           (first | rw [c42b0] | (simp only [i64_w, i32_w]; rw [c42b0]) | (simp only [c42b2, Bool.not_false, Bool.not_true]) | skip)
           have H' := aa H
           clear H
           go_wp2
           go_meet
           case rel => exact ⟨_, (true), zagbkp, H', ⟨by have := HJ3.out; have := HJ6.out; have := HJ14.out; have := HJ33.out; first | omega | exact Nat.le_refl _⟩, ⟨by (with_reducible repeat (first | apply Kd.R_alloc | apply Kd.R_drewN | apply Kd.R_drew)); exact Kd.R_mono HO_111002.out (fun _ hk => hk.2)⟩, ⟨by (with_reducible repeat (first | apply Kd.R_alloc | apply Kd.R_drewN | apply Kd.R_drew)); exact Kd.R_mono HO_120002.out (fun _ hk => hk.2)⟩, ⟨by (with_reducible repeat (first | refine blk_drewN ?_ _ | refine blk_drew ?_ | refine blk_alloc ?_ _)); exact BK110.out⟩, ⟨by (with_reducible repeat (first | refine blk_drewN ?_ _ | refine blk_drew ?_ | refine blk_alloc ?_ _)); exact BK119.out⟩, ⟨by repeat (first | (with_reducible first | exact HB.out | apply below_alloc | apply pw_below_drewN | apply below_drew1 | refine below_set ?_ GE110.out | refine below_set ?_ GE119.out) | exact HB.out)⟩⟩
          ·
           rw [if_neg c42] at H
           have c42b0 : decide (t125 < 0) = false := decide_eq_false c42
           clear c42
           (first | rw [c42b0] | (simp only [i64_w, i32_w]; rw [c42b0]) | (simp only [c42b2, Bool.not_false, Bool.not_true]) | skip)
           replace H := Option.bind_eq_some_iff.mp H
           obtain ⟨t127, A430, H⟩ := H
           replace H : (laws_FnExactDeleteZ.j4 kj33 l0 a1 a2 (!t127) t105 t106 t107 t114 t115 t116) = some r := H
           have A43 := aa A430
           clear A430
           have H' := aa H
           clear H
           have hnb44 := NB119_110.out
           have hnc44 := NB110_119.out
           have hcz45_0 : w41.cell? ⟨gb119, 0, none⟩ = some (.int .i64 t114) := (blk_cell BK119.out 0).trans rfl
           have hcz45_1 : w41.cell? ⟨gb119, 1, none⟩ = some (.string t115) := (blk_cell BK119.out 1).trans rfl
           have hcz45_2 : w41.cell? ⟨gb119, 2, none⟩ = some (.slice Ao28 t116.length co28) := (blk_cell BK119.out 2).trans rfl
           have hfz45_0 := blk_frozen BK119.out 0
           have hfz45_1 := blk_frozen BK119.out 1
           have hfz45_2 := blk_frozen BK119.out 2
           have hcz46_0 : w41.cell? ⟨gb110, 0, none⟩ = some (.int .i64 t105) := (blk_cell BK110.out 0).trans rfl
           have hcz46_1 : w41.cell? ⟨gb110, 1, none⟩ = some (.string t106) := (blk_cell BK110.out 1).trans rfl
           have hcz46_2 : w41.cell? ⟨gb110, 2, none⟩ = some (.slice Ao21 t107.length co21) := (blk_cell BK110.out 2).trans rfl
           have hfz46_0 := blk_frozen BK110.out 0
           have hfz46_1 := blk_frozen BK110.out 1
           have hfz46_2 := blk_frozen BK110.out 2
           go_wp2_with (first | (go_at_call 10; (with_reducible refine (laws_eqZResult.calls kj33 t114 t115 _ _ t116 t105 t106 _ _ t107 t127 _ ?side1 ?side2 ?side3 ?side4 A43.out).mono ?_); (case side1 => exact zfgpom); (case side2 => exact zfljdm); (case side3 => repeat (first | exact (Kd.R_reads' HO_111002.out).2.2 | (with_reducible refine Kd.C_alloc ?_ _) | (with_reducible refine Kd.C_drewN ?_ _) | (with_reducible refine Kd.C_drew ?_))); (case side4 => exact (Kd.R_reads' HO_111002.out).2.1); rintro e w47 ⟨rfl, hb⟩; have n0_ := aa (Kd.R_below (zcaken HO_9.out) hb); have n1_ := aa (Kd.R_below (zcaken HO_111002.out) hb); have n2_ := aa (Kd.R_below (zcaken HO_120002.out) hb); have n3_ := aa (blk_below (g := gb110) (o := .cells #[.int .i64 t105, .string t106, .slice Ao21 t107.length co21] 26 (0, 0)) (zkjhpm BK110.out) hb); have n4_ := aa (blk_below (g := gb119) (o := .cells #[.int .i64 t114, .string t115, .slice Ao28 t116.length co28] 26 (0, 0)) (zkjhpm BK119.out) hb); have n5_ := aa (below_step zjnifo hb); clear HO_9; clear HO_111002; clear HO_120002; clear BK110; clear BK119; clear HB; have HO_9 := n0_; have HO_111002 := n1_; have HO_120002 := n2_; have BK110 := n3_; have BK119 := n4_; have HB := n5_; clear n0_ n1_ n2_ n3_ n4_ n5_; (try clear hb); (try clear hb2); (try clear hk); (try clear hi)))
           go_meet
           case rel => exact ⟨_, (!t127), zagbkp, H', ⟨by have := HJ3.out; have := HJ6.out; have := HJ14.out; have := HJ33.out; first | omega | exact Nat.le_refl _⟩, ⟨by (with_reducible repeat (first | apply Kd.R_alloc | apply Kd.R_drewN | apply Kd.R_drew)); exact Kd.R_mono HO_111002.out (fun _ hk => hk.2)⟩, ⟨by (with_reducible repeat (first | apply Kd.R_alloc | apply Kd.R_drewN | apply Kd.R_drew)); exact Kd.R_mono HO_120002.out (fun _ hk => hk.2)⟩, ⟨by (with_reducible repeat (first | refine blk_drewN ?_ _ | refine blk_drew ?_ | refine blk_alloc ?_ _)); exact BK110.out⟩, ⟨by (with_reducible repeat (first | refine blk_drewN ?_ _ | refine blk_drew ?_ | refine blk_alloc ?_ _)); exact BK119.out⟩, ⟨by repeat (first | (with_reducible first | exact HB.out | apply below_alloc | apply pw_below_drewN | apply below_drew1 | refine below_set ?_ GE110.out | refine below_set ?_ GE119.out) | exact HB.out)⟩⟩
         case rest =>
          clear HC40
          try clear c1
          try clear c2
          try clear p2
          try clear c3
          try clear c4
          try clear c5
          try clear c5b0
          try clear c5b1
          try clear c5b2
          try clear c6
          try clear c7
          try clear c8
          try clear c9
          try clear c9b0
          try clear c9b2
          try clear c10
          try clear c11
          try clear c12
          try clear c26
          try clear c31
          try clear c38
          try clear c42
          try clear c42b0
          try clear c42b2
          try clear c44
          try clear hcz20_0
          try clear hcz20_1
          try clear hcz20_2
          try clear hcz27_0
          try clear hcz27_1
          try clear hcz27_2
          try clear hcz29_0
          try clear hcz29_1
          try clear hcz29_2
          try clear hcz45_0
          try clear hcz45_1
          try clear hcz45_2
          try clear hcz46_0
          try clear hcz46_1
          try clear hcz46_2
          try clear hfz20_0
          try clear hfz20_1
          try clear hfz20_2
          try clear hfz27_0
          try clear hfz27_1
          try clear hfz27_2
          try clear hfz29_0
          try clear hfz29_1
          try clear hfz29_2
          try clear hfz45_0
          try clear hfz45_1
          try clear hfz45_2
          try clear hfz46_0
          try clear hfz46_1
          try clear hfz46_2
          try clear p2
          obtain ⟨kq, x53_39, rfl, HA, HJ39, HO_111002, HO_120002, BK110, BK119, HB⟩ := hcut
          cases kq with
          | zero => exact absurd HA.out (by simp [laws_FnExactDeleteZ.j4])
          | succ kj39 =>
           have H := HA.out
           clear HA
           simp only [laws_FnExactDeleteZ.j4] at H
           have HC48 := aa H
           clear H
           go_upto_if 53 with (fail)
           go_cut [] (fun wc => ∃ (kq : Nat), Aside0 (laws_FnExactDeleteZ.j5 kq l0 a1 a2 t105 t106 t107 t114 t115 t116 = some r) ∧ Aside0 (kq ≤ kj39) ∧ Aside0 (Kd.R k47 47 wc w.heap.size (fun k_ => some k_ ≠ ((.slice Ao28 t116.length co28) : Value).ownBlock) (.slice Ao21 t107.length co21) t107) ∧ Aside0 (Kd.R k47 47 wc w.heap.size (fun k_ => some k_ ≠ ((.slice Ao21 t107.length co21) : Value).ownBlock) (.slice Ao28 t116.length co28) t116) ∧ Aside0 (wc.heap[gb110]? = some (.cells #[.int .i64 t105, .string t106, (.slice Ao21 t107.length co21)] 26 (0, 0))) ∧ Aside0 (wc.heap[gb119]? = some (.cells #[.int .i64 t114, .string t115, (.slice Ao28 t116.length co28)] 26 (0, 0))) ∧ Aside0 (Below w.heap.size w wc))
           case first =>
            have H := HC48.out
            clear HC48
            by_cases c49 : x53_39 = true
            ·
             subst c49
             have H1 : (some false) = some r := by rw [if_pos rfl] at H; exact H
             clear H
             have H := H1
             clear H1
             obtain rfl := Option.some.inj H
             go_wp2
             go_ret
             exact ⟨by first | rfl | (simp [errW_none, errW_some] <;> rfl) | (simp [*, errW_none, errW_some] <;> rfl), by repeat (first | (with_reducible first | exact HB.out | apply below_alloc | apply pw_below_drewN | apply below_drew1 | refine below_set ?_ GE110.out | refine below_set ?_ GE119.out) | exact HB.out)⟩
            ·
             replace c49 := Bool.eq_false_iff.mpr c49
             subst c49
             have H1 : (laws_FnExactDeleteZ.j5 kj39 l0 a1 a2 t105 t106 t107 t114 t115 t116) = some r := by rw [if_neg (show ¬ (false = true) by decide)] at H; exact H
             clear H
             have H := H1
             clear H1
             have H' := aa H
             clear H
             go_wp2
             go_meet
             case rel => exact ⟨_, H', ⟨by have := HJ3.out; have := HJ6.out; have := HJ14.out; have := HJ33.out; have := HJ39.out; first | omega | exact Nat.le_refl _⟩, ⟨by (with_reducible repeat (first | apply Kd.R_alloc | apply Kd.R_drewN | apply Kd.R_drew)); exact HO_111002.out⟩, ⟨by (with_reducible repeat (first | apply Kd.R_alloc | apply Kd.R_drewN | apply Kd.R_drew)); exact HO_120002.out⟩, ⟨by (with_reducible repeat (first | refine blk_drewN ?_ _ | refine blk_drew ?_ | refine blk_alloc ?_ _)); exact BK110.out⟩, ⟨by (with_reducible repeat (first | refine blk_drewN ?_ _ | refine blk_drew ?_ | refine blk_alloc ?_ _)); exact BK119.out⟩, ⟨by repeat (first | (with_reducible first | exact HB.out | apply below_alloc | apply pw_below_drewN | apply below_drew1 | refine below_set ?_ GE110.out | refine below_set ?_ GE119.out) | exact HB.out)⟩⟩
           case rest =>
            clear HC48
            try clear c1
            try clear c2
            try clear p2
            try clear c3
            try clear c4
            try clear c5
            try clear c5b0
            try clear c5b1
            try clear c5b2
            try clear c6
            try clear c7
            try clear c8
            try clear c9
            try clear c9b0
            try clear c9b2
            try clear c10
            try clear c11
            try clear c12
            try clear c26
            try clear c31
            try clear c38
            try clear c42
            try clear c42b0
            try clear c42b2
            try clear c44
            try clear c49
            try clear hcz20_0
            try clear hcz20_1
            try clear hcz20_2
            try clear hcz27_0
            try clear hcz27_1
            try clear hcz27_2
            try clear hcz29_0
            try clear hcz29_1
            try clear hcz29_2
            try clear hcz45_0
            try clear hcz45_1
            try clear hcz45_2
            try clear hcz46_0
            try clear hcz46_1
            try clear hcz46_2
            try clear hfz20_0
            try clear hfz20_1
            try clear hfz20_2
            try clear hfz27_0
            try clear hfz27_1
            try clear hfz27_2
            try clear hfz29_0
            try clear hfz29_1
            try clear hfz29_2
            try clear hfz45_0
            try clear hfz45_1
            try clear hfz45_2
            try clear hfz46_0
            try clear hfz46_1
            try clear hfz46_2
            try clear p2
            obtain ⟨kq, HA, HJ47, HO_111002, HO_120002, BK110, BK119, HB⟩ := hcut
            cases kq with
            | zero => exact absurd HA.out (by simp [laws_FnExactDeleteZ.j5])
            | succ kj47 =>
             have H := HA.out
             clear HA
             simp only [laws_FnExactDeleteZ.j5] at H
             replace H := Option.bind_eq_some_iff.mp H
             obtain ⟨⟨t128, t129⟩, A500, H⟩ := H
             replace H : ((laws_heldZResult.f kj47 t114 t115 t129 1).bind fun t130 => (if t130 < 0 then (some false) else (laws_FnExactDeleteZ.j6 kj47 l0 a1 a2 t128 t130 t105 t106 t107 t114 t115 t129))) = some r := H
             have A50 := aa A500
             clear A500
             replace H := Option.bind_eq_some_iff.mp H
             obtain ⟨t130, A510, H⟩ := H
             replace H : (if t130 < 0 then (some false) else (laws_FnExactDeleteZ.j6 kj47 l0 a1 a2 t128 t130 t105 t106 t107 t114 t115 t129)) = some r := H
             have A51 := aa A510
             clear A510
             have HC52 := aa H
             clear H
             have hnb53 := NB119_110.out
             have hnc53 := NB110_119.out
             have hcz54_0 : wc.cell? ⟨gb119, 0, none⟩ = some (.int .i64 t114) := (blk_cell BK119.out 0).trans rfl
             have hcz54_1 : wc.cell? ⟨gb119, 1, none⟩ = some (.string t115) := (blk_cell BK119.out 1).trans rfl
             have hcz54_2 : wc.cell? ⟨gb119, 2, none⟩ = some (.slice Ao28 t116.length co28) := (blk_cell BK119.out 2).trans rfl
             have hfz54_0 := blk_frozen BK119.out 0
             have hfz54_1 := blk_frozen BK119.out 1
             have hfz54_2 := blk_frozen BK119.out 2
             go_upto_if 61 with (first | ((with_reducible refine gate_callee (f := 13) rfl ?_); refine goesL_ (some 56) rfl rfl Tryd.func13 (by kernel_rfl) rfl #[.agg #[.int .i64 t114, .string t115, .slice Ao28 t116.length co28], .int .i64 1] rfl zjnmae ?_; (with_reducible refine (laws_markZResult.calls kj47 t114 t115 (fun k_ => some k_ = (.slice Ao28 t116.length co28 : Value).ownBlock) (.slice Ao28 t116.length co28) t116 1 t128 t129 w _ ?side1 ?side2 A50.out).mono ?_); (case side1 => exact zjnifo); (case side2 => exact Kd.R_tight rfl HO_120002.out); rintro e w55 ⟨rfl, hy0, hb, hkp⟩; refine ⟨_, rfl, ?_⟩; have n0_ := aa (Kd.R_mono (ok' := fun k_ => some k_ ≠ (.slice Ao28 t116.length co28 : Value).ownBlock) (Kd.R_keptB (HO_111002.out) hkp (fun k_ hk_ hs_ => (hk_) hs_)) (fun k_ hk_ => hk_.1)); have n1_ := aa (Kd.R_reok rfl hy0 (fun k_ e_ => HO_120002.out.1 k_ e_)); have n2_ := aa (blk_kept (zkjhpm BK110.out) hkp (fun hs_ => (fun e_ => (Kd.R_ne HO_120002.out BK110.out (by decide)) e_) hs_)); have n3_ := aa (blk_kept (zkjhpm BK119.out) hkp (fun hs_ => (fun e_ => (Kd.R_ne HO_120002.out BK119.out (by decide)) e_) hs_)); have n4_ := aa (hb); clear HO_111002; clear HO_120002; clear BK110; clear BK119; clear HB; have HO_111002 := n0_; have HO_120002 := n1_; have BK110 := n2_; have BK119 := n3_; have HB := n4_; clear n0_ n1_ n2_ n3_ n4_; (try clear hb); (try clear hkp); (try clear hy0); have hcz56_0 : w55.cell? ⟨gb119, 0, none⟩ = some (.int .i64 t114) := (blk_cell BK119.out 0).trans rfl; have hcz56_1 : w55.cell? ⟨gb119, 1, none⟩ = some (.string t115) := (blk_cell BK119.out 1).trans rfl; have hcz56_2 : w55.cell? ⟨gb119, 2, none⟩ = some (.slice Ao28 t116.length co28) := (blk_cell BK119.out 2).trans rfl; have hfz56_0 := blk_frozen BK119.out 0; have hfz56_1 := blk_frozen BK119.out 1; have hfz56_2 := blk_frozen BK119.out 2) | ((with_reducible refine gate_callee (f := 14) rfl ?_); refine goesL_ (some 59) rfl rfl Tryd.func14 (by kernel_rfl) rfl #[.agg #[.int .i64 t114, .string t115, .slice Ao28 t129.length co28], .int .i64 1] rfl (by (try simp only [List.map_toArray, List.map_cons, List.map_nil]); first | done | (rw [show t129.length = t116.length from (Kd.R_reads' HO_120002.out).1.symm] <;> rfl) | rfl | (simp only [List.length_drop, List.length_take]; rfl)) ?_; (with_reducible refine (laws_heldZResult.calls kj47 t114 t115 _ _ t129 1 t130 _ ?side1 ?side2 A51.out).mono ?_); (case side1 => exact zfgpom); (case side2 => rw [show t129.length = t116.length from (Kd.R_reads' HO_120002.out).1.symm]; exact (Kd.R_reads' HO_120002.out).2.1); rintro e w57 ⟨rfl, hb⟩; refine ⟨_, rfl, ?_⟩; have n0_ := aa (Kd.R_below (zcaken HO_111002.out) hb); have n1_ := aa (Kd.R_below (zcaken HO_120002.out) hb); have n2_ := aa (blk_below (g := gb110) (o := .cells #[.int .i64 t105, .string t106, .slice Ao21 t107.length co21] 26 (0, 0)) (zkjhpm BK110.out) hb); have n3_ := aa (blk_below (g := gb119) (o := .cells #[.int .i64 t114, .string t115, .slice Ao28 t116.length co28] 26 (0, 0)) (zkjhpm BK119.out) hb); have n4_ := aa (below_step zjnifo hb); clear HO_111002; clear HO_120002; clear BK110; clear BK119; clear HB; have HO_111002 := n0_; have HO_120002 := n1_; have BK110 := n2_; have BK119 := n3_; have HB := n4_; clear n0_ n1_ n2_ n3_ n4_; (try clear hb); (try clear hb2); (try clear hk); (try clear hi)))
             (try simp only [Act.put, List.setIfInBounds_toArray, List.set_cons_zero, List.set_cons_succ])
             go_cut [] (fun wc => ∃ (kq : Nat), Aside0 (laws_FnExactDeleteZ.j6 kq l0 a1 a2 t128 t130 t105 t106 t107 t114 t115 t129 = some r) ∧ Aside0 (kq ≤ kj47) ∧ Aside0 (Kd.R k47 47 wc w.heap.size (fun k_ => some k_ ≠ ((.slice Ao28 t116.length co28) : Value).ownBlock) (.slice Ao21 t107.length co21) t107) ∧ Aside0 (Kd.R k47 47 wc w.heap.size (fun k_ => some k_ ≠ ((.slice Ao21 t107.length co21) : Value).ownBlock) (.slice Ao28 t116.length co28) t129) ∧ Aside0 (wc.heap[gb110]? = some (.cells #[.int .i64 t105, .string t106, (.slice Ao21 t107.length co21)] 26 (0, 0))) ∧ Aside0 (wc.heap[gb119]? = some (.cells #[.int .i64 t114, .string t115, (.slice Ao28 t116.length co28)] 26 (0, 0))) ∧ Aside0 (Below w.heap.size w wc))
             case first =>
              have H := HC52.out
              clear HC52
              by_cases c58 : t130 < 0
              ·
               rw [if_pos c58] at H
               have c58b0 : decide (t130 < 0) = true := decide_eq_true c58
               clear c58
               (first | rw [c58b0] | (simp only [i64_w, i32_w]; rw [c58b0]) | (simp only [c58b2, Bool.not_false, Bool.not_true]) | skip)
               obtain rfl := Option.some.inj H
               go_wp2
               go_ret
               exact ⟨by first | rfl | (simp [errW_none, errW_some] <;> rfl) | (simp [*, errW_none, errW_some] <;> rfl), by repeat (first | (with_reducible first | exact HB.out | apply below_alloc | apply pw_below_drewN | apply below_drew1 | refine below_set ?_ GE110.out | refine below_set ?_ GE119.out) | exact HB.out)⟩
              ·
               rw [if_neg c58] at H
               have c58b0 : decide (t130 < 0) = false := decide_eq_false c58
               clear c58
               (first | rw [c58b0] | (simp only [i64_w, i32_w]; rw [c58b0]) | (simp only [c58b2, Bool.not_false, Bool.not_true]) | skip)
               have H' := aa H
               clear H
               go_wp2
               go_meet
               case rel => exact ⟨_, H', ⟨by have := HJ3.out; have := HJ6.out; have := HJ14.out; have := HJ33.out; have := HJ39.out; have := HJ47.out; first | omega | exact Nat.le_refl _⟩, ⟨by (with_reducible repeat (first | apply Kd.R_alloc | apply Kd.R_drewN | apply Kd.R_drew)); exact HO_111002.out⟩, ⟨by (with_reducible repeat (first | apply Kd.R_alloc | apply Kd.R_drewN | apply Kd.R_drew)); exact HO_120002.out⟩, ⟨by (with_reducible repeat (first | refine blk_drewN ?_ _ | refine blk_drew ?_ | refine blk_alloc ?_ _)); exact BK110.out⟩, ⟨by (with_reducible repeat (first | refine blk_drewN ?_ _ | refine blk_drew ?_ | refine blk_alloc ?_ _)); exact BK119.out⟩, ⟨by repeat (first | (with_reducible first | exact HB.out | apply below_alloc | apply pw_below_drewN | apply below_drew1 | refine below_set ?_ GE110.out | refine below_set ?_ GE119.out) | exact HB.out)⟩⟩
             case rest =>
              clear HC52
              try clear c1
              try clear c2
              try clear p2
              try clear c3
              try clear c4
              try clear c5
              try clear c5b0
              try clear c5b1
              try clear c5b2
              try clear c6
              try clear c7
              try clear c8
              try clear c9
              try clear c9b0
              try clear c9b2
              try clear c10
              try clear c11
              try clear c12
              try clear c13
              try clear c14
              try clear c26
              try clear c31
              try clear c38
              try clear c42
              try clear c42b0
              try clear c42b2
              try clear c44
              try clear c49
              try clear c53
              try clear c58
              try clear c58b0
              try clear c58b2
              try clear hcz20_0
              try clear hcz20_1
              try clear hcz20_2
              try clear hcz27_0
              try clear hcz27_1
              try clear hcz27_2
              try clear hcz29_0
              try clear hcz29_1
              try clear hcz29_2
              try clear hcz45_0
              try clear hcz45_1
              try clear hcz45_2
              try clear hcz46_0
              try clear hcz46_1
              try clear hcz46_2
              try clear hcz54_0
              try clear hcz54_1
              try clear hcz54_2
              try clear hcz56_0
              try clear hcz56_1
              try clear hcz56_2
              try clear hfz20_0
              try clear hfz20_1
              try clear hfz20_2
              try clear hfz27_0
              try clear hfz27_1
              try clear hfz27_2
              try clear hfz29_0
              try clear hfz29_1
              try clear hfz29_2
              try clear hfz45_0
              try clear hfz45_1
              try clear hfz45_2
              try clear hfz46_0
              try clear hfz46_1
              try clear hfz46_2
              try clear hfz54_0
              try clear hfz54_1
              try clear hfz54_2
              try clear hfz56_0
              try clear hfz56_1
              try clear hfz56_2
              try clear p2
              obtain ⟨kq, HA, HJ51, HO_111002, HO_120002, BK110, BK119, HB⟩ := hcut
              have hl120002_51 := (Kd.R_reads' HO_120002.out).1
              rw [hl120002_51] at HO_120002
              (try simp only [hl120002_51])
              (try simp only [hl120002_51] at BK110)
              (try simp only [hl120002_51] at BK119)
              (try simp only [hl120002_51] at HO_111002)
              cases kq with
              | zero => exact absurd HA.out (by simp [laws_FnExactDeleteZ.j6])
              | succ kj51 =>
               have H := HA.out
               clear HA
               simp only [laws_FnExactDeleteZ.j6] at H
               have HC59 := aa H
               clear H
               go_upto_if 64 with (fail)
               go_cut [] (fun wc => ∃ (kq : Nat), Aside0 (laws_FnExactDeleteZ.j7 kq l0 a1 a2 t128 t105 t106 t107 t114 t115 t129 = some r) ∧ Aside0 (kq ≤ kj51) ∧ Aside0 (Kd.R k47 47 wc w.heap.size (fun k_ => some k_ ≠ ((.slice Ao28 t129.length co28) : Value).ownBlock) (.slice Ao21 t107.length co21) t107) ∧ Aside0 (Kd.R k47 47 wc w.heap.size (fun k_ => some k_ ≠ ((.slice Ao21 t107.length co21) : Value).ownBlock) (.slice Ao28 t129.length co28) t129) ∧ Aside0 (wc.heap[gb110]? = some (.cells #[.int .i64 t105, .string t106, (.slice Ao21 t107.length co21)] 26 (0, 0))) ∧ Aside0 (wc.heap[gb119]? = some (.cells #[.int .i64 t114, .string t115, (.slice Ao28 t129.length co28)] 26 (0, 0))) ∧ Aside0 (Below w.heap.size w wc))
               case first =>
                have H := HC59.out
                clear HC59
                by_cases c60 : t130 = t128
                ·
                 rw [if_pos c60] at H
                 have c60b0 : (t130 == t128) = true := beq_iff_eq.mpr c60
                 have c60b1 : (t130 != t128) = false := bne_eq_false_iff_eq.mpr c60
                 clear c60
                 (first | rw [c60b0] | (simp only [i64_w, i32_w]; rw [c60b0]) | (simp only [c60b2, Bool.not_false, Bool.not_true]) | skip)
                 have H' := aa H
                 clear H
                 go_wp2
                 go_meet
                 case rel => exact ⟨_, H', ⟨by have := HJ3.out; have := HJ6.out; have := HJ14.out; have := HJ33.out; have := HJ39.out; have := HJ47.out; have := HJ51.out; first | omega | exact Nat.le_refl _⟩, ⟨by (try simp only [hl120002_51]); (with_reducible repeat (first | apply Kd.R_alloc | apply Kd.R_drewN | apply Kd.R_drew)); exact HO_111002.out⟩, ⟨by (try simp only [hl120002_51]); (with_reducible repeat (first | apply Kd.R_alloc | apply Kd.R_drewN | apply Kd.R_drew)); exact HO_120002.out⟩, ⟨by (try simp only [hl120002_51]); (with_reducible repeat (first | refine blk_drewN ?_ _ | refine blk_drew ?_ | refine blk_alloc ?_ _)); exact BK110.out⟩, ⟨by (try simp only [hl120002_51]); (with_reducible repeat (first | refine blk_drewN ?_ _ | refine blk_drew ?_ | refine blk_alloc ?_ _)); exact BK119.out⟩, ⟨by repeat (first | (with_reducible first | exact HB.out | apply below_alloc | apply pw_below_drewN | apply below_drew1 | refine below_set ?_ GE110.out | refine below_set ?_ GE119.out) | exact HB.out)⟩⟩
                ·
                 rw [if_neg c60] at H
                 have c60b0 : (t130 == t128) = false := beq_eq_false_iff_ne.mpr c60
                 have c60b1 : (t130 != t128) = true := bne_iff_ne.mpr c60
                 (first | rw [c60b0] | (simp only [i64_w, i32_w]; rw [c60b0]) | (simp only [c60b2, Bool.not_false, Bool.not_true]) | skip)
                 obtain rfl := Option.some.inj H
                 go_wp2
                 go_ret
                 exact ⟨by first | rfl | (simp [errW_none, errW_some] <;> rfl) | (simp [*, errW_none, errW_some] <;> rfl), by repeat (first | (with_reducible first | exact HB.out | apply below_alloc | apply pw_below_drewN | apply below_drew1 | refine below_set ?_ GE110.out | refine below_set ?_ GE119.out) | exact HB.out)⟩
               case rest =>
                clear HC59
                try clear c1
                try clear c2
                try clear p2
                try clear c3
                try clear c4
                try clear c5
                try clear c5b0
                try clear c5b1
                try clear c5b2
                try clear c6
                try clear c7
                try clear c8
                try clear c9
                try clear c9b0
                try clear c9b2
                try clear c10
                try clear c11
                try clear c12
                try clear c13
                try clear c14
                try clear c26
                try clear c31
                try clear c38
                try clear c42
                try clear c42b0
                try clear c42b2
                try clear c44
                try clear c49
                try clear c53
                try clear c58
                try clear c58b0
                try clear c58b2
                try clear c60
                try clear c60b0
                try clear c60b1
                try clear c60b2
                try clear hcz20_0
                try clear hcz20_1
                try clear hcz20_2
                try clear hcz27_0
                try clear hcz27_1
                try clear hcz27_2
                try clear hcz29_0
                try clear hcz29_1
                try clear hcz29_2
                try clear hcz45_0
                try clear hcz45_1
                try clear hcz45_2
                try clear hcz46_0
                try clear hcz46_1
                try clear hcz46_2
                try clear hcz54_0
                try clear hcz54_1
                try clear hcz54_2
                try clear hcz56_0
                try clear hcz56_1
                try clear hcz56_2
                try clear hfz20_0
                try clear hfz20_1
                try clear hfz20_2
                try clear hfz27_0
                try clear hfz27_1
                try clear hfz27_2
                try clear hfz29_0
                try clear hfz29_1
                try clear hfz29_2
                try clear hfz45_0
                try clear hfz45_1
                try clear hfz45_2
                try clear hfz46_0
                try clear hfz46_1
                try clear hfz46_2
                try clear hfz54_0
                try clear hfz54_1
                try clear hfz54_2
                try clear hfz56_0
                try clear hfz56_1
                try clear hfz56_2
                try clear p2
                obtain ⟨kq, HA, HJ58, HO_111002, HO_120002, BK110, BK119, HB⟩ := hcut
                cases kq with
                | zero => exact absurd HA.out (by simp [laws_FnExactDeleteZ.j7])
                | succ kj58 =>
                 have H := HA.out
                 clear HA
                 simp only [laws_FnExactDeleteZ.j7] at H
                 replace H := Option.bind_eq_some_iff.mp H
                 obtain ⟨t131, A610, H⟩ := H
                 replace H : ((impl_DeleteZ.f kj58 t131 a1 a2).bind fun bt134 => ((laws_eqZResult.f kj58 bt134.1 bt134.2.1 bt134.2.2 t105 t106 t107).bind fun t140 => (if t140 = true then (laws_FnExactDeleteZ.j8 kj58 t128 t114 t115 t129) else (some false)))) = some r := H
                 have A61 := aa A610
                 clear A610
                 replace H := Option.bind_eq_some_iff.mp H
                 obtain ⟨⟨t134, t135, t136⟩, A620, H⟩ := H
                 replace H : ((laws_eqZResult.f kj58 t134 t135 t136 t105 t106 t107).bind fun t140 => (if t140 = true then (laws_FnExactDeleteZ.j8 kj58 t128 t114 t115 t129) else (some false))) = some r := H
                 have A62 := aa A620
                 clear A620
                 replace H := Option.bind_eq_some_iff.mp H
                 obtain ⟨t140, A630, H⟩ := H
                 replace H : (if t140 = true then (laws_FnExactDeleteZ.j8 kj58 t128 t114 t115 t129) else (some false)) = some r := H
                 have A63 := aa A630
                 clear A630
                 have HC64 := aa H
                 clear H
                 go_upto_if 73 with (first | ((with_reducible refine gate_callee (f := 8) rfl ?_); refine goesL_ (some 66) rfl rfl Tryd.func8 (by kernel_rfl) rfl #[.slice A0 l0.length c0] rfl zjnmae ?_; (with_reducible refine (laws_toZnodeS.calls kj58 _ _ l0 t131 _ ?side1 ?side2 A61.out).mono ?_); (case side1 => exact zfmbgg); (case side2 => exact HC0.out); rintro e w65 ⟨v132, rfl, ho0, hb⟩; refine ⟨_, rfl, ?_⟩; have n0_ := aa (Kd.R_elder' (zcaken HO_111002.out) (Kd.R_base ho0) hb); have n1_ := aa (Kd.R_elder' (zcaken HO_120002.out) (Kd.R_base ho0) hb); have n2_ := aa (Kd.R_lower (Kd.R_new' (Kd.R_new' ho0 (Kd.R_lt (zcaken HO_111002.out))) (Kd.R_lt (zcaken HO_120002.out))) (below_size zjnifo)); have n3_ := aa (blk_below (g := gb110) (o := .cells #[.int .i64 t105, .string t106, .slice Ao21 t107.length co21] 26 (0, 0)) (zkjhpm BK110.out) hb); have n4_ := aa (blk_below (g := gb119) (o := .cells #[.int .i64 t114, .string t115, .slice Ao28 t129.length co28] 26 (0, 0)) (zkjhpm BK119.out) hb); have n5_ := aa (below_step zjnifo hb); clear HO_111002; clear HO_120002; clear BK110; clear BK119; clear HB; have HO_111002 := n0_; have HO_120002 := n1_; have HO133 := n2_; have BK110 := n3_; have BK119 := n4_; have HB := n5_; clear n0_ n1_ n2_ n3_ n4_ n5_; (try clear hb); (try clear hb2); (try clear hk); (try clear hi); (try clear ho0); obtain ⟨Ao66, co66, eo66⟩ := Kd.R_slice HO133.out; subst eo66) | ((with_reducible refine gate_callee (f := 9) rfl ?_); refine goesL_ (some 69) rfl rfl Tryd.func9 (by kernel_rfl) rfl #[.slice Ao66 t131.length co66, .string a1, .int .i64 a2] rfl zjnmae ?_; (with_reducible refine (impl_DeleteZ.calls kj58 _ _ t131 a1 a2 t134 t135 t136 _ ?side1 ?side2 A62.out).mono ?_); (case side1 => repeat (first | exact (Kd.R_reads' HO133.out).2.2 | (with_reducible refine Kd.C_alloc ?_ _) | (with_reducible refine Kd.C_drewN ?_ _) | (with_reducible refine Kd.C_drew ?_))); (case side2 => exact (Kd.R_reads' HO133.out).2.1); rintro e w67 ⟨v137, rfl, ho0, hb⟩; refine ⟨_, rfl, ?_⟩; have n0_ := aa (Kd.R_elder' (zcaken HO_111002.out) (Kd.R_base ho0) hb); have n1_ := aa (Kd.R_elder' (zcaken HO_120002.out) (Kd.R_base ho0) hb); have n2_ := aa (Kd.R_elder' (zcaken HO133.out) (Kd.R_base ho0) hb); have n3_ := aa (Kd.R_lower (Kd.R_new' (Kd.R_new' (Kd.R_new' ho0 (Kd.R_lt (zcaken HO_111002.out))) (Kd.R_lt (zcaken HO_120002.out))) (Kd.R_lt (zcaken HO133.out))) (below_size zjnifo)); have n4_ := aa (blk_below (g := gb110) (o := .cells #[.int .i64 t105, .string t106, .slice Ao21 t107.length co21] 26 (0, 0)) (zkjhpm BK110.out) hb); have n5_ := aa (blk_below (g := gb119) (o := .cells #[.int .i64 t114, .string t115, .slice Ao28 t129.length co28] 26 (0, 0)) (zkjhpm BK119.out) hb); have n6_ := aa (below_step zjnifo hb); clear HO_111002; clear HO_120002; clear HO133; clear BK110; clear BK119; clear HB; have HO_111002 := n0_; have HO_120002 := n1_; have HO133 := n2_; have HO138 := n3_; have BK110 := n4_; have BK119 := n5_; have HB := n6_; clear n0_ n1_ n2_ n3_ n4_ n5_ n6_; (try clear hb); (try clear hb2); (try clear hk); (try clear hi); (try clear ho0)) | ((with_reducible refine gate_dst (N := 14) rfl ?_); refine box_event ?hg (N := 14) ?hd (cs := #[.int .i64 0, .string (⟨#[]⟩ : ByteArray), .slice none 0 0]) (t := 26) ?hr ?_; (case hd => rfl); (case hg => rfl); (case hr => exact zhlgcp); intro gb139 hg w68 hbox hb; have n0_ := aa (Kd.R_below (zcaken HO_111002.out) hb); have n1_ := aa (Kd.R_below (zcaken HO_120002.out) hb); have n2_ := aa (Kd.R_below (zcaken HO133.out) hb); have n3_ := aa (Kd.R_below (zcaken HO138.out) hb); have n4_ := aa (blk_below (g := gb110) (o := .cells #[.int .i64 t105, .string t106, .slice Ao21 t107.length co21] 26 (0, 0)) (zkjhpm BK110.out) hb); have n5_ := aa (blk_below (g := gb119) (o := .cells #[.int .i64 t114, .string t115, .slice Ao28 t129.length co28] 26 (0, 0)) (zkjhpm BK119.out) hb); have n6_ := aa (below_step zjnifo hb); have n7_ := aa (hbox); have n8_ := aa ((by rw [hg]; exact (below_size zjnifo) : w.heap.size ≤ gb139)); have n9_ := aa ((by rw [hg]; exact (below_size zjnifo) : w.heap.size ≤ gb139)); have n10_ := aa ((zbhpom : gb110 ≠ gb139)); have n11_ := aa ((zkfonk : gb139 ≠ gb110)); have n12_ := aa ((by rw [hg]; exact Nat.ne_of_lt (blk_lt (g := gb119) (o := .cells #[.int .i64 t114, .string t115, .slice Ao28 t129.length co28] 26 (0, 0)) (zkjhpm BK119.out)) : gb119 ≠ gb139)); have n13_ := aa ((by rw [hg]; exact Nat.ne_of_gt (blk_lt (g := gb119) (o := .cells #[.int .i64 t114, .string t115, .slice Ao28 t129.length co28] 26 (0, 0)) (zkjhpm BK119.out)) : gb139 ≠ gb119)); clear HO_111002; clear HO_120002; clear HO133; clear HO138; clear BK110; clear BK119; clear HB; have HO_111002 := n0_; have HO_120002 := n1_; have HO133 := n2_; have HO138 := n3_; have BK110 := n4_; have BK119 := n5_; have HB := n6_; have BK139 := n7_; have GW139 := n8_; have GE139 := n9_; have NB110_139 := n10_; have NB139_110 := n11_; have NB119_139 := n12_; have NB139_119 := n13_; clear n0_ n1_ n2_ n3_ n4_ n5_ n6_ n7_ n8_ n9_ n10_ n11_ n12_ n13_; clear hb hbox hg; have hnb69 := NB139_110.out; have hnc69 := NB110_139.out; have hnb70 := NB139_119.out; have hnc70 := NB119_139.out; have hcz71_0 : w68.cell? ⟨gb139, 0, none⟩ = some (.int .i64 0) := (blk_cell BK139.out 0).trans rfl; have hcz71_1 : w68.cell? ⟨gb139, 1, none⟩ = some (.string (⟨#[]⟩ : ByteArray)) := (blk_cell BK139.out 1).trans rfl; have hcz71_2 : w68.cell? ⟨gb139, 2, none⟩ = some (.slice none 0 0) := (blk_cell BK139.out 2).trans rfl; have hfz71_0 := blk_frozen BK139.out 0; have hfz71_1 := blk_frozen BK139.out 1; have hfz71_2 := blk_frozen BK139.out 2; obtain ⟨Ao72, co72, eo72⟩ := Kd.R_slice HO138.out; subst eo72; have hnb73 := NB110_119.out; have hnc73 := NB119_110.out; have hcz74_0 : w68.cell? ⟨gb110, 0, none⟩ = some (.int .i64 t105) := (blk_cell BK110.out 0).trans rfl; have hcz74_1 : w68.cell? ⟨gb110, 1, none⟩ = some (.string t106) := (blk_cell BK110.out 1).trans rfl; have hcz74_2 : w68.cell? ⟨gb110, 2, none⟩ = some (.slice Ao21 t107.length co21) := (blk_cell BK110.out 2).trans rfl; have hfz74_0 := blk_frozen BK110.out 0; have hfz74_1 := blk_frozen BK110.out 1; have hfz74_2 := blk_frozen BK110.out 2) | ((with_reducible refine gate_callee (f := 10) rfl ?_); refine goesL_ (some 72) rfl rfl Tryd.func10 (by kernel_rfl) rfl #[.agg #[.int .i64 t134, .string t135, .slice Ao72 t136.length co72], .agg #[.int .i64 t105, .string t106, .slice Ao21 t107.length co21]] rfl zjnmae ?_; (with_reducible refine (laws_eqZResult.calls kj58 t134 t135 _ _ t136 t105 t106 _ _ t107 t140 _ ?side1 ?side2 ?side3 ?side4 A63.out).mono ?_); (case side1 => refine (Kd.R_reads' (e := 47) (base := w.heap.size) (ok := fun k_ => (((True ∧ some k_ ≠ (.slice Ao21 t107.length co21 : Value).ownBlock) ∧ some k_ ≠ (.slice Ao28 t129.length co28 : Value).ownBlock) ∧ some k_ ≠ (.slice Ao66 t131.length co66 : Value).ownBlock)) (n := t136.length) (c := co72) ?_).2.2; exact (by (with_reducible repeat (first | apply Kd.R_alloc | apply Kd.R_drewN | apply Kd.R_drew)); exact (Kd.R_mono (Kd.R_far (p := ⟨gb139, 2, none⟩) (Kd.R_far (p := ⟨gb139, 1, none⟩) (Kd.R_far (p := ⟨gb139, 0, none⟩) (Kd.R_types HO138.out BK139.out (by decide)) (fun _ hk => hk.2) (.int .i64 t134)) (fun _ hk => hk.2) (.string t135)) (fun _ hk => hk.2) (.slice Ao72 t136.length co72)) (fun _ h_ => h_.1)))); (case side2 => exact (Kd.R_reads' HO138.out).2.1); (case side3 => refine (Kd.R_reads' (e := 47) (base := w.heap.size) (ok := fun k_ => ((some k_ ≠ (.slice Ao28 t129.length co28 : Value).ownBlock ∧ some k_ ≠ (.slice Ao66 t131.length co66 : Value).ownBlock) ∧ some k_ ≠ (.slice Ao72 t136.length co72 : Value).ownBlock)) (n := t107.length) (c := co21) ?_).2.2; exact (by (with_reducible repeat (first | apply Kd.R_alloc | apply Kd.R_drewN | apply Kd.R_drew)); exact (Kd.R_mono (Kd.R_far (p := ⟨gb139, 2, none⟩) (Kd.R_far (p := ⟨gb139, 1, none⟩) (Kd.R_far (p := ⟨gb139, 0, none⟩) (Kd.R_types HO_111002.out BK139.out (by decide)) (fun _ hk => hk.2) (.int .i64 t134)) (fun _ hk => hk.2) (.string t135)) (fun _ hk => hk.2) (.slice Ao72 t136.length co72)) (fun _ h_ => h_.1)))); (case side4 => exact (Kd.R_reads' HO_111002.out).2.1); rintro e w75 ⟨rfl, hb⟩; refine ⟨_, rfl, ?_⟩; have n0_ := aa (Kd.R_below (by (with_reducible repeat (first | apply Kd.R_alloc | apply Kd.R_drewN | apply Kd.R_drew)); exact (Kd.R_mono (Kd.R_far (p := ⟨gb139, 2, none⟩) (Kd.R_far (p := ⟨gb139, 1, none⟩) (Kd.R_far (p := ⟨gb139, 0, none⟩) (Kd.R_types HO_111002.out BK139.out (by decide)) (fun _ hk => hk.2) (.int .i64 t134)) (fun _ hk => hk.2) (.string t135)) (fun _ hk => hk.2) (.slice Ao72 t136.length co72)) (fun _ h_ => h_.1))) hb); have n1_ := aa (Kd.R_below (by (with_reducible repeat (first | apply Kd.R_alloc | apply Kd.R_drewN | apply Kd.R_drew)); exact (Kd.R_mono (Kd.R_far (p := ⟨gb139, 2, none⟩) (Kd.R_far (p := ⟨gb139, 1, none⟩) (Kd.R_far (p := ⟨gb139, 0, none⟩) (Kd.R_types HO_120002.out BK139.out (by decide)) (fun _ hk => hk.2) (.int .i64 t134)) (fun _ hk => hk.2) (.string t135)) (fun _ hk => hk.2) (.slice Ao72 t136.length co72)) (fun _ h_ => h_.1))) hb); have n2_ := aa (Kd.R_below (by (with_reducible repeat (first | apply Kd.R_alloc | apply Kd.R_drewN | apply Kd.R_drew)); exact (Kd.R_mono (Kd.R_far (p := ⟨gb139, 2, none⟩) (Kd.R_far (p := ⟨gb139, 1, none⟩) (Kd.R_far (p := ⟨gb139, 0, none⟩) (Kd.R_types HO133.out BK139.out (by decide)) (fun _ hk => hk.2) (.int .i64 t134)) (fun _ hk => hk.2) (.string t135)) (fun _ hk => hk.2) (.slice Ao72 t136.length co72)) (fun _ h_ => h_.1))) hb); have n3_ := aa (Kd.R_below (by (with_reducible repeat (first | apply Kd.R_alloc | apply Kd.R_drewN | apply Kd.R_drew)); exact (Kd.R_mono (Kd.R_far (p := ⟨gb139, 2, none⟩) (Kd.R_far (p := ⟨gb139, 1, none⟩) (Kd.R_far (p := ⟨gb139, 0, none⟩) (Kd.R_types HO138.out BK139.out (by decide)) (fun _ hk => hk.2) (.int .i64 t134)) (fun _ hk => hk.2) (.string t135)) (fun _ hk => hk.2) (.slice Ao72 t136.length co72)) (fun _ h_ => h_.1))) hb); have n4_ := aa (blk_below (g := gb110) (o := .cells #[.int .i64 t105, .string t106, .slice Ao21 t107.length co21] 26 (0, 0)) (by (with_reducible repeat (first | refine blk_drewN ?_ _ | refine blk_drew ?_ | refine blk_alloc ?_ _)); refine blk_far ?_ NB110_139.out _; (with_reducible repeat (first | refine blk_drewN ?_ _ | refine blk_drew ?_ | refine blk_alloc ?_ _)); refine blk_far ?_ NB110_139.out _; (with_reducible repeat (first | refine blk_drewN ?_ _ | refine blk_drew ?_ | refine blk_alloc ?_ _)); refine blk_far ?_ NB110_139.out _; (with_reducible repeat (first | refine blk_drewN ?_ _ | refine blk_drew ?_ | refine blk_alloc ?_ _)); exact BK110.out) hb); have n5_ := aa (blk_below (g := gb119) (o := .cells #[.int .i64 t114, .string t115, .slice Ao28 t129.length co28] 26 (0, 0)) (by (with_reducible repeat (first | refine blk_drewN ?_ _ | refine blk_drew ?_ | refine blk_alloc ?_ _)); refine blk_far ?_ NB119_139.out _; (with_reducible repeat (first | refine blk_drewN ?_ _ | refine blk_drew ?_ | refine blk_alloc ?_ _)); refine blk_far ?_ NB119_139.out _; (with_reducible repeat (first | refine blk_drewN ?_ _ | refine blk_drew ?_ | refine blk_alloc ?_ _)); refine blk_far ?_ NB119_139.out _; (with_reducible repeat (first | refine blk_drewN ?_ _ | refine blk_drew ?_ | refine blk_alloc ?_ _)); exact BK119.out) hb); have n6_ := aa (blk_below (g := gb139) (o := .cells #[.int .i64 t134, .string t135, .slice Ao72 t136.length co72] 26 (0, 0)) (by (with_reducible repeat (first | refine blk_drewN ?_ _ | refine blk_drew ?_ | refine blk_alloc ?_ _)); refine blk_put (cs := #[.int .i64 t134, .string t135, .slice none 0 0]) ?_ 2 _ rfl; (with_reducible repeat (first | refine blk_drewN ?_ _ | refine blk_drew ?_ | refine blk_alloc ?_ _)); refine blk_put (cs := #[.int .i64 t134, .string (⟨#[]⟩ : ByteArray), .slice none 0 0]) ?_ 1 _ rfl; (with_reducible repeat (first | refine blk_drewN ?_ _ | refine blk_drew ?_ | refine blk_alloc ?_ _)); refine blk_put (cs := #[.int .i64 0, .string (⟨#[]⟩ : ByteArray), .slice none 0 0]) ?_ 0 _ rfl; (with_reducible repeat (first | refine blk_drewN ?_ _ | refine blk_drew ?_ | refine blk_alloc ?_ _)); exact BK139.out) hb); have n7_ := aa (below_step zmkblp hb); clear HO_111002; clear HO_120002; clear HO133; clear HO138; clear BK110; clear BK119; clear BK139; clear HB; have HO_111002 := n0_; have HO_120002 := n1_; have HO133 := n2_; have HO138 := n3_; have BK110 := n4_; have BK119 := n5_; have BK139 := n6_; have HB := n7_; clear n0_ n1_ n2_ n3_ n4_ n5_ n6_ n7_; (try clear hb); (try clear hb2); (try clear hk); (try clear hi)))
                 (try simp only [Act.put, List.setIfInBounds_toArray, List.set_cons_zero, List.set_cons_succ])
                 go_cut [] (fun wc => ∃ (kq : Nat), Aside0 (laws_FnExactDeleteZ.j8 kq t128 t114 t115 t129 = some r) ∧ Aside0 (kq ≤ kj58) ∧ Aside0 (Kd.R k47 47 wc w.heap.size (fun k_ => some k_ ≠ ((.slice Ao28 t129.length co28) : Value).ownBlock ∧ some k_ ≠ ((.slice Ao72 t136.length co72) : Value).ownBlock) (.slice Ao21 t107.length co21) t107) ∧ Aside0 (Kd.R k47 47 wc w.heap.size (fun k_ => some k_ ≠ ((.slice Ao21 t107.length co21) : Value).ownBlock ∧ some k_ ≠ ((.slice Ao72 t136.length co72) : Value).ownBlock) (.slice Ao28 t129.length co28) t129) ∧ Aside0 (Kd.R k47 47 wc w.heap.size (fun k_ => some k_ ≠ ((.slice Ao21 t107.length co21) : Value).ownBlock ∧ some k_ ≠ ((.slice Ao28 t129.length co28) : Value).ownBlock) (.slice Ao72 t136.length co72) t136) ∧ Aside0 (wc.heap[gb110]? = some (.cells #[.int .i64 t105, .string t106, (.slice Ao21 t107.length co21)] 26 (0, 0))) ∧ Aside0 (wc.heap[gb119]? = some (.cells #[.int .i64 t114, .string t115, (.slice Ao28 t129.length co28)] 26 (0, 0))) ∧ Aside0 (wc.heap[gb139]? = some (.cells #[.int .i64 t134, .string t135, (.slice Ao72 t136.length co72)] 26 (0, 0))) ∧ Aside0 (Below w.heap.size w wc))
                 case first =>
                  have H := HC64.out
                  clear HC64
                  by_cases c76 : t140 = true
                  ·
                   subst c76
                   have H1 : (laws_FnExactDeleteZ.j8 kj58 t128 t114 t115 t129) = some r := by rw [if_pos rfl] at H; exact H
                   clear H
                   have H := H1
                   clear H1
                   have H' := aa H
                   clear H
                   go_wp2
                   go_meet
                   case rel => exact ⟨_, H', ⟨by have := HJ3.out; have := HJ6.out; have := HJ14.out; have := HJ33.out; have := HJ39.out; have := HJ47.out; have := HJ51.out; have := HJ58.out; first | omega | exact Nat.le_refl _⟩, ⟨by (try simp only [hl120002_51]); (with_reducible repeat (first | apply Kd.R_alloc | apply Kd.R_drewN | apply Kd.R_drew)); exact Kd.R_mono HO_111002.out (fun _ hk => ⟨hk.1.1, hk.2⟩)⟩, ⟨by (try simp only [hl120002_51]); (with_reducible repeat (first | apply Kd.R_alloc | apply Kd.R_drewN | apply Kd.R_drew)); exact Kd.R_mono HO_120002.out (fun _ hk => ⟨hk.1.1, hk.2⟩)⟩, ⟨by (try simp only [hl120002_51]); (with_reducible repeat (first | apply Kd.R_alloc | apply Kd.R_drewN | apply Kd.R_drew)); exact Kd.R_mono HO138.out (fun _ hk => ⟨hk.1.1.2, hk.1.2⟩)⟩, ⟨by (try simp only [hl120002_51]); (with_reducible repeat (first | refine blk_drewN ?_ _ | refine blk_drew ?_ | refine blk_alloc ?_ _)); exact BK110.out⟩, ⟨by (try simp only [hl120002_51]); (with_reducible repeat (first | refine blk_drewN ?_ _ | refine blk_drew ?_ | refine blk_alloc ?_ _)); exact BK119.out⟩, ⟨by (try simp only [hl120002_51]); (with_reducible repeat (first | refine blk_drewN ?_ _ | refine blk_drew ?_ | refine blk_alloc ?_ _)); exact BK139.out⟩, ⟨by repeat (first | (with_reducible first | exact HB.out | apply below_alloc | apply pw_below_drewN | apply below_drew1 | refine below_set ?_ GE110.out | refine below_set ?_ GE119.out | refine below_set ?_ GE139.out) | exact HB.out)⟩⟩
                  ·
                   replace c76 := Bool.eq_false_iff.mpr c76
                   subst c76
                   have H1 : (some false) = some r := by rw [if_neg (show ¬ (false = true) by decide)] at H; exact H
                   clear H
                   have H := H1
                   clear H1
                   obtain rfl := Option.some.inj H
                   go_wp2
                   go_ret
                   exact ⟨by first | rfl | (simp [errW_none, errW_some] <;> rfl) | (simp [*, errW_none, errW_some] <;> rfl), by repeat (first | (with_reducible first | exact HB.out | apply below_alloc | apply pw_below_drewN | apply below_drew1 | refine below_set ?_ GE110.out | refine below_set ?_ GE119.out | refine below_set ?_ GE139.out) | exact HB.out)⟩
                 case rest =>
                  clear HC64
                  try clear c1
                  try clear c2
                  try clear p2
                  try clear c3
                  try clear c4
                  try clear c5
                  try clear c5b0
                  try clear c5b1
                  try clear c5b2
                  try clear c6
                  try clear c7
                  try clear c8
                  try clear c9
                  try clear c9b0
                  try clear c9b2
                  try clear c10
                  try clear c11
                  try clear c12
                  try clear c13
                  try clear c14
                  try clear c26
                  try clear c31
                  try clear c38
                  try clear c42
                  try clear c42b0
                  try clear c42b2
                  try clear c44
                  try clear c49
                  try clear c53
                  try clear c58
                  try clear c58b0
                  try clear c58b2
                  try clear c60
                  try clear c60b0
                  try clear c60b1
                  try clear c60b2
                  try clear c69
                  try clear c70
                  try clear c73
                  try clear c76
                  try clear hcz20_0
                  try clear hcz20_1
                  try clear hcz20_2
                  try clear hcz27_0
                  try clear hcz27_1
                  try clear hcz27_2
                  try clear hcz29_0
                  try clear hcz29_1
                  try clear hcz29_2
                  try clear hcz45_0
                  try clear hcz45_1
                  try clear hcz45_2
                  try clear hcz46_0
                  try clear hcz46_1
                  try clear hcz46_2
                  try clear hcz54_0
                  try clear hcz54_1
                  try clear hcz54_2
                  try clear hcz56_0
                  try clear hcz56_1
                  try clear hcz56_2
                  try clear hcz71_0
                  try clear hcz71_1
                  try clear hcz71_2
                  try clear hcz74_0
                  try clear hcz74_1
                  try clear hcz74_2
                  try clear hfz20_0
                  try clear hfz20_1
                  try clear hfz20_2
                  try clear hfz27_0
                  try clear hfz27_1
                  try clear hfz27_2
                  try clear hfz29_0
                  try clear hfz29_1
                  try clear hfz29_2
                  try clear hfz45_0
                  try clear hfz45_1
                  try clear hfz45_2
                  try clear hfz46_0
                  try clear hfz46_1
                  try clear hfz46_2
                  try clear hfz54_0
                  try clear hfz54_1
                  try clear hfz54_2
                  try clear hfz56_0
                  try clear hfz56_1
                  try clear hfz56_2
                  try clear hfz71_0
                  try clear hfz71_1
                  try clear hfz71_2
                  try clear hfz74_0
                  try clear hfz74_1
                  try clear hfz74_2
                  try clear p2
                  obtain ⟨kq, HA, HJ63, HO_111002, HO_120002, HO_140002, BK110, BK119, BK139, HB⟩ := hcut
                  cases kq with
                  | zero => exact absurd HA.out (by simp [laws_FnExactDeleteZ.j8])
                  | succ kj63 =>
                   have H := HA.out
                   clear HA
                   simp only [laws_FnExactDeleteZ.j8] at H
                   replace H := Option.bind_eq_some_iff.mp H
                   obtain ⟨t141, A770, H⟩ := H
                   replace H : (if t141 < 0 then (some false) else (if t141 = t128 then (some true) else (some false))) = some r := H
                   have A77 := aa A770
                   clear A770
                   by_cases c78 : t141 < 0
                   ·
                    rw [if_pos c78] at H
                    have c78b0 : decide (t141 < 0) = true := decide_eq_true c78
                    clear c78
                    obtain rfl := Option.some.inj H
                    have hnb79 := NB119_110.out
                    have hnc79 := NB110_119.out
                    have hnb80 := NB119_139.out
                    have hnc80 := NB139_119.out
                    have hcz81_0 : wc.cell? ⟨gb119, 0, none⟩ = some (.int .i64 t114) := (blk_cell BK119.out 0).trans rfl
                    have hcz81_1 : wc.cell? ⟨gb119, 1, none⟩ = some (.string t115) := (blk_cell BK119.out 1).trans rfl
                    have hcz81_2 : wc.cell? ⟨gb119, 2, none⟩ = some (.slice Ao28 t129.length co28) := (blk_cell BK119.out 2).trans rfl
                    have hfz81_0 := blk_frozen BK119.out 0
                    have hfz81_1 := blk_frozen BK119.out 1
                    have hfz81_2 := blk_frozen BK119.out 2
                    go_wp2_with (first | ((with_reducible refine gate_callee (f := 14) rfl ?_); refine goesL_ (some 76) rfl rfl Tryd.func14 (by kernel_rfl) rfl #[.agg #[.int .i64 t114, .string t115, .slice Ao28 t129.length co28], .int .i64 1] rfl zjnmae ?_; (with_reducible refine (laws_heldZResult.calls kj63 t114 t115 _ _ t129 1 t141 _ ?side1 ?side2 A77.out).mono ?_); (case side1 => exact zfgpom); (case side2 => exact zfljdm); rintro e w82 ⟨rfl, hb⟩; refine ⟨_, rfl, ?_⟩; have n0_ := aa (Kd.R_below (zcaken HO_111002.out) hb); have n1_ := aa (Kd.R_below (zcaken HO_120002.out) hb); have n2_ := aa (Kd.R_below (zcaken HO_140002.out) hb); have n3_ := aa (blk_below (g := gb110) (o := .cells #[.int .i64 t105, .string t106, .slice Ao21 t107.length co21] 26 (0, 0)) (zkjhpm BK110.out) hb); have n4_ := aa (blk_below (g := gb119) (o := .cells #[.int .i64 t114, .string t115, .slice Ao28 t129.length co28] 26 (0, 0)) (zkjhpm BK119.out) hb); have n5_ := aa (blk_below (g := gb139) (o := .cells #[.int .i64 t134, .string t135, .slice Ao72 t136.length co72] 26 (0, 0)) (zkjhpm BK139.out) hb); have n6_ := aa (below_step zmkblp hb); clear HO_111002; clear HO_120002; clear HO_140002; clear BK110; clear BK119; clear BK139; clear HB; have HO_111002 := n0_; have HO_120002 := n1_; have HO_140002 := n2_; have BK110 := n3_; have BK119 := n4_; have BK139 := n5_; have HB := n6_; clear n0_ n1_ n2_ n3_ n4_ n5_ n6_; (try clear hb); (try clear hb2); (try clear hk); (try clear hi)))
                    go_ret
                    exact ⟨by first | rfl | (simp [errW_none, errW_some] <;> rfl) | (simp [*, errW_none, errW_some] <;> rfl), by repeat (first | (with_reducible first | exact HB.out | apply below_alloc | apply pw_below_drewN | apply below_drew1 | refine below_set ?_ GE110.out | refine below_set ?_ GE119.out | refine below_set ?_ GE139.out) | exact HB.out)⟩
                   ·
                    rw [if_neg c78] at H
                    have c78b0 : decide (t141 < 0) = false := decide_eq_false c78
                    clear c78
                    by_cases c83 : t141 = t128
                    ·
                     rw [if_pos c83] at H
                     have c83b0 : (t141 == t128) = true := beq_iff_eq.mpr c83
                     have c83b1 : (t141 != t128) = false := bne_eq_false_iff_eq.mpr c83
                     clear c83
                     obtain rfl := Option.some.inj H
                     have hnb84 := NB119_110.out
                     have hnc84 := NB110_119.out
                     have hnb85 := NB119_139.out
                     have hnc85 := NB139_119.out
                     have hcz86_0 : wc.cell? ⟨gb119, 0, none⟩ = some (.int .i64 t114) := (blk_cell BK119.out 0).trans rfl
                     have hcz86_1 : wc.cell? ⟨gb119, 1, none⟩ = some (.string t115) := (blk_cell BK119.out 1).trans rfl
                     have hcz86_2 : wc.cell? ⟨gb119, 2, none⟩ = some (.slice Ao28 t129.length co28) := (blk_cell BK119.out 2).trans rfl
                     have hfz86_0 := blk_frozen BK119.out 0
                     have hfz86_1 := blk_frozen BK119.out 1
                     have hfz86_2 := blk_frozen BK119.out 2
                     go_wp2_with (first | ((with_reducible refine gate_callee (f := 14) rfl ?_); refine goesL_ (some 76) rfl rfl Tryd.func14 (by kernel_rfl) rfl #[.agg #[.int .i64 t114, .string t115, .slice Ao28 t129.length co28], .int .i64 1] rfl zjnmae ?_; (with_reducible refine (laws_heldZResult.calls kj63 t114 t115 _ _ t129 1 t141 _ ?side1 ?side2 A77.out).mono ?_); (case side1 => exact zfgpom); (case side2 => exact zfljdm); rintro e w87 ⟨rfl, hb⟩; refine ⟨_, rfl, ?_⟩; have n0_ := aa (Kd.R_below (zcaken HO_111002.out) hb); have n1_ := aa (Kd.R_below (zcaken HO_120002.out) hb); have n2_ := aa (Kd.R_below (zcaken HO_140002.out) hb); have n3_ := aa (blk_below (g := gb110) (o := .cells #[.int .i64 t105, .string t106, .slice Ao21 t107.length co21] 26 (0, 0)) (zkjhpm BK110.out) hb); have n4_ := aa (blk_below (g := gb119) (o := .cells #[.int .i64 t114, .string t115, .slice Ao28 t129.length co28] 26 (0, 0)) (zkjhpm BK119.out) hb); have n5_ := aa (blk_below (g := gb139) (o := .cells #[.int .i64 t134, .string t135, .slice Ao72 t136.length co72] 26 (0, 0)) (zkjhpm BK139.out) hb); have n6_ := aa (below_step zmkblp hb); clear HO_111002; clear HO_120002; clear HO_140002; clear BK110; clear BK119; clear BK139; clear HB; have HO_111002 := n0_; have HO_120002 := n1_; have HO_140002 := n2_; have BK110 := n3_; have BK119 := n4_; have BK139 := n5_; have HB := n6_; clear n0_ n1_ n2_ n3_ n4_ n5_ n6_; (try clear hb); (try clear hb2); (try clear hk); (try clear hi)))
                     go_ret
                     exact ⟨by first | rfl | (simp [errW_none, errW_some] <;> rfl) | (simp [*, errW_none, errW_some] <;> rfl), by repeat (first | (with_reducible first | exact HB.out | apply below_alloc | apply pw_below_drewN | apply below_drew1 | refine below_set ?_ GE110.out | refine below_set ?_ GE119.out | refine below_set ?_ GE139.out) | exact HB.out)⟩
                    ·
                     rw [if_neg c83] at H
                     have c83b0 : (t141 == t128) = false := beq_eq_false_iff_ne.mpr c83
                     have c83b1 : (t141 != t128) = true := bne_iff_ne.mpr c83
                     obtain rfl := Option.some.inj H
                     have hnb88 := NB119_110.out
                     have hnc88 := NB110_119.out
                     have hnb89 := NB119_139.out
                     have hnc89 := NB139_119.out
                     have hcz90_0 : wc.cell? ⟨gb119, 0, none⟩ = some (.int .i64 t114) := (blk_cell BK119.out 0).trans rfl
                     have hcz90_1 : wc.cell? ⟨gb119, 1, none⟩ = some (.string t115) := (blk_cell BK119.out 1).trans rfl
                     have hcz90_2 : wc.cell? ⟨gb119, 2, none⟩ = some (.slice Ao28 t129.length co28) := (blk_cell BK119.out 2).trans rfl
                     have hfz90_0 := blk_frozen BK119.out 0
                     have hfz90_1 := blk_frozen BK119.out 1
                     have hfz90_2 := blk_frozen BK119.out 2
                     go_wp2_with (first | ((with_reducible refine gate_callee (f := 14) rfl ?_); refine goesL_ (some 76) rfl rfl Tryd.func14 (by kernel_rfl) rfl #[.agg #[.int .i64 t114, .string t115, .slice Ao28 t129.length co28], .int .i64 1] rfl zjnmae ?_; (with_reducible refine (laws_heldZResult.calls kj63 t114 t115 _ _ t129 1 t141 _ ?side1 ?side2 A77.out).mono ?_); (case side1 => exact zfgpom); (case side2 => exact zfljdm); rintro e w91 ⟨rfl, hb⟩; refine ⟨_, rfl, ?_⟩; have n0_ := aa (Kd.R_below (zcaken HO_111002.out) hb); have n1_ := aa (Kd.R_below (zcaken HO_120002.out) hb); have n2_ := aa (Kd.R_below (zcaken HO_140002.out) hb); have n3_ := aa (blk_below (g := gb110) (o := .cells #[.int .i64 t105, .string t106, .slice Ao21 t107.length co21] 26 (0, 0)) (zkjhpm BK110.out) hb); have n4_ := aa (blk_below (g := gb119) (o := .cells #[.int .i64 t114, .string t115, .slice Ao28 t129.length co28] 26 (0, 0)) (zkjhpm BK119.out) hb); have n5_ := aa (blk_below (g := gb139) (o := .cells #[.int .i64 t134, .string t135, .slice Ao72 t136.length co72] 26 (0, 0)) (zkjhpm BK139.out) hb); have n6_ := aa (below_step zmkblp hb); clear HO_111002; clear HO_120002; clear HO_140002; clear BK110; clear BK119; clear BK139; clear HB; have HO_111002 := n0_; have HO_120002 := n1_; have HO_140002 := n2_; have BK110 := n3_; have BK119 := n4_; have BK139 := n5_; have HB := n6_; clear n0_ n1_ n2_ n3_ n4_ n5_ n6_; (try clear hb); (try clear hb2); (try clear hk); (try clear hi)))
                     go_ret
                     exact ⟨by first | rfl | (simp [errW_none, errW_some] <;> rfl) | (simp [*, errW_none, errW_some] <;> rfl), by repeat (first | (with_reducible first | exact HB.out | apply below_alloc | apply pw_below_drewN | apply below_drew1 | refine below_set ?_ GE110.out | refine below_set ?_ GE119.out | refine below_set ?_ GE139.out) | exact HB.out)⟩

end Go.Proofs.YthdddcegopgopaaDoor.Qa

/- Arguments laid open: what a value of a type holds in memory, by the print's kinds; for every type that is met here. -/
namespace Go.Proofs.YthdddcegopgopaaDoor.Tro
open Go.ChangeShapes Go.WideShapes Go.RowKit Go.Deep Go.Proofs.YthdddcegopgopaaDoorW.PrintWords

/-- What can be read as data of type T holds a value of this kind, of which 'good' is so. -/
def Tr {α : Type} (P : Program) (k : Kd α) (T : TypeId) (good : α → Prop) : Prop :=
  ∀ {H : Type} (enc : TypeId × Value → H) (w : World) (fuel : Nat) (cs : List Value) (x : DataW H × List MemPlace), DataW.trod enc P w 0 (fun _ => true) true fuel T cs = some x → ∃ a : α, k.K w a cs ∧ good a
theorem tr_int {P : Program} {T : TypeId} {k : IntKind} (h : P.underlying T = some (.int k)) : Tr P (Kd.int k) T (fun a => (Lit.int k a).wf = true) := by
  intro H enc w fuel cs x hx
  obtain ⟨n, rfl, _, hw⟩ := DataW.trod_int h hx
  exact ⟨n, rfl, hw⟩
theorem tr_bool {P : Program} {T : TypeId} (h : P.underlying T = some .bool) : Tr P Kd.bool T (fun _ => True) := by
  intro H enc w fuel cs x hx
  obtain ⟨b, rfl, _⟩ := DataW.trod_bool h hx
  exact ⟨b, rfl, trivial⟩
theorem tr_string {P : Program} {T : TypeId} (h : P.underlying T = some .string) : Tr P Kd.string T (fun s => s.size ≤ 9223372036854775807) := by
  intro H enc w fuel cs x hx
  obtain ⟨s, rfl, _, hs⟩ := DataW.trod_string h hx
  exact ⟨s, rfl, hs⟩
theorem choose_list {α : Type} {p : Nat → α → Prop} : ∀ n : Nat, (∀ i, i < n → ∃ a, p i a) → ∃ xs : List α, xs.length = n ∧ ∀ i a, xs[i]? = some a → p i a
  | 0, _ => ⟨[], rfl, fun i a h => by simp at h⟩
  | n + 1, h => by
    obtain ⟨xs, hl, hx⟩ := choose_list n (fun i hi => h i (by omega))
    obtain ⟨a, ha⟩ := h n (by omega)
    refine ⟨xs ++ [a], by simp [hl], fun i b hb => ?_⟩
    rcases Nat.lt_or_ge i xs.length with hi | hi
    · rw [List.getElem?_append_left hi] at hb
      exact hx i b hb
    · rw [List.getElem?_append_right hi] at hb
      have hi' : i = xs.length := by
        rcases Nat.eq_or_lt_of_le hi with e | e
        · exact e.symm
        · rw [List.getElem?_eq_none (by simp; omega)] at hb
          cases hb
      subst hi'
      rw [Nat.sub_self] at hb
      cases hb
      rw [hl]
      exact ha
theorem tr_slice {α : Type} {P : Program} {T e : TypeId} {d : Kd α} {good : α → Prop} (h : P.underlying T = some (.slice e)) (hz : d.sz = P.cellsOf e) (he : Tr P d e good) :
    Tr P (Kd.slice e d) T (fun xs => xs.length ≤ 9223372036854775807 ∧ ∀ x ∈ xs, good x) := by
  intro H enc w fuel cs x hx
  rcases open_slice h hx with ⟨rfl, _⟩ | ⟨a, len, cap, m, n, D, Pl, rfl, _, hl, hm, hmm, _, hi⟩
  · exact ⟨[], ⟨none, 0, rfl, Nat.le_refl _, rfl, Nat.zero_le _, fun h0 => absurd h0 (Nat.lt_irrefl 0)⟩, Nat.zero_le _, fun x hx => by simp at hx⟩
  · have hmc : m = cap := by simpa using hmm
    have hcap : cap ≤ 9223372036854775807 := hm
    obtain ⟨xs, hxl, hxs⟩ := choose_list (p := fun i b => (∃ c, c.length = d.sz ∧ d.K w b c ∧ ∀ j u, c[j]? = some u → w.cell? (a.add (i * d.sz + j)) = some u) ∧ good b) len (fun i hil => by
      obtain ⟨cs', hc, ht⟩ := hi i (by omega)
      obtain ⟨b, hb, hg⟩ := he enc w n cs' _ ht
      refine ⟨b, ⟨cs', d.K_len hb, hb, fun j u hu => ?_⟩, hg⟩
      obtain ⟨_, hcl, hat⟩ := World.cells?_some hc
      have hj : j < P.cellsOf e := by rw [← hcl]; exact (List.getElem?_eq_some_iff.1 hu).1
      have := hat j hj
      rw [hz, ← Go.Deep.add_add, this, hu])
    refine ⟨xs, ⟨some a, cap, by rw [hxl], by omega, rfl, by omega, fun _ => ⟨a, rfl, fun j p hp => (hxs j p hp).1⟩⟩, by omega, fun b hb => ?_⟩
    obtain ⟨i, hil, he⟩ := List.getElem_of_mem hb
    exact (hxs i b (by rw [← he]; exact List.getElem?_eq_getElem hil)).2
end Go.Proofs.YthdddcegopgopaaDoor.Tro

-- By gp.py (wip/gen of the work's repo), a program of this workplace over the kit's print: Lean checks it.
namespace Go.Proofs.YthdddcegopgopaaDoor.Qa
open Go.RowKit Go.Proofs.YthdddcegopgopaaDoorW.PrintWords Go.Proofs.YthdddcegopgopaaDoorW.PrintLast Go.Proofs.YthdddcegopgopaaDoorW.PrintMore Go.ChangeShapes Go.WideShapes Go.Proofs.YthdddcegopgopaaDoor.Tro
attribute [local go_sem] max2_int min2_int max_two min_two max_three min_three max_four min_four   -- for this text's walks alone
set_option linter.unusedVariables false
set_option linter.unusedSimpArgs false

def g44 (x_ : S44) : Prop := (x_.f0.size ≤ 9223372036854775807) ∧ ((Lit.int .i64 x_.f1).wf = true) ∧ ((Lit.int .i64 x_.f2).wf = true) ∧ ((Lit.int .i64 x_.f3).wf = true) ∧ ((Lit.int .i64 x_.f4).wf = true)
set_option maxRecDepth 100000 in
theorem tr44 : Tr Tryd.prog k44 44 g44 := by
  intro H enc w fuel cs x hx
  obtain ⟨ys, n, _, _, hlen, hyl, hf⟩ := DataW.trod_struct Tryd.underlying44 hx
  have hl : cs.length = 5 := hlen.trans (by kernel_rfl)
  have hy : ys.length = 5 := hyl
  clear hlen hyl hx
  match cs, hl with
  | [c0, c1, c2, c3, c4], _ =>
    have q0 : DataW.trod enc Tryd.prog w 0 (fun _ => true) true n 9 ((([c0, c1, c2, c3, c4] : List Value).drop 0).take (Tryd.prog.cellsOf 9)) = ys[0]? := hf 0 _ rfl
    rw [show Tryd.prog.cellsOf 9 = 1 from by kernel_rfl] at q0
    rw [List.getElem?_eq_getElem (show 0 < ys.length by omega)] at q0
    obtain ⟨a0, h0, g0⟩ := (tr_string Tryd.underlying9) enc w n [c0] _ q0
    have q1 : DataW.trod enc Tryd.prog w 0 (fun _ => true) true n 2 ((([c0, c1, c2, c3, c4] : List Value).drop 1).take (Tryd.prog.cellsOf 2)) = ys[1]? := hf 1 _ rfl
    rw [show Tryd.prog.cellsOf 2 = 1 from by kernel_rfl] at q1
    rw [List.getElem?_eq_getElem (show 1 < ys.length by omega)] at q1
    obtain ⟨a1, h1, g1⟩ := (tr_int Tryd.underlying2) enc w n [c1] _ q1
    have q2 : DataW.trod enc Tryd.prog w 0 (fun _ => true) true n 2 ((([c0, c1, c2, c3, c4] : List Value).drop 2).take (Tryd.prog.cellsOf 2)) = ys[2]? := hf 2 _ rfl
    rw [show Tryd.prog.cellsOf 2 = 1 from by kernel_rfl] at q2
    rw [List.getElem?_eq_getElem (show 2 < ys.length by omega)] at q2
    obtain ⟨a2, h2, g2⟩ := (tr_int Tryd.underlying2) enc w n [c2] _ q2
    have q3 : DataW.trod enc Tryd.prog w 0 (fun _ => true) true n 2 ((([c0, c1, c2, c3, c4] : List Value).drop 3).take (Tryd.prog.cellsOf 2)) = ys[3]? := hf 3 _ rfl
    rw [show Tryd.prog.cellsOf 2 = 1 from by kernel_rfl] at q3
    rw [List.getElem?_eq_getElem (show 3 < ys.length by omega)] at q3
    obtain ⟨a3, h3, g3⟩ := (tr_int Tryd.underlying2) enc w n [c3] _ q3
    have q4 : DataW.trod enc Tryd.prog w 0 (fun _ => true) true n 2 ((([c0, c1, c2, c3, c4] : List Value).drop 4).take (Tryd.prog.cellsOf 2)) = ys[4]? := hf 4 _ rfl
    rw [show Tryd.prog.cellsOf 2 = 1 from by kernel_rfl] at q4
    rw [List.getElem?_eq_getElem (show 4 < ys.length by omega)] at q4
    obtain ⟨a4, h4, g4⟩ := (tr_int Tryd.underlying2) enc w n [c4] _ q4
    exact ⟨⟨a0, a1, a2, a3, a4⟩, ⟨[c0], [c1, c2, c3, c4], rfl, h0, ⟨[c1], [c2, c3, c4], rfl, h1, ⟨[c2], [c3, c4], rfl, h2, ⟨[c3], [c4], rfl, h3, h4⟩⟩⟩⟩, ⟨g0, g1, g2, g3, g4⟩⟩
end Go.Proofs.YthdddcegopgopaaDoor.Qa

/- Small laws of the pure side: what ends, step by step; whole numbers; lists by places. -/
namespace Go.Proofs.YthdddcegopgopaaDoor.Aid
open Go.RowKit Go.Proofs.YthdddcegopgopaaDoorW.PrintWords

theorem wrap_id {x : Int} (h0 : -9223372036854775808 ≤ x) (h1 : x ≤ 9223372036854775807) : wrap64 x = x := by
  unfold wrap64
  omega
theorem wrap_up {i n : Nat} (h : i < n) (hn : n ≤ 4611686018427387904) : wrap64 ((i : Int) + 1) = ((i + 1 : Nat) : Int) := by
  rw [wrap_id (by omega) (by omega)]
  omega
theorem wf_lo {x : Int} (h : (Lit.int .i64 x).wf = true) : -9223372036854775808 ≤ x ∧ x ≤ 9223372036854775807 := by
  have h' : (decide (IntKind.i64.min ≤ x) && decide (x ≤ IntKind.i64.max)) = true := h
  simp only [Bool.and_eq_true, decide_eq_true_eq] at h'
  exact h'
/-- One round, then what is known of the rest. -/
theorem ev_step {α : Type} {g : Nat → Option α} (f : Nat → Option α) {r : α} (h : ∀ k, g (k + 1) = f k) (k : Ev f r) : Ev g r := Ev.step h k
theorem ev_done {α : Type} {g : Nat → Option α} {r : α} (h : ∀ k, g (k + 1) = some r) : Ev g r := Ev.step h (Ev.now r)
theorem ev_is {α : Type} {g : Nat → Option α} {r : α} (h : ∀ k, g k = some r) : Ev g r := ⟨0, fun k _ => h k⟩
/-- A call whose answer is known, then the rest. -/
theorem ev_call {α β : Type} {g : Nat → Option α} {f : Nat → α → Option β} {a : α} {r : β} (h : Ev g a) (k : Ev (fun n => f n a) r) : Ev (fun n => (g n).bind (f n)) r := Ev.bind h k
theorem ev_cong {α : Type} {g f : Nat → Option α} {r : α} (h : ∀ k, g k = f k) (k : Ev f r) : Ev g r := Ev.congr h k
theorem rd_at {l : List Int} {i : Nat} (h : i < l.length) : rd l (i : Int) = l[i] := by
  unfold rd
  rw [Int.toNat_natCast, List.getD_eq_getElem?_getD, List.getElem?_eq_getElem h]
  rfl
theorem drop_at {α : Type} {l : List α} {i : Nat} (h : i < l.length) : l.drop i = l[i] :: l.drop (i + 1) := List.drop_eq_getElem_cons h
theorem drop_end {α : Type} {l : List α} {i : Nat} (h : l.length ≤ i) : l.drop i = [] := List.drop_eq_nil_of_le h
theorem rd_set_at {l : List Int} {i : Nat} {v : Int} (h : i < l.length) : rd (l.set i v) (i : Int) = v := by
  rw [rd_at (by simpa using h)]
  simp
theorem rdOf_at {α : Type} {z : α} {l : List α} {i : Nat} (h : i < l.length) : rdOf z l (i : Int) = l[i] := by
  unfold rdOf
  rw [Int.toNat_natCast, List.getD_eq_getElem?_getD, List.getElem?_eq_getElem h]
  rfl
theorem rdOf_set_at {α : Type} {z : α} {l : List α} {i : Nat} {v : α} (h : i < l.length) : rdOf z (l.set i v) (i : Int) = v := by
  rw [rdOf_at (by simpa using h)]
  simp
theorem take_set_snoc {α : Type} {l : List α} {i : Nat} {v : α} (h : i < l.length) : (l.set i v).take (i + 1) = l.take i ++ [v] := by
  rw [List.take_succ_eq_append_getElem (by simpa using h), List.take_set_of_le (Nat.le_refl i)]
  simp
theorem take_set_next {α : Type} {m L : List α} {i : Nat} {v : α} (h : i < m.length) (h' : i < L.length) (ht : m.take i = L.take i) (hv : L[i] = v) : (m.set i v).take (i + 1) = L.take (i + 1) := by
  rw [take_set_snoc h, List.take_succ_eq_append_getElem h', ht, hv]
theorem wr1_ (m : Int) (h0 : -9223372036854775808 ≤ m + 1) (h1 : m + 1 ≤ 9223372036854775807) : wrap64 (m + 1) = m + 1 := wrap_id h0 h1
theorem wrn_ (m j j1 : Int) (e : j + 1 = j1) (h0 : -9223372036854775808 ≤ m + j + 1) (h1 : m + j + 1 ≤ 9223372036854775807) : wrap64 (m + j + 1) = m + j1 := by
  rw [wrap_id h0 h1]
  omega
theorem size_strOfNums (xs : List Int) : (strOfNums xs).size = xs.length := by
  simp [strOfNums, ByteArray.size]
theorem tdiv_lt {x : Int} (h : 0 < x) : 0 ≤ Int.tdiv x 10 ∧ Int.tdiv x 10 + 1 ≤ x := by
  have : Int.tdiv x 10 = x / 10 := Int.tdiv_eq_ediv_of_nonneg (by omega)
  rw [this]
  omega
/-- Where what is so stands ahead of what is not: how many are so is the place. -/
theorem take_pos {α : Type} (p : α → Bool) (l : List α) (hm : l.Pairwise (fun x y => p y = true → p x = true)) : ∀ j (hj : j < l.length), p l[j] = true ↔ j < (l.takeWhile p).length := by
  induction l with
  | nil => intro j hj; simp at hj
  | cons x l ih =>
    intro j hj
    obtain ⟨h1, h2⟩ := List.pairwise_cons.1 hm
    cases hx : p x with
    | true =>
      rw [List.takeWhile_cons_of_pos hx]
      cases j with
      | zero => simp [hx]
      | succ j => simpa using ih h2 j (by simpa using hj)
    | false =>
      rw [List.takeWhile_cons_of_neg (by simp [hx])]
      cases j with
      | zero => simp [hx]
      | succ j =>
        have hj' : j < l.length := by simpa using hj
        have : p l[j] = true → False := fun h => by
          have := h1 l[j] (List.getElem_mem hj') h
          rw [hx] at this
          cases this
        simp
        exact Bool.eq_false_iff.2 this
theorem take_pos_le {α : Type} (p : α → Bool) (l : List α) : (l.takeWhile p).length ≤ l.length := (List.takeWhile_prefix p).length_le
theorem mid_eq {a b : Nat} (h : a + b ≤ 4611686018427387904) : wrap64 ((IntKind.u64.wrap (wrap64 ((a : Int) + (b : Int)))) / 2) = ((((a + b) / 2 : Nat)) : Int) := by
  have e : wrap64 ((a : Int) + (b : Int)) = ((a + b : Nat) : Int) := by rw [wrap_id (by omega) (by omega)]; omega
  have e2 : IntKind.u64.wrap (((a + b : Nat)) : Int) = ((a + b : Nat) : Int) := by
    have : IntKind.u64.wrap (((a + b : Nat)) : Int) = (((a + b : Nat)) : Int) % 18446744073709551616 := rfl
    rw [this]
    omega
  rw [e, e2, wrap_id (by omega) (by omega)]
  omega
end Go.Proofs.YthdddcegopgopaaDoor.Aid

-- By gp.py (wip/gen of the work's repo), a program of this workplace over the kit's print: Lean checks it.
namespace Go.Proofs.YthdddcegopgopaaDoor.Qa
open Go.RowKit Go.Proofs.YthdddcegopgopaaDoorW.PrintWords Go.Proofs.YthdddcegopgopaaDoorW.PrintLast Go.Proofs.YthdddcegopgopaaDoor.Aid
set_option linter.unusedVariables false
set_option linter.unusedSimpArgs false

theorem rd_T44_at {l : List (S44)} {i : Nat} (h : i < l.length) : rd_T44 l (i : Int) = l[i] := by
  unfold rd_T44
  rw [Int.toNat_natCast, List.getD_eq_getElem?_getD, List.getElem?_eq_getElem h]
  rfl
theorem rd_T44_set {l : List (S44)} {i : Nat} {v : S44} (h : i < l.length) : rd_T44 (l.set i v) (i : Int) = v := by
  rw [rd_T44_at (by simpa using h)]
  simp
theorem rd_T47_at {l : List (S47)} {i : Nat} (h : i < l.length) : rd_T47 l (i : Int) = l[i] := by
  unfold rd_T47
  rw [Int.toNat_natCast, List.getD_eq_getElem?_getD, List.getElem?_eq_getElem h]
  rfl
theorem rd_T47_set {l : List (S47)} {i : Nat} {v : S47} (h : i < l.length) : rd_T47 (l.set i v) (i : Int) = v := by
  rw [rd_T47_at (by simpa using h)]
  simp
end Go.Proofs.YthdddcegopgopaaDoor.Qa

-- By gp.py (wip/gen of the work's repo), a program of this workplace over the kit's print: Lean checks it.
namespace Go.Proofs.YthdddcegopgopaaDoor.Qa
open Go.RowKit Go.Proofs.YthdddcegopgopaaDoorW.PrintWords Go.Proofs.YthdddcegopgopaaDoorW.PrintLast Go.Proofs.YthdddcegopgopaaDoor.Aid
set_option linter.unusedVariables false
set_option linter.unusedSimpArgs false

def cvZnode (x : S44) : S47 := (⟨x.f0, x.f1, x.f2, x.f3, x.f4⟩ : S47)
theorem laws_toZnode.is (x : S44) : laws_toZnode.f x.f0 x.f1 x.f2 x.f3 x.f4 = some (x.f0, x.f1, x.f2, x.f3, x.f4) := by
  rfl
theorem laws_eqZnode.is (x : S47) : laws_eqZnode.f x.f0 x.f1 x.f2 x.f3 x.f4 x.f0 x.f1 x.f2 x.f3 x.f4 = some true := by
  simp [laws_eqZnode.f]
theorem laws_szZnode.is (x : S44) (a : Int) (hx : x.f0.size ≤ 9223372036854775807) (h0 : 0 ≤ a) (h1 : a ≤ 1048576) : laws_szZnode.f x.f0 x.f1 x.f2 x.f3 x.f4 a = some (if a - (x.f0.size : Int) < 0 then -1 else a - (x.f0.size : Int)) := by
  unfold laws_szZnode.f
  rw [wrap_id (by omega) (by omega)]
  by_cases h : a - (x.f0.size : Int) < 0
  · rw [if_pos h, if_pos h]
  · rw [if_neg h, if_neg h]
theorem laws_szZnodeS.l0_ev (l : List (S44)) (hl : l.length ≤ 4611686018427387904) (hx : ∀ x ∈ l, x.f0.size ≤ 9223372036854775807) (d : Nat) : ∀ (i : Nat) (a : Int), i + d = l.length → 0 ≤ a → a ≤ 1048576 → ∃ r : Int, Ev (fun k => laws_szZnodeS.l0 k l a (i : Int)) r ∧ (0 ≤ r → r ≤ a ∧ ∀ x ∈ l.drop i, (x.f0.size : Int) ≤ a) := by
  induction d with
  | zero =>
    intro i a h h0 h1
    refine ⟨a, ev_done fun k => ?_, fun _ => ⟨Int.le_refl _, ?_⟩⟩
    · simp only [laws_szZnodeS.l0]; rw [if_neg (by omega)]
    · rw [drop_end (by omega)]; intro x hx; cases hx
  | succ d ih =>
    intro i a h h0 h1
    have hi : i < l.length := by omega
    have hxi := hx l[i] (List.getElem_mem hi)
    by_cases hn : a - (l[i].f0.size : Int) < 0
    · refine ⟨-1, ev_done fun k => ?_, by omega⟩
      simp only [laws_szZnodeS.l0]; rw [if_pos (by omega), if_pos (by omega), rd_T44_at hi, laws_szZnode.is _ _ hxi h0 h1, if_pos hn]; simp only [Option.bind_some]; rw [if_pos (by omega)]
    · obtain ⟨r, hr, hq⟩ := ih (i + 1) (a - (l[i].f0.size : Int)) (by omega) (by omega) (by omega)
      refine ⟨r, ev_step (fun k => laws_szZnodeS.l0 k l (a - (l[i].f0.size : Int)) ((i + 1 : Nat) : Int)) (fun k => ?_) hr, fun hr0 => ?_⟩
      · simp only [laws_szZnodeS.l0]; rw [if_pos (by omega), if_pos (by omega), rd_T44_at hi, laws_szZnode.is _ _ hxi h0 h1, if_neg hn]; simp only [Option.bind_some]; rw [if_neg (by omega), wrap_up hi hl]
      · obtain ⟨h2, h3⟩ := hq hr0
        refine ⟨by omega, fun x hx' => ?_⟩
        rw [drop_at hi] at hx'
        rcases List.mem_cons.1 hx' with rfl | hx'
        · omega
        · have := h3 x hx'; omega
theorem laws_szZnodeS.ev (l : List (S44)) (a : Int) (hl : l.length ≤ 9223372036854775807) (hx : ∀ x ∈ l, x.f0.size ≤ 9223372036854775807) (h0 : 0 ≤ a) (h1 : a ≤ 1048576) : ∃ r : Int, Ev (fun k => laws_szZnodeS.f k l a) r ∧ (0 ≤ r → r ≤ a ∧ (l.length : Int) ≤ a ∧ ∀ x ∈ l, (x.f0.size : Int) ≤ a) := by
  unfold laws_szZnodeS.f
  by_cases h : a - (l.length : Int) < 0
  · refine ⟨-1, ev_is fun k => ?_, by omega⟩
    rw [wrap_id (by omega) (by omega), if_pos h]
  · obtain ⟨r, hr, hq⟩ := laws_szZnodeS.l0_ev l (by omega) hx l.length 0 (a - (l.length : Int)) (by omega) (by omega) (by omega)
    refine ⟨r, ev_cong (fun k => ?_) hr, fun hr0 => ?_⟩
    · rw [wrap_id (by omega) (by omega), if_neg h]; rfl
    · obtain ⟨h2, h3⟩ := hq hr0
      rw [List.drop_zero] at h3
      exact ⟨by omega, by omega, fun x hx' => by have := h3 x hx'; omega⟩
theorem laws_toZnodeS.l0_ev (l : List (S44)) (hl : l.length ≤ 4611686018427387904) (d : Nat) : ∀ (i : Nat) (m : List (S47)), i + d = l.length → m.length = l.length → m.take i = (l.map cvZnode).take i → Ev (fun k => laws_toZnodeS.l0 k l m (i : Int)) (l.map cvZnode) := by
  induction d with
  | zero =>
    intro i m h hm ht
    have e : m = (l.map cvZnode) := by rw [List.take_of_length_le (by omega), List.take_of_length_le (by rw [List.length_map]; omega)] at ht; exact ht
    exact ev_done fun k => by simp only [laws_toZnodeS.l0]; rw [if_neg (by omega), e]
  | succ d ih =>
    intro i m h hm ht
    have hi : i < l.length := by omega
    have hi' : i < (l.map cvZnode).length := by rw [List.length_map]; omega
    have hv : (l.map cvZnode)[i] = (cvZnode l[i]) := by rw [List.getElem_map]
    refine ev_step (fun k => laws_toZnodeS.l0 k l (m.set i (cvZnode l[i])) ((i + 1 : Nat) : Int)) (fun k => ?_) (ih (i + 1) (m.set i (cvZnode l[i])) (by omega) (by rw [List.length_set]; exact hm) ?_)
    · simp only [laws_toZnodeS.l0]; rw [if_pos (by omega), if_pos (by omega), rd_T44_at hi, laws_toZnode.is]; simp only [Option.bind_some]; rw [if_pos (by omega), wrap_up hi hl, Int.toNat_natCast]; rfl
    · exact take_set_next (by omega) hi' ht hv
theorem laws_toZnodeS.ev (l : List (S44)) (hl : l.length ≤ 1048576) : Ev (fun k => laws_toZnodeS.f k l) (l.map cvZnode) := by
  unfold laws_toZnodeS.f
  refine ev_cong (f := fun k => laws_toZnodeS.l0 k l (List.replicate l.length z47) ((0 : Nat) : Int)) (fun k => ?_) (laws_toZnodeS.l0_ev l (by omega) l.length 0 _ (by omega) (by simp) (by simp))
  rw [if_pos (by omega), if_pos (by rw [Int.toNat_natCast]; omega), Int.toNat_natCast]; rfl
theorem laws_eqZnodeS.l0_ev (l : List (S47)) (hl : l.length ≤ 4611686018427387904) (d : Nat) : ∀ (i : Nat), i + d = l.length → Ev (fun k => laws_eqZnodeS.l0 k l l (i : Int)) true := by
  induction d with
  | zero => exact fun i h => ev_done fun k => by simp only [laws_eqZnodeS.l0]; rw [if_neg (by omega)]
  | succ d ih =>
    intro i h
    have hi : i < l.length := by omega
    refine ev_step (fun k => laws_eqZnodeS.l0 k l l ((i + 1 : Nat) : Int)) (fun k => ?_) (ih (i + 1) (by omega))
    simp only [laws_eqZnodeS.l0]; rw [if_pos (by omega), if_pos (by omega), if_pos (by omega), laws_eqZnode.is, Option.bind_some, if_pos rfl, wrap_up hi hl]
theorem laws_eqZnodeS.ev (l : List (S47)) (hl : l.length ≤ 4611686018427387904) : Ev (fun k => laws_eqZnodeS.f k l l) true := by
  unfold laws_eqZnodeS.f
  exact ev_cong (fun k => if_pos rfl) (laws_eqZnodeS.l0_ev l hl l.length 0 (by omega))
end Go.Proofs.YthdddcegopgopaaDoor.Qa

-- By gp.py (wip/gen of the work's repo), a program of this workplace over the kit's print: Lean checks it.
namespace Go.Proofs.YthdddcegopgopaaDoor.Qa
open Go.RowKit Go.Proofs.YthdddcegopgopaaDoorW.PrintWords Go.Proofs.YthdddcegopgopaaDoorW.PrintLast Go.Proofs.YthdddcegopgopaaDoor.Aid
set_option linter.unusedVariables false
set_option linter.unusedSimpArgs false

theorem markText_l0 (d : Nat) : ∀ (x : Int) (s : ByteArray), 0 ≤ x → x ≤ d → (s.size : Int) + x ≤ 1152921504606846976 → ∃ t, Ev (fun k => laws_markText.l0 k x s) t := by
  induction d with
  | zero =>
    intro x s h0 h1 hs
    refine ⟨(⟨#[109]⟩ : ByteArray) ++ s, ev_done fun k => ?_⟩
    simp only [laws_markText.l0]; rw [if_neg (by omega), if_pos (by omega)]
  | succ d ih =>
    intro x s h0 h1 hs
    by_cases hx : x > 0
    · have hd := tdiv_lt hx
      obtain ⟨t, ht⟩ := ih (Int.tdiv x 10) (strOfNums [(wrap64 (48 + (Int.tmod x 10))) % 256] ++ s) hd.1 (by omega) (by rw [ByteArray.size_append, size_strOfNums]; simp; omega)
      refine ⟨t, ev_step (fun k => laws_markText.l0 k (Int.tdiv x 10) (strOfNums [(wrap64 (48 + (Int.tmod x 10))) % 256] ++ s)) (fun k => ?_) ht⟩
      simp only [laws_markText.l0]; rw [if_pos hx]; simp only [Option.bind_some]; rw [if_pos (by rw [size_strOfNums]; simp; omega), wrap_id (by omega) (by omega)]
    · refine ⟨(⟨#[109]⟩ : ByteArray) ++ s, ev_done fun k => ?_⟩
      simp only [laws_markText.l0]; rw [if_neg hx, if_pos (by omega)]
theorem markText_ex (m : Int) (h0 : 0 ≤ m) (h1 : m ≤ 1152921504606846976) : ∃ t, Ev (fun k => laws_markText.f k m) t := by
  unfold laws_markText.f
  by_cases h : m ≤ 0
  · exact ⟨_, ev_is fun k => if_pos h⟩
  · obtain ⟨t, ht⟩ := markText_l0 m.toNat m (⟨#[]⟩ : ByteArray) h0 (by omega) (by simp [ByteArray.size]; omega)
    exact ⟨t, ev_cong (fun k => if_neg h) ht⟩
open Classical in
/-- The text of a count. -/
noncomputable def mkText (m : Int) : ByteArray := if h : ∃ t, Ev (fun k => laws_markText.f k m) t then h.choose else ⟨#[]⟩
theorem mkText_ev (m : Int) (h0 : 0 ≤ m) (h1 : m ≤ 1152921504606846976) : Ev (fun k => laws_markText.f k m) (mkText m) := by
  have h := markText_ex m h0 h1
  unfold mkText
  rw [dif_pos h]
  exact h.choose_spec
end Go.Proofs.YthdddcegopgopaaDoor.Qa

-- By gp.py (wip/gen of the work's repo), a program of this workplace over the kit's print: Lean checks it.
namespace Go.Proofs.YthdddcegopgopaaDoor.Qa
open Go.RowKit Go.Proofs.YthdddcegopgopaaDoorW.PrintWords Go.Proofs.YthdddcegopgopaaDoorW.PrintLast Go.Proofs.YthdddcegopgopaaDoor.Aid
set_option linter.unusedVariables false
set_option linter.unusedSimpArgs false

noncomputable def mkZnodeS (m : Int) : S47 := (⟨(mkText m), (m + 1), (m + 2), (m + 3), (m + 4)⟩ : S47)
noncomputable def rowZnodeS : Nat → Int → List (S47)
  | 0, _ => []
  | d + 1, m => mkZnodeS m :: rowZnodeS d (m + 5)
theorem laws_markZnodeS.l0_ev (d : Nat) : ∀ (i : Nat) (l : List (S47)) (m : Int), i + d = l.length → l.length ≤ 1048576000 → 0 ≤ m → m + 5 * d ≤ 1152921504606846976 → Ev (fun k => laws_markZnodeS.l0 k l m (i : Int)) (m + 5 * d, l.take i ++ rowZnodeS d m) := by
  induction d with
  | zero =>
    intro i l m h hl h0 hb
    refine ev_done fun k => ?_
    simp only [laws_markZnodeS.l0]; rw [if_neg (by omega), List.take_of_length_le (by omega)]; simp [rowZnodeS]
  | succ d ih =>
    intro i l m h hl h0 hb
    have hi : i < l.length := by omega
    have e1 : m + 5 * ((d + 1 : Nat) : Int) = (m + 5) + 5 * (d : Int) := by omega
    have e2 : l.take i ++ rowZnodeS (d + 1) m = (l.set i (mkZnodeS m)).take (i + 1) ++ rowZnodeS d (m + 5) := by
      rw [take_set_snoc hi, List.append_assoc]; rfl
    rw [e1, e2]
    have IH := ih (i + 1) (l.set i (mkZnodeS m)) (m + 5) (by rw [List.length_set]; omega) (by rw [List.length_set]; exact hl) (by omega) (by omega)
    have hil : (i : Int) < (l.length : Int) := by omega
    have h0i : 0 ≤ (i : Int) := Int.natCast_nonneg i
    refine ev_step (fun k => (laws_markText.f k m).bind fun t => laws_markZnodeS.l0 k (l.set i ((⟨t, (m + 1), (m + 2), (m + 3), (m + 4)⟩ : S47))) (m + 5) ((i + 1 : Nat) : Int)) (fun k => ?_) (ev_call (mkText_ev m (by omega) (by omega)) IH)
    simp only [laws_markZnodeS.l0, wr1_ m (by omega) (by omega), wrn_ m 1 2 rfl (by omega) (by omega), wrn_ m 2 3 rfl (by omega) (by omega), wrn_ m 3 4 rfl (by omega) (by omega), wrn_ m 4 5 rfl (by omega) (by omega), Int.toNat_natCast, Option.bind_some, if_pos hil, if_pos h0i, wrap_up hi (show l.length ≤ 4611686018427387904 by omega), List.set_set, rd_T47_set hi]
theorem laws_markZnodeS.ev (l : List (S47)) (m : Int) (hl : l.length ≤ 1048576000) (h0 : 0 ≤ m) (hb : m ≤ 1000000000000) : Ev (fun k => laws_markZnodeS.f k l m) (m + 5 * l.length, rowZnodeS l.length m) := by
  have h := laws_markZnodeS.l0_ev l.length 0 l m (by omega) hl h0 (by omega)
  rw [List.take_zero, List.nil_append] at h
  exact h
theorem laws_heldZnodeS.l0_ev (d : Nat) : ∀ (i : Nat) (l : List (S47)) (m : Int), i + d = l.length → l.length ≤ 1048576000 → l.drop i = rowZnodeS d m → 0 ≤ m → m + 5 * d ≤ 1152921504606846976 → Ev (fun k => laws_heldZnodeS.l0 k l m (i : Int)) (m + 5 * d) := by
  induction d with
  | zero =>
    intro i l m h hl hr h0 hb
    refine ev_done fun k => ?_
    simp only [laws_heldZnodeS.l0]; rw [if_neg (by omega)]; simp
  | succ d ih =>
    intro i l m h hl hr h0 hb
    have hi : i < l.length := by omega
    have e1 : m + 5 * ((d + 1 : Nat) : Int) = (m + 5) + 5 * (d : Int) := by omega
    rw [drop_at hi] at hr
    obtain ⟨hx, hr⟩ := List.cons.inj hr
    rw [e1]
    have IH := ih (i + 1) l (m + 5) (by omega) hl hr (by omega) (by omega)
    have hil : (i : Int) < (l.length : Int) := by omega
    have h0i : 0 ≤ (i : Int) := Int.natCast_nonneg i
    refine ev_step (fun k => (laws_markText.f k m).bind fun t => if (mkText m).toList = t.toList then laws_heldZnodeS.l0 k l (m + 5) ((i + 1 : Nat) : Int) else some (-1)) (fun k => ?_) (ev_call (mkText_ev m (by omega) (by omega)) (ev_cong (fun k => if_pos rfl) IH))
    simp only [laws_heldZnodeS.l0, wr1_ m (by omega) (by omega), wrn_ m 1 2 rfl (by omega) (by omega), wrn_ m 2 3 rfl (by omega) (by omega), wrn_ m 3 4 rfl (by omega) (by omega), wrn_ m 4 5 rfl (by omega) (by omega), Int.toNat_natCast, Option.bind_some, if_pos hil, if_pos h0i, wrap_up hi (show l.length ≤ 4611686018427387904 by omega), rd_T47_at hi, hx, mkZnodeS]; simp
theorem laws_heldZnodeS.ev (n : Nat) (m : Int) (hl : n ≤ 1048576000) (h0 : 0 ≤ m) (hb : m ≤ 1000000000000) : Ev (fun k => laws_heldZnodeS.f k (rowZnodeS n m) m) (m + 5 * n) := by
  have hn : ∀ (n : Nat) (m : Int), (rowZnodeS n m).length = n := by
    intro n
    induction n with
    | zero => intro m; rfl
    | succ n ih => intro m; simp [rowZnodeS, ih]
  exact laws_heldZnodeS.l0_ev n 0 (rowZnodeS n m) m (by rw [hn]; omega) (by rw [hn]; exact hl) (by rw [List.drop_zero]) h0 (by omega)
end Go.Proofs.YthdddcegopgopaaDoor.Qa

/- A number within bounds, by the program and by the reference. -/
namespace Go.Proofs.YthdddcegopgopaaDoor.Pure
open Go.RowKit Go.Proofs.YthdddcegopgopaaDoor.Qa Go.Proofs.YthdddcegopgopaaDoorW.PrintWords Go.Proofs.YthdddcegopgopaaDoorW.PrintLast Go.Proofs.YthdddcegopgopaaDoor.Aid
theorem spec_l1In_is (a lo hi : Int) : spec_l1In.f a lo hi = some (decide (lo ≤ a ∧ a ≤ hi)) := by
  unfold spec_l1In.f
  by_cases h : lo ≤ a
  · rw [if_pos h]; simp [h]
  · rw [if_neg h]; simp [h]
theorem impl_within_is (a lo hi : Int) : impl_within.f a lo hi = some (decide (lo ≤ a ∧ a ≤ hi)) := by
  unfold impl_within.f
  by_cases h : lo ≤ a
  · rw [if_pos h]; simp [h]
  · rw [if_neg h]; simp [h]
end Go.Proofs.YthdddcegopgopaaDoor.Pure

/- Names: what is one, by the program and by the reference: the same, for every text. -/
namespace Go.Proofs.YthdddcegopgopaaDoor.Pure
open Go.RowKit Go.Proofs.YthdddcegopgopaaDoor.Qa Go.Proofs.YthdddcegopgopaaDoorW.PrintWords Go.Proofs.YthdddcegopgopaaDoorW.PrintLast Go.Proofs.YthdddcegopgopaaDoor.Aid

theorem bt_at {s : ByteArray} {i : Nat} (h : i < s.data.toList.length) : bt s (i : Int) = ((s.data.toList[i]).toNat : Int) := by
  have h' : (i : Int).toNat < s.size := by rw [Int.toNat_natCast]; exact h
  unfold bt
  rw [dif_pos h']
  rfl
theorem size_list (s : ByteArray) : s.size = s.data.toList.length := rfl
/-- A sign of a name. -/
def okU (c : UInt8) : Bool := (decide (97 ≤ c.toNat) && decide (c.toNat ≤ 122)) || (decide (48 ≤ c.toNat) && decide (c.toNat ≤ 57))
def nameB (s : ByteArray) : Bool := s.data.toList.all okU && decide (1 ≤ (s.size : Int) ∧ (s.size : Int) ≤ 8)
theorem okU_true {c : UInt8} (h : okU c = true) : (97 ≤ (c.toNat : Int) ∧ (c.toNat : Int) ≤ 122) ∨ (48 ≤ (c.toNat : Int) ∧ (c.toNat : Int) ≤ 57) := by
  unfold okU at h
  simp only [Bool.or_eq_true, Bool.and_eq_true, decide_eq_true_eq] at h
  omega
theorem okU_false {c : UInt8} (h : okU c = false) : ¬ ((97 ≤ (c.toNat : Int) ∧ (c.toNat : Int) ≤ 122) ∨ (48 ≤ (c.toNat : Int) ∧ (c.toNat : Int) ≤ 57)) := by
  intro g
  have : okU c = true := by
    unfold okU
    simp only [Bool.or_eq_true, Bool.and_eq_true, decide_eq_true_eq]
    omega
  rw [h] at this
  cases this
theorem name_spec_l0 (s : ByteArray) (hl : s.size ≤ 4611686018427387904) (d : Nat) : ∀ (i : Nat), i + d = s.size → Ev (fun k => spec_l1Name.l0 k s (i : Int)) ((s.data.toList.drop i).all okU && decide (1 ≤ (s.size : Int) ∧ (s.size : Int) ≤ 8)) := by
  have hs := size_list s
  induction d with
  | zero =>
    intro i h
    rw [drop_end (by omega)]
    exact ev_done fun k => by simp only [spec_l1Name.l0]; rw [if_neg (by omega), spec_l1In_is]; rfl
  | succ d ih =>
    intro i h
    have hi : i < s.data.toList.length := by omega
    rw [drop_at hi, List.all_cons]
    cases c : okU s.data.toList[i] with
    | true =>
      have hc := okU_true c
      rw [Bool.true_and]
      refine ev_step (fun k => spec_l1Name.l0 k s ((i + 1 : Nat) : Int)) (fun k => ?_) (ih (i + 1) (by omega))
      simp only [spec_l1Name.l0]; rw [if_pos (by omega), if_pos (by omega), bt_at hi, wrap_up hi (by omega)]
      by_cases h1 : ((s.data.toList[i]).toNat : Int) < 97
      · rw [if_pos h1, if_neg (by omega), if_neg (by omega)]
      · rw [if_neg h1, if_neg (by omega)]
    | false =>
      have hc := okU_false c
      rw [Bool.false_and, Bool.false_and]
      refine ev_done fun k => ?_
      simp only [spec_l1Name.l0]; rw [if_pos (by omega), if_pos (by omega), bt_at hi]
      by_cases h1 : ((s.data.toList[i]).toNat : Int) < 97
      · rw [if_pos h1]
        by_cases h2 : ((s.data.toList[i]).toNat : Int) < 48
        · rw [if_pos h2]
        · rw [if_neg h2, if_pos (by omega)]
      · rw [if_neg h1, if_pos (by omega), if_neg (by omega), if_pos (by omega)]
theorem name_spec (s : ByteArray) (hl : s.size ≤ 4611686018427387904) : Ev (fun k => spec_l1Name.f k s) (nameB s) := by
  have h := name_spec_l0 s hl s.size 0 (by omega)
  rw [List.drop_zero] at h
  exact h
theorem name_impl_l0 (s : ByteArray) (hl : s.size ≤ 4611686018427387904) (d : Nat) : ∀ (i : Nat), i + d = s.size → Ev (fun k => impl_isName.l0 k s (s.size : Int) (i : Int)) ((s.data.toList.drop i).all okU && decide (1 ≤ (s.size : Int) ∧ (s.size : Int) ≤ 8)) := by
  have hs := size_list s
  induction d with
  | zero =>
    intro i h
    rw [drop_end (by omega)]
    exact ev_done fun k => by simp only [impl_isName.l0]; rw [if_neg (by omega), impl_within_is]; rfl
  | succ d ih =>
    intro i h
    have hi : i < s.data.toList.length := by omega
    rw [drop_at hi, List.all_cons]
    cases c : okU s.data.toList[i] with
    | true =>
      have hc := okU_true c
      rw [Bool.true_and]
      refine ev_step (fun k => impl_isName.l0 k s (s.size : Int) ((i + 1 : Nat) : Int)) (fun k => ?_) (ih (i + 1) (by omega))
      simp only [impl_isName.l0]; rw [if_pos (by omega), if_pos (by omega), if_pos (by omega), bt_at hi, wrap_up hi (by omega)]
      by_cases h1 : ((s.data.toList[i]).toNat : Int) < 97
      · rw [if_pos h1, if_neg (by omega), if_neg (by omega)]
      · rw [if_neg h1, if_neg (by omega)]
    | false =>
      have hc := okU_false c
      rw [Bool.false_and, Bool.false_and]
      refine ev_done fun k => ?_
      simp only [impl_isName.l0]; rw [if_pos (by omega), if_pos (by omega), if_pos (by omega), bt_at hi]
      by_cases h1 : ((s.data.toList[i]).toNat : Int) < 97
      · rw [if_pos h1]
        by_cases h2 : ((s.data.toList[i]).toNat : Int) < 48
        · rw [if_pos h2]
        · rw [if_neg h2, if_pos (by omega)]
      · rw [if_neg h1, if_pos (by omega), if_neg (by omega), if_pos (by omega)]
theorem name_impl (s : ByteArray) (hl : s.size ≤ 4611686018427387904) : Ev (fun k => impl_isName.f k s) (nameB s) := by
  have h := name_impl_l0 s hl s.size 0 (by omega)
  rw [List.drop_zero] at h
  exact h
end Go.Proofs.YthdddcegopgopaaDoor.Pure

/- Paths: a text cut at the marks, by the program (strings.Split) and by the reference: the same; what is wrong with a path: the same, for every text. -/
namespace Go.Proofs.YthdddcegopgopaaDoor.Pure
open Go.RowKit Go.Proofs.YthdddcegopgopaaDoor.Qa Go.Proofs.YthdddcegopgopaaDoorW.PrintWords Go.Proofs.YthdddcegopgopaaDoorW.PrintLast Go.Proofs.YthdddcegopgopaaDoor.Aid

def mkB (l : List UInt8) : ByteArray := ⟨⟨l⟩⟩
theorem eq_mk {t : ByteArray} {l : List UInt8} (h : t.data.toList = l) : t = mkB l := by subst h; rfl
theorem ext_list (s : ByteArray) (a b : Nat) : (s.extract a b).data.toList = (s.data.toList.drop a).take (b - a) := by
  rw [ByteArray.data_extract, Array.toList_extract]
theorem ext_mk (s : ByteArray) (a b : Nat) : s.extract a b = mkB ((s.data.toList.drop a).take (b - a)) := eq_mk (ext_list s a b)
theorem tl (s : ByteArray) : s.toList = s.data.toList := ByteArray.toList_eq s
/-- The pieces of a text between the marks; what stands ahead goes into the first one. -/
def splF : List UInt8 → List UInt8 → List (List UInt8)
  | P, [] => [P]
  | P, c :: l => if c = 47 then P :: splF [] l else splF (P ++ [c]) l
theorem splF_len (l : List UInt8) : ∀ P, (splF P l).length = l.count 47 + 1 := by
  induction l with
  | nil => intro P; rfl
  | cons c l ih =>
    intro P
    unfold splF
    by_cases h : c = 47
    · rw [if_pos h, List.length_cons, ih, h, List.count_cons_self]
    · rw [if_neg h, ih, List.count_cons_of_ne (by simpa using h)]
theorem splF_none (l : List UInt8) : ∀ P, l.count 47 = 0 → splF P l = [P ++ l] := by
  induction l with
  | nil => intro P _; simp [splF]
  | cons c l ih =>
    intro P h
    have hc : c ≠ 47 := fun e => by rw [e, List.count_cons_self] at h; omega
    rw [List.count_cons_of_ne (by simpa using hc)] at h
    unfold splF
    rw [if_neg hc, ih _ h, List.append_assoc]
    rfl
theorem splF_some (l : List UInt8) (h : 0 < l.count 47) : ∃ p, p < l.length ∧ Lib.indexByte l 47 = (p : Int) ∧ (∀ P, splF P l = (P ++ l.take p) :: splF [] (l.drop (p + 1))) ∧ (l.drop (p + 1)).count 47 + 1 = l.count 47 := by
  induction l with
  | nil => simp at h
  | cons c l ih =>
    by_cases hc : c = 47
    · subst hc
      refine ⟨0, by simp, by unfold Lib.indexByte; rfl, fun P => ?_, by simp⟩
      rw [show splF P (47 :: l) = P :: splF [] l from if_pos rfl]
      simp
    · rw [List.count_cons_of_ne (by simpa using hc)] at h ⊢
      obtain ⟨p, h1, h2, h3, h4⟩ := ih h
      refine ⟨p + 1, by simpa using h1, ?_, fun P => ?_, by simpa using h4⟩
      · unfold Lib.indexByte
        rw [if_neg (by simpa using hc), h2, if_neg (by simp)]
        omega
      · rw [show splF P (c :: l) = splF (P ++ [c]) l from if_neg hc, h3]
        simp
/-- The reference's cut. -/
theorem cut_l0 (s : ByteArray) (hs : s.size ≤ 4398046511104) (d : Nat) : ∀ (i f : Nat) (out : List ByteArray), i + d = s.size → f ≤ i → out.length ≤ i → Ev (fun k => spec_l1Cut.l0 k s 47 out (f : Int) (i : Int)) (out ++ (splF ((s.data.toList.drop f).take (i - f)) (s.data.toList.drop i)).map mkB) := by
  have hl := size_list s
  have fin : ∀ (n f : Nat) (out : List ByteArray), s.size < n → Ev (fun k => spec_l1Cut.l0 k s 47 out (f : Int) (n : Int)) out := fun n f out hn => ev_done fun k => by simp only [spec_l1Cut.l0]; rw [if_neg (by omega)]
  induction d with
  | zero =>
    intro i f out h hf ho
    have e : s.data.toList.drop i = [] := drop_end (by omega)
    rw [e]
    have hx := ext_mk s f i
    refine ev_step (fun k => spec_l1Cut.l0 k s 47 (out ++ [s.extract f i]) ((i + 1 : Nat) : Int) ((i + 1 : Nat) : Int)) (fun k => ?_) ?_
    · simp only [spec_l1Cut.l0]; rw [if_pos (by omega), if_pos (by omega), if_pos (by omega), if_pos (by omega), if_pos (by omega), wrap_id (by omega) (by omega)]; rfl
    · rw [hx]
      exact fin _ _ _ (by omega)
  | succ d ih =>
    intro i f out h hf ho
    have hi : i < s.data.toList.length := by omega
    rw [drop_at hi]
    by_cases c : s.data.toList[i] = 47
    · rw [splF, if_pos c]
      have IH := ih (i + 1) (i + 1) (out ++ [s.extract f i]) (by omega) (by omega) (by simp; omega)
      rw [Nat.sub_self, List.take_zero] at IH
      have e : out ++ (((s.data.toList.drop f).take (i - f)) :: splF [] (s.data.toList.drop (i + 1))).map mkB = (out ++ [s.extract f i]) ++ (splF [] (s.data.toList.drop (i + 1))).map mkB := by rw [ext_mk, List.map_cons, List.append_assoc]; rfl
      rw [e]
      refine ev_step (fun k => spec_l1Cut.l0 k s 47 (out ++ [s.extract f i]) ((i + 1 : Nat) : Int) ((i + 1 : Nat) : Int)) (fun k => ?_) IH
      simp only [spec_l1Cut.l0]; rw [if_pos (by omega), if_neg (by omega), if_pos (by omega), if_pos (by omega), bt_at hi, c, if_pos (show ((UInt8.toNat 47 : Nat) : Int) = 47 from rfl), if_pos (by omega), if_pos (by omega), if_pos (by omega), wrap_up hi (by omega)]; rfl
    · rw [splF, if_neg c]
      have e : (s.data.toList.drop f).take (i - f) ++ [s.data.toList[i]] = (s.data.toList.drop f).take (i + 1 - f) := by
        rw [show i + 1 - f = (i - f) + 1 by omega, List.take_succ_eq_append_getElem (by rw [List.length_drop]; omega)]
        congr 2
        rw [List.getElem_drop]
        congr 1
        omega
      rw [e]
      refine ev_step (fun k => spec_l1Cut.l0 k s 47 out (f : Int) ((i + 1 : Nat) : Int)) (fun k => ?_) (ih (i + 1) f out (by omega) (by omega) (by omega))
      have hne : ¬ (((s.data.toList[i]).toNat : Int) = 47) := fun e => c (by
        have e2 : (s.data.toList[i]).toNat = 47 := by omega
        exact UInt8.toNat_inj.1 e2)
      simp only [spec_l1Cut.l0]; rw [if_pos (by omega), if_neg (by omega), if_pos (by omega), if_pos (by omega), bt_at hi, if_neg hne, wrap_up hi (by omega)]
def pieces (s : ByteArray) : List ByteArray := (splF [] s.data.toList).map mkB
theorem pieces_len (s : ByteArray) : (pieces s).length = s.data.toList.count 47 + 1 := by unfold pieces; rw [List.length_map, splF_len]
theorem cut_spec (s : ByteArray) (hs : s.size ≤ 4398046511104) : Ev (fun k => spec_l1Cut.f k s 47) (pieces s) := by
  have h := cut_l0 s hs s.size 0 0 [] (by omega) (by omega) (by simp)
  rw [List.nil_append, Nat.sub_self, List.take_zero, List.drop_zero] at h
  exact h
theorem w_up (p : Nat) (h : p ≤ 4611686018427387904) : wrap64 ((p : Int) + 1) = ((p + 1 : Nat) : Int) := by rw [wrap_id (by omega) (by omega)]; omega
theorem w_one (p : Nat) (h : p ≤ 4611686018427387904) : wrap64 ((p : Int) + ((⟨#[47]⟩ : ByteArray).size : Int)) = ((p + 1 : Nat) : Int) := w_up p h
theorem w_zero (p : Nat) (h : p ≤ 4611686018427387904) : wrap64 ((p : Int) + 0) = (p : Int) := by rw [Int.add_zero]; exact wrap_id (by omega) (by omega)
/-- The program's cut. -/
theorem split_l0 (n : Nat) (hn : n ≤ 4398046511104) (d : Nat) : ∀ (i : Nat) (x : ByteArray) (a : List ByteArray), x.data.toList.count 47 = d → i + d = n → a.length = n + 1 → x.size ≤ 4398046511104 → Ev (fun k => strings_genSplit.l0 k x (⟨#[47]⟩ : ByteArray) 0 (n : Int) a (i : Int)) (a.take i ++ (splF [] x.data.toList).map mkB) := by
  have ix : ∀ x : ByteArray, strings_Index.f x (⟨#[47]⟩ : ByteArray) = some (Lib.indexByte x.data.toList 47) := fun x => if_pos rfl
  induction d with
  | zero =>
    intro i x a hc h ha hx
    have e : a.take i ++ (splF [] x.data.toList).map mkB = (a.set i x).take (i + 1) := by
      rw [splF_none _ _ hc, take_set_snoc (by omega)]
      rfl
    rw [e]
    refine ev_done fun k => ?_
    have q0 : ¬ ((i : Int) < (n : Int)) := by omega
    have q1 : (0 : Int) ≤ (i : Int) := by omega
    have q2 : (i : Int) < (a.length : Int) := by omega
    have q3 : (0 : Int) ≤ ((i + 1 : Nat) : Int) := by omega
    have q4 : ((i + 1 : Nat) : Int) ≤ (a.length : Int) := by omega
    have wi := w_up i (by omega)
    simp only [strings_genSplit.l0, wi, q0, q1, q2, q3, q4, if_true, if_false, Int.toNat_natCast]
  | succ d ih =>
    intro i x a hc h ha hx
    obtain ⟨p, h1, h2, h3, h4⟩ := splF_some x.data.toList (by omega)
    have hl := size_list x
    have e1 : x.extract 0 p = mkB (x.data.toList.take p) := by rw [ext_mk]; rfl
    have e2 : (x.extract (p + 1) x.size).data.toList = x.data.toList.drop (p + 1) := by rw [ext_list, List.take_of_length_le (by rw [List.length_drop]; omega)]
    have IH := ih (i + 1) (x.extract (p + 1) x.size) (a.set i (x.extract 0 p)) (by rw [e2]; omega) (by omega) (by rw [List.length_set]; exact ha) (by rw [size_list, e2, List.length_drop]; omega)
    have e : a.take i ++ (splF [] x.data.toList).map mkB = (a.set i (x.extract 0 p)).take (i + 1) ++ (splF [] (x.extract (p + 1) x.size).data.toList).map mkB := by
      rw [e2, h3, take_set_snoc (by omega), List.append_assoc, e1]
      rfl
    rw [e]
    refine ev_step (fun k => strings_genSplit.l0 k (x.extract (p + 1) x.size) (⟨#[47]⟩ : ByteArray) 0 (n : Int) (a.set i (x.extract 0 p)) ((i + 1 : Nat) : Int)) (fun k => ?_) IH
    have q0 : (i : Int) < (n : Int) := by omega
    have q1 : (0 : Int) ≤ (i : Int) := by omega
    have q2 : (i : Int) < (a.length : Int) := by omega
    have q3 : (0 : Int) ≤ ((p + 1 : Nat) : Int) := by omega
    have q4 : ((p + 1 : Nat) : Int) ≤ (x.size : Int) := by omega
    have q5 : (0 : Int) ≤ (p : Int) := by omega
    have q6 : (p : Int) ≤ (x.size : Int) := by omega
    have q7 : ¬ ((p : Int) < 0) := by omega
    have hp_ : p ≤ 4611686018427387904 := by omega
    have hi_ : i ≤ 4611686018427387904 := by omega
    have wi := w_up i hi_
    have w1 := w_one p hp_
    have w0 := w_zero p hp_
    simp only [strings_genSplit.l0]
    rw [if_pos q0, ix, Option.bind_some, h2, if_neg q7, w0, if_pos q5, if_pos q6, if_pos q1, if_pos q2, w1, if_pos q3, if_pos q4, wi, Int.toNat_natCast, Int.toNat_natCast, Int.toNat_natCast]
theorem split_impl (s : ByteArray) (hs : s.size ≤ 1099511627776) : Ev (fun k => strings_Split.f k s (⟨#[47]⟩ : ByteArray)) (pieces s) := by
  have hl := size_list s
  have hle : s.data.toList.count 47 ≤ s.size := by rw [hl]; exact List.count_le_length
  have h := split_l0 (s.data.toList.count 47) (by omega) (s.data.toList.count 47) 0 s (List.replicate (s.data.toList.count 47 + 1) (⟨#[]⟩ : ByteArray)) rfl (by omega) (by simp) (by omega)
  have ct : strings_Count.f s (⟨#[47]⟩ : ByteArray) = some ((s.data.toList.count 47 : Nat) : Int) := if_pos rfl
  have en : wrap64 (((s.data.toList.count 47 : Nat) : Int) + 1) = ((s.data.toList.count 47 + 1 : Nat) : Int) := by rw [wrap_id (by omega) (by omega)]; omega
  have hm : mn ((s.data.toList.count 47 + 1 : Nat) : Int) (wrap64 ((s.size : Int) + 1)) = ((s.data.toList.count 47 + 1 : Nat) : Int) := by
    rw [wrap_id (by omega) (by omega)]
    unfold mn
    by_cases h : (s.size : Int) + 1 < ((s.data.toList.count 47 + 1 : Nat) : Int)
    · omega
    · rw [if_neg h]
  have hm1 : wrap64 (((s.data.toList.count 47 + 1 : Nat) : Int) - 1) = ((s.data.toList.count 47 : Nat) : Int) := by rw [wrap_id (by omega) (by omega)]; omega
  rw [List.take_zero, List.nil_append] at h
  unfold strings_Split.f
  refine ev_call (a := pieces s) ?_ (Ev.now _)
  unfold strings_genSplit.f
  refine ev_cong (fun k => (if_neg (by omega)).trans ((if_neg (by rw [tl]; simp)).trans (if_pos (by omega)))) ?_
  simp only [ct, Option.bind_some, en]
  refine ev_step _ (fun k => ?_) h
  simp only [strings_genSplit.j0]; rw [hm, if_pos (by omega), if_pos (by omega), hm1, Int.toNat_natCast]; rfl
end Go.Proofs.YthdddcegopgopaaDoor.Pure

/- What is wrong with a path: by the program and by the reference the same, for every text. -/
namespace Go.Proofs.YthdddcegopgopaaDoor.Pure
open Go.RowKit Go.Proofs.YthdddcegopgopaaDoor.Qa Go.Proofs.YthdddcegopgopaaDoorW.PrintWords Go.Proofs.YthdddcegopgopaaDoorW.PrintLast Go.Proofs.YthdddcegopgopaaDoor.Aid

theorem splF_size (l : List UInt8) : ∀ P, ∀ x ∈ splF P l, x.length ≤ P.length + l.length := by
  induction l with
  | nil => intro P x hx; rw [splF, List.mem_singleton] at hx; subst hx; omega
  | cons c l ih =>
    intro P x hx
    unfold splF at hx
    by_cases h : c = 47
    · rw [if_pos h] at hx
      rcases List.mem_cons.1 hx with rfl | hx
      · omega
      · have := ih [] x hx; simp at this ⊢; omega
    · rw [if_neg h] at hx
      have := ih _ x hx
      simp at this ⊢
      omega
theorem pieces_size (s : ByteArray) : ∀ x ∈ pieces s, x.size ≤ s.size := by
  intro x hx
  obtain ⟨l, hl, rfl⟩ := List.mem_map.1 hx
  have := splF_size s.data.toList [] l hl
  have e : (mkB l).size = l.length := rfl
  rw [List.length_nil] at this
  rw [e, size_list s]
  omega
def headR (s : ByteArray) : ByteArray := rdOf ByteArray.empty (pieces s) 0
def namesR (s : ByteArray) : List ByteArray × Bool :=
  if s.data.toList = [47] then ([], true) else if (pieces s).length < 2 then ([], false) else if (headR s).data.toList = [] then (if ((pieces s).drop 1).all nameB = true then ((pieces s).drop 1, true) else ([], false)) else ([], false)
def faultR (s : ByteArray) : Int :=
  if 24 < s.size then 2 else if s.data.toList = [47] then 0 else if 5 < (pieces s).length then 2 else if (namesR s).2 = true then 0 else 5
theorem head_bne (s : ByteArray) : ((rdOf ByteArray.empty (pieces s) 0).toList != ([] : List UInt8)) = !decide ((headR s).data.toList = []) := by
  unfold headR
  rw [tl]
  by_cases h : (rdOf ByteArray.empty (pieces s) 0).data.toList = []
  · rw [h]; rfl
  · rw [decide_eq_false h]
    exact bne_iff_ne.2 h
theorem fault_l0 (W : List ByteArray) (hW : ∀ x ∈ W, x.size ≤ 1048576) (hl : W.length ≤ 1048576) (d : Nat) : ∀ (i : Nat), i + d = W.length → Ev (fun k => impl_PathFault.l0 k W (W.length : Int) (i : Int)) (if (W.drop i).all nameB = true then 0 else 5) := by
  induction d with
  | zero =>
    intro i h
    rw [drop_end (by omega)]
    exact ev_done fun k => by simp only [impl_PathFault.l0]; rw [if_neg (by omega)]; rfl
  | succ d ih =>
    intro i h
    have hi : i < W.length := by omega
    have hx := hW W[i] (List.getElem_mem hi)
    rw [drop_at hi, List.all_cons]
    refine ev_step _ (fun k => by simp only [impl_PathFault.l0]; rw [if_pos (by omega), if_pos (by omega), if_pos (by omega), rdOf_at hi, wrap_up hi (by omega)]) (ev_call (name_impl W[i] (by omega)) ?_)
    cases c : nameB W[i] with
    | true => exact ev_cong (fun k => if_pos rfl) (by rw [Bool.true_and]; exact ih (i + 1) (by omega))
    | false => exact ev_is fun k => if_neg (by simp)
theorem names_l0 (W : List ByteArray) (hW : ∀ x ∈ W, x.size ≤ 1048576) (hl : W.length ≤ 1048576) (h1 : 1 ≤ W.length) (d : Nat) : ∀ (i : Nat), i + d = W.length → Ev (fun k => spec_l1Names.l0 k W (i : Int)) (if (W.drop i).all nameB = true then (W.drop 1, true) else ([], false)) := by
  induction d with
  | zero =>
    intro i h
    rw [drop_end (by omega)]
    exact ev_done fun k => by simp only [spec_l1Names.l0]; rw [if_neg (by omega), if_pos (by omega)]; rfl
  | succ d ih =>
    intro i h
    have hi : i < W.length := by omega
    have hx := hW W[i] (List.getElem_mem hi)
    rw [drop_at hi, List.all_cons]
    refine ev_step _ (fun k => by simp only [spec_l1Names.l0]; rw [if_pos (by omega), if_pos (by omega), rdOf_at hi, wrap_up hi (by omega)]) (ev_call (name_spec W[i] (by omega)) ?_)
    cases c : nameB W[i] with
    | true => exact ev_cong (fun k => if_pos rfl) (by rw [Bool.true_and]; exact ih (i + 1) (by omega))
    | false => exact ev_is fun k => if_neg (by simp)
theorem pieces_le (s : ByteArray) : (pieces s).length ≤ s.size + 1 := by
  have : s.data.toList.count 47 ≤ s.data.toList.length := List.count_le_length
  rw [pieces_len, size_list]
  omega
theorem names_spec (s : ByteArray) (hs : s.size ≤ 24) : Ev (fun k => spec_l1Names.f k s) (namesR s) := by
  have hl := pieces_le s
  unfold spec_l1Names.f namesR
  by_cases h : s.data.toList = [47]
  · rw [if_pos h]
    exact ev_is fun k => if_pos (by rw [tl]; exact h)
  · rw [if_neg h]
    refine ev_cong (fun k => if_neg (by rw [tl]; exact h)) (ev_call (cut_spec s (by omega)) ?_)
    by_cases h2 : (pieces s).length < 2
    · rw [if_pos h2]
      exact ev_cong (fun k => if_pos (by omega)) (ev_done fun k => by simp only [spec_l1Names.j0]; exact if_pos trivial)
    · rw [if_neg h2]
      refine ev_cong (fun k => (if_neg (by omega)).trans (if_pos (by omega))) ?_
      rw [head_bne]
      by_cases h3 : (headR s).data.toList = []
      · rw [if_pos h3]
        refine ev_step _ (fun k => by simp only [spec_l1Names.j0]; rw [if_neg (by simp [h3])]) ?_
        exact names_l0 (pieces s) (fun x hx => by have := pieces_size s x hx; omega) (by omega) (by omega) ((pieces s).length - 1) 1 (by omega)
      · rw [if_neg h3]
        exact ev_done fun k => by simp only [spec_l1Names.j0]; exact if_pos (by simp [h3])
theorem fault_spec (s : ByteArray) : Ev (fun k => spec_l1Fault.f k s) (faultR s) := by
  unfold spec_l1Fault.f faultR
  by_cases h : 24 < s.size
  · rw [if_pos h]
    exact ev_cong (fun k => if_pos (by omega)) (ev_done fun k => by simp only [spec_l1Fault.j0]; exact if_pos trivial)
  · rw [if_neg h]
    have tail : Ev (fun k => spec_l1Fault.j0 k s false) (if (namesR s).2 = true then 0 else 5) := by
      refine ev_step _ (fun k => by simp only [spec_l1Fault.j0]; rw [if_neg (by simp)]) (ev_call (names_spec s (by omega)) ?_)
      exact ev_is fun k => by by_cases h4 : (namesR s).2 = true <;> simp [h4]
    refine ev_cong (fun k => if_neg (by omega)) ?_
    by_cases h47 : s.data.toList = [47]
    · rw [if_pos h47]
      refine ev_cong (fun k => if_pos (by rw [tl]; exact h47)) ?_
      have e : (namesR s).2 = true := by unfold namesR; rw [if_pos h47]
      rw [if_pos e] at tail
      exact tail
    · rw [if_neg h47]
      refine ev_cong (fun k => if_neg (by rw [tl]; exact h47)) (ev_call (cut_spec s (by omega)) ?_)
      by_cases h5 : 5 < (pieces s).length
      · rw [if_pos h5, show decide (((pieces s).length : Int) > 5) = true from decide_eq_true (by omega)]
        exact ev_done fun k => by simp only [spec_l1Fault.j0]; exact if_pos trivial
      · rw [if_neg h5, show decide (((pieces s).length : Int) > 5) = false from decide_eq_false (by omega)]
        exact tail
theorem fault_impl (s : ByteArray) : Ev (fun k => impl_PathFault.f k s) (faultR s) := by
  unfold impl_PathFault.f faultR
  by_cases h : 24 < s.size
  · rw [if_pos h]
    exact ev_cong (fun k => if_pos (by omega)) (ev_done fun k => by simp only [impl_PathFault.j0]; exact if_pos trivial)
  · rw [if_neg h]
    have ct : strings_Count.f s (⟨#[47]⟩ : ByteArray) = some ((s.data.toList.count 47 : Nat) : Int) := if_pos rfl
    have pl := pieces_len s
    have hl := pieces_le s
    refine ev_cong (fun k => (if_neg (by omega)).trans (by rw [ct, Option.bind_some])) ?_
    by_cases h47 : s.data.toList = [47]
    · rw [if_pos h47, h47]
      refine ev_done fun k => ?_
      simp only [impl_PathFault.j0]; rw [if_neg (by decide), if_pos (by rw [tl]; exact h47)]
    · rw [if_neg h47]
      by_cases h5 : 5 < (pieces s).length
      · rw [if_pos h5, show decide (((s.data.toList.count 47 : Nat) : Int) > 4) = true from decide_eq_true (by omega)]
        exact ev_done fun k => by simp only [impl_PathFault.j0]; exact if_pos trivial
      · rw [if_neg h5, show decide (((s.data.toList.count 47 : Nat) : Int) > 4) = false from decide_eq_false (by omega)]
        refine ev_step _ (fun k => by simp only [impl_PathFault.j0]; rw [if_neg (by simp), if_neg (by rw [tl]; exact h47)]) (ev_call (split_impl s (by omega)) ?_)
        unfold namesR
        rw [if_neg h47]
        by_cases h2 : (pieces s).length < 2
        · rw [if_pos h2, if_neg (by simp)]
          exact ev_cong (fun k => if_pos (by omega)) (ev_done fun k => by simp only [impl_PathFault.j1]; exact if_pos trivial)
        · rw [if_neg h2]
          refine ev_cong (fun k => (if_neg (by omega)).trans (if_pos (by omega))) ?_
          rw [head_bne]
          by_cases h3 : (headR s).data.toList = []
          · rw [if_pos h3]
            refine ev_step _ (fun k => by simp only [impl_PathFault.j1]; rw [if_neg (by simp [h3]), if_pos (by omega), Option.bind_some]) ?_
            have := fault_l0 ((pieces s).drop 1) (fun x hx => by have := pieces_size s x (List.mem_of_mem_drop hx); omega) (by rw [List.length_drop]; omega) ((pieces s).drop 1).length 0 (by omega)
            rw [List.drop_zero] at this
            by_cases h6 : ((pieces s).drop 1).all nameB = true
            · rw [if_pos h6] at this ⊢; exact this
            · rw [if_neg h6] at this ⊢; exact this
          · rw [if_neg h3, if_neg (by simp)]
            exact ev_done fun k => by simp only [impl_PathFault.j1]; exact if_pos (by simp [h3])
/-- What is known of a path that has no fault. -/
theorem fault_zero {s : ByteArray} (h : faultR s = 0) : s.size ≤ 24 ∧ (s.data.toList = [47] ∨ s.data.toList ≠ [47] ∧ namesR s = ((pieces s).drop 1, true) ∧ 0 < s.data.toList.count 47) := by
  unfold faultR at h
  by_cases h1 : 24 < s.size
  · rw [if_pos h1] at h; omega
  · rw [if_neg h1] at h
    refine ⟨by omega, ?_⟩
    by_cases h2 : s.data.toList = [47]
    · exact .inl h2
    · rw [if_neg h2] at h
      refine .inr ⟨h2, ?_⟩
      by_cases h5 : 5 < (pieces s).length
      · rw [if_pos h5] at h; omega
      · rw [if_neg h5] at h
        have pl := pieces_len s
        by_cases h6 : (namesR s).2 = true
        · have h7 := h6
          unfold namesR at h6 ⊢
          rw [if_neg h2] at h6 ⊢
          by_cases h8 : (pieces s).length < 2
          · rw [if_pos h8] at h6; cases h6
          · rw [if_neg h8] at h6 ⊢
            by_cases h9 : (headR s).data.toList = []
            · rw [if_pos h9] at h6 ⊢
              by_cases h10 : ((pieces s).drop 1).all nameB = true
              · rw [if_pos h10]; exact ⟨rfl, by omega⟩
              · rw [if_neg h10] at h6; cases h6
            · rw [if_neg h9] at h6; cases h6
        · rw [if_neg h6] at h; omega
end Go.Proofs.YthdddcegopgopaaDoor.Pure

/- The last mark of a path: by the program (strings.LastIndex) and by the reference the same. -/
namespace Go.Proofs.YthdddcegopgopaaDoor.Pure
open Go.RowKit Go.Proofs.YthdddcegopgopaaDoor.Qa Go.Proofs.YthdddcegopgopaaDoorW.PrintWords Go.Proofs.YthdddcegopgopaaDoorW.PrintLast Go.Proofs.YthdddcegopgopaaDoor.Aid
theorem last_exists (l : List UInt8) (h : 0 < l.count 47) : ∃ (p : Nat) (hp : p < l.length), l[p] = 47 ∧ ∀ (j : Nat) (hj : j < l.length), p < j → l[j] ≠ 47 := by
  induction l with
  | nil => simp at h
  | cons c l ih =>
    by_cases h0 : 0 < l.count 47
    · obtain ⟨p, hp, h1, h2⟩ := ih h0
      refine ⟨p + 1, by simpa using hp, by simpa using h1, fun j hj hlt => ?_⟩
      cases j with
      | zero => omega
      | succ j => simpa using h2 j (by simpa using hj) (by omega)
    · have hc : c = 47 := by
        by_cases hc : c = 47
        · exact hc
        · rw [List.count_cons_of_ne (by simpa using hc)] at h
          exact absurd h h0
      refine ⟨0, by simp, by simpa using hc, fun j hj hlt => ?_⟩
      cases j with
      | zero => omega
      | succ j =>
        intro e
        have e' : l[j]'(by simpa using hj) = 47 := by simpa using e
        exact h0 (List.count_pos_iff.2 (e' ▸ List.getElem_mem _))
theorem ne_int {c : UInt8} (h : c ≠ 47) : ¬ ((c.toNat : Int) = 47) := fun e => h (by
  have e2 : c.toNat = 47 := by omega
  exact UInt8.toNat_inj.1 e2)
theorem last_spec_l0 (s : ByteArray) (hs : s.size ≤ 24) (p : Nat) (hp : p < s.data.toList.length) (h1 : s.data.toList[p] = 47) (h2 : ∀ (j : Nat) (hj : j < s.data.toList.length), p < j → s.data.toList[j] ≠ 47) (d : Nat) : ∀ (i : Nat) (x : Int), i + d = s.size → (p < i → x = (p : Int)) → Ev (fun k => spec_l1Last.l0 k s x (i : Int)) (p : Int) := by
  have hl := size_list s
  induction d with
  | zero =>
    intro i x h hx
    rw [hx (by omega)]
    exact ev_done fun k => by simp only [spec_l1Last.l0]; rw [if_neg (by omega)]
  | succ d ih =>
    intro i x h hx
    have hi : i < s.data.toList.length := by omega
    have q0 : (i : Int) < (s.size : Int) := by omega
    have q1 : (0 : Int) ≤ (i : Int) := by omega
    have wi := w_up i (by omega)
    by_cases c : s.data.toList[i] = 47
    · have hip : ¬ p < i := fun hlt => h2 i hi hlt c
      refine ev_step (fun k => spec_l1Last.l0 k s (i : Int) ((i + 1 : Nat) : Int)) (fun k => ?_) (ih (i + 1) (i : Int) (by omega) (fun hlt => by omega))
      simp only [spec_l1Last.l0]; rw [if_pos q0, if_pos q1, bt_at hi, c, if_pos (show ((UInt8.toNat 47 : Nat) : Int) = 47 from rfl), wi]
    · have hip : i ≠ p := fun e => c (by subst e; exact h1)
      refine ev_step (fun k => spec_l1Last.l0 k s x ((i + 1 : Nat) : Int)) (fun k => ?_) (ih (i + 1) x (by omega) (fun hlt => hx (by omega)))
      simp only [spec_l1Last.l0]; rw [if_pos q0, if_pos q1, bt_at hi, if_neg (ne_int c), wi]
theorem last_impl_l0 (s : ByteArray) (hs : s.size ≤ 24) (p : Nat) (hp : p < s.data.toList.length) (h1 : s.data.toList[p] = 47) (h2 : ∀ (j : Nat) (hj : j < s.data.toList.length), p < j → s.data.toList[j] ≠ 47) (d : Nat) : p + d < s.data.toList.length → Ev (fun k => bytealg_LastIndexByteString.l0 k s 47 ((p + d : Nat) : Int)) (p : Int) := by
  have hl := size_list s
  induction d with
  | zero =>
    intro _
    have q0 : ((p + 0 : Nat) : Int) < (s.size : Int) := by omega
    have q1 : (0 : Int) ≤ ((p + 0 : Nat) : Int) := by omega
    refine ev_done fun k => ?_
    simp only [bytealg_LastIndexByteString.l0]; rw [if_pos q1, if_pos q1, if_pos q0, bt_at (show p + 0 < s.data.toList.length from hp), if_pos (by simp only [Nat.add_zero, h1]; rfl)]
    rfl
  | succ d ih =>
    intro hd
    have q0 : ((p + (d + 1) : Nat) : Int) < (s.size : Int) := by omega
    have q1 : (0 : Int) ≤ ((p + (d + 1) : Nat) : Int) := by omega
    have wi : wrap64 (((p + (d + 1) : Nat) : Int) - 1) = ((p + d : Nat) : Int) := by rw [wrap_id (by omega) (by omega)]; omega
    refine ev_step (fun k => bytealg_LastIndexByteString.l0 k s 47 ((p + d : Nat) : Int)) (fun k => ?_) (ih (by omega))
    simp only [bytealg_LastIndexByteString.l0]; rw [if_pos q1, if_pos q1, if_pos q0, bt_at hd, if_neg (ne_int (h2 _ hd (by omega))), wi]
/-- Where the last mark is. -/
theorem last_both (s : ByteArray) (hs : s.size ≤ 24) (h : 0 < s.data.toList.count 47) : ∃ (p : Nat) (hp : p < s.data.toList.length), s.data.toList[p] = 47 ∧ Ev (fun k => spec_l1Last.f k s) (p : Int) ∧ Ev (fun k => strings_LastIndex.f k s (⟨#[47]⟩ : ByteArray)) (p : Int) := by
  have hl := size_list s
  obtain ⟨p, hp, h1, h2⟩ := last_exists _ h
  refine ⟨p, hp, h1, last_spec_l0 s hs p hp h1 h2 s.size 0 0 (by omega) (fun h => by omega), ?_⟩
  have hd := last_impl_l0 s hs p hp h1 h2 (s.data.toList.length - 1 - p) (by omega)
  have e : wrap64 ((s.size : Int) - 1) = ((p + (s.data.toList.length - 1 - p) : Nat) : Int) := by rw [wrap_id (by omega) (by omega)]; omega
  have e1 : ((⟨#[47]⟩ : ByteArray).size : Int) = 1 := rfl
  have e2 : bt (⟨#[47]⟩ : ByteArray) 0 = 47 := rfl
  unfold strings_LastIndex.f
  rw [e1, e2]
  refine ev_cong (fun k => (if_neg (by omega)).trans ((if_pos rfl).trans (if_pos (by omega)))) (ev_call (a := (p : Int)) ?_ (Ev.now _))
  unfold bytealg_LastIndexByteString.f
  rw [e]
  exact hd
theorem parted_both (s : ByteArray) (hs : s.size ≤ 24) (h : 0 < s.data.toList.count 47) : ∃ (u n : ByteArray), Ev (fun k => impl_parted.f k s) (u, n) ∧ (∃ p : Nat, p < s.size ∧ n = s.extract (p + 1) s.size ∧ u = (if p = 0 then (⟨#[47]⟩ : ByteArray) else s.extract 0 p) ∧ Ev (fun k => spec_l1Last.f k s) (p : Int)) := by
  have hl := size_list s
  obtain ⟨p, hp, h1, h2, h3⟩ := last_both s hs h
  have hz : s.extract 0 1 = mkB [s.data.toList[0]] := by
    rw [ext_mk]
    congr 1
    rw [show (1 : Nat) - 0 = 0 + 1 from rfl, List.drop_zero, List.take_succ_eq_append_getElem (by omega)]
    rfl
  refine ⟨if p = 0 then (⟨#[47]⟩ : ByteArray) else s.extract 0 p, s.extract (p + 1) s.size, ?_, p, by omega, rfl, rfl, h2⟩
  unfold impl_parted.f
  refine ev_call h3 (ev_is fun k => ?_)
  have wi := w_up p (by omega)
  have q3 : (0 : Int) ≤ ((p + 1 : Nat) : Int) := by omega
  have q4 : ((p + 1 : Nat) : Int) ≤ (s.size : Int) := by omega
  by_cases c : p = 0
  · subst c
    have m : mx ((0 : Nat) : Int) 1 = 1 := rfl
    rw [m, if_pos (by omega), if_pos (by omega), wi, if_pos q3, if_pos q4, if_pos rfl, show ((1 : Int).toNat) = 1 from rfl, hz, h1, Int.toNat_natCast]
    rfl
  · have m : mx (p : Int) 1 = (p : Int) := by unfold mx; rw [if_neg (by omega)]
    rw [m, if_pos (by omega), if_pos (by omega), wi, if_pos q3, if_pos q4, if_neg c, Int.toNat_natCast, Int.toNat_natCast]
end Go.Proofs.YthdddcegopgopaaDoor.Pure

/- Texts in order: what a comparison of two texts says of their bytes; searches in rising lists. -/
namespace Go.Proofs.YthdddcegopgopaaDoor.Aid
open Go.RowKit Go.Proofs.YthdddcegopgopaaDoorW.PrintWords

theorem u8_tri (a b : UInt8) (h1 : ¬ a < b) (h2 : ¬ b < a) : a = b := by
  have e1 : ¬ a.toNat < b.toNat := h1
  have e2 : ¬ b.toNat < a.toNat := h2
  exact UInt8.toNat_inj.1 (by omega)
theorem bl_lt : ∀ (x y : List UInt8), Op.bytesLess x y = decide (x < y)
  | [], [] => by simp [Op.bytesLess]
  | _ :: _, [] => by simp [Op.bytesLess]
  | [], _ :: _ => by simp [Op.bytesLess]
  | a :: x, b :: y => by
    rw [Op.bytesLess, bl_lt x y]
    rw [Bool.eq_iff_iff]
    simp [List.cons_lt_cons_iff]
theorem cmp_is : ∀ (x y : List UInt8), Lib.compareBytes x y = if x < y then -1 else if x = y then 0 else 1
  | [], [] => by simp [Lib.compareBytes]
  | _ :: _, [] => by simp [Lib.compareBytes]
  | [], _ :: _ => by simp [Lib.compareBytes]
  | a :: x, b :: y => by
    rw [Lib.compareBytes, cmp_is x y]
    by_cases h1 : a < b
    · rw [if_pos h1, if_pos (List.cons_lt_cons_iff.2 (.inl h1))]
    · rw [if_neg h1]
      by_cases h2 : b < a
      · have hne : a ≠ b := fun e => by subst e; exact h1 h2
        rw [if_pos h2, if_neg (fun h => by
          rcases List.cons_lt_cons_iff.1 h with h | ⟨h, _⟩
          · exact h1 h
          · exact hne h), if_neg (fun h => hne (List.cons.inj h).1)]
      · have e := u8_tri a b h1 h2
        subst e
        rw [if_neg h2]
        by_cases h3 : x < y
        · rw [if_pos h3, if_pos (List.cons_lt_cons_iff.2 (.inr ⟨rfl, h3⟩))]
        · have h5 : ¬ (a :: x < a :: y) := fun h => by
            rcases List.cons_lt_cons_iff.1 h with h | ⟨_, h⟩
            · exact h1 h
            · exact h3 h
          rw [if_neg h3, if_neg h5]
          by_cases h4 : x = y
          · subst h4
            rw [if_pos rfl, if_pos rfl]
          · have h6 : ¬ (a :: x = a :: y) := fun h => h4 (List.cons.inj h).2
            rw [if_neg h4, if_neg h6]
theorem lt_irr (x : List UInt8) : ¬ x < x := List.lt_irrefl x
theorem lt_tr {x y z : List UInt8} (h : x < y) (k : y < z) : x < z := List.lt_trans h k
theorem lt_tri {x y : List UInt8} (h : ¬ x < y) (k : ¬ x = y) : y < x := by
  have := cmp_is x y
  rw [if_neg h, if_neg k] at this
  rcases Decidable.em (y < x) with c | c
  · exact c
  · exact absurd (List.le_antisymm c h) k
theorem ba_ext {a b : ByteArray} (h : a.data.toList = b.data.toList) : a = b := by
  obtain ⟨⟨a⟩⟩ := a
  obtain ⟨⟨b⟩⟩ := b
  exact congrArg (fun l => (⟨⟨l⟩⟩ : ByteArray)) h
/-- The place of a key in a list that rises. -/
def posK {α : Type} (key : α → List UInt8) (l : List α) (q : List UInt8) : Nat := (l.takeWhile (fun z => decide (key z < q))).length
def hereK {α : Type} (key : α → List UInt8) (l : List α) (q : List UInt8) : Bool := match l[posK key l q]? with
  | some z => decide (key z = q)
  | none => false
def Rises {α : Type} (key : α → List UInt8) (l : List α) : Prop := l.Pairwise (fun x y => key x < key y)
theorem posK_le {α : Type} (key : α → List UInt8) (l : List α) (q : List UInt8) : posK key l q ≤ l.length := take_pos_le _ l
theorem posK_iff {α : Type} {key : α → List UInt8} {l : List α} (h : Rises key l) (q : List UInt8) (j : Nat) (hj : j < l.length) : key l[j] < q ↔ j < posK key l q := by
  have := take_pos (fun z : α => decide (key z < q)) l (h.imp (fun {x y} hxy hy => decide_eq_true (lt_tr hxy (of_decide_eq_true hy)))) j hj
  rw [decide_eq_true_eq] at this
  exact this
theorem hereK_lt {α : Type} {key : α → List UInt8} {l : List α} {q : List UInt8} (h : hereK key l q = true) : posK key l q < l.length := by
  unfold hereK at h
  cases hp : l[posK key l q]? with
  | none => rw [hp] at h; cases h
  | some s => exact (List.getElem?_eq_some_iff.1 hp).1
theorem hereK_eq {α : Type} {key : α → List UInt8} {l : List α} {q : List UInt8} (h : hereK key l q = true) : key (l[posK key l q]'(hereK_lt h)) = q := by
  have hp := hereK_lt h
  unfold hereK at h
  rw [List.getElem?_eq_getElem hp] at h
  exact of_decide_eq_true h
theorem hereK_at {α : Type} {key : α → List UInt8} {l : List α} (h : Rises key l) (j : Nat) (hj : j < l.length) : posK key l (key l[j]) = j ∧ hereK key l (key l[j]) = true := by
  have h1 := (posK_iff h (key l[j]) j hj)
  have h2 : ¬ j < posK key l (key l[j]) := fun c => lt_irr _ (h1.2 c)
  have h3 : ¬ posK key l (key l[j]) < j := fun c => by
    have hp : posK key l (key l[j]) < l.length := by omega
    have := (List.pairwise_iff_getElem.1 h) _ _ hp hj c
    have := (posK_iff h (key l[j]) _ hp).1 this
    omega
  have e : posK key l (key l[j]) = j := by omega
  refine ⟨e, ?_⟩
  unfold hereK
  rw [e, List.getElem?_eq_getElem hj]
  exact decide_eq_true rfl
theorem hereK_mem {α : Type} {key : α → List UInt8} {l : List α} (h : Rises key l) {z : α} (hz : z ∈ l) : hereK key l (key z) = true := by
  obtain ⟨j, hj, rfl⟩ := List.getElem_of_mem hz
  exact (hereK_at h j hj).2
/-- Behind its place all are greater. -/
theorem posK_gt {α : Type} {key : α → List UInt8} {l : List α} (h : Rises key l) (q : List UInt8) (hq : hereK key l q = false) (j : Nat) (hj : j < l.length) : key l[j] ≠ q := by
  intro e
  have := (hereK_at h j hj).2
  rw [e, hq] at this
  cases this
end Go.Proofs.YthdddcegopgopaaDoor.Aid

/- What is wrong with a tree, in plain words of lists; paths' parents. -/
namespace Go.Proofs.YthdddcegopgopaaDoor.Pure
open Go.RowKit Go.Proofs.YthdddcegopgopaaDoor.Qa Go.Proofs.YthdddcegopgopaaDoorW.PrintWords Go.Proofs.YthdddcegopgopaaDoorW.PrintLast Go.Proofs.YthdddcegopgopaaDoor.Aid

theorem splF_head : ∀ (l P : List UInt8), P ≠ [] → ∃ x r, splF P l = x :: r ∧ x ≠ []
  | [], P, h => ⟨P, [], rfl, h⟩
  | c :: l, P, h => by
    unfold splF
    by_cases hc : c = 47
    · rw [if_pos hc]; exact ⟨P, _, rfl, h⟩
    · rw [if_neg hc]; exact splF_head l _ (by simp)
/-- A path that has no fault begins with a mark. -/
theorem path_mark {s : ByteArray} (h : faultR s = 0) : s.size ≤ 24 ∧ (∃ t, s.data.toList = 47 :: t) ∧ 0 < s.data.toList.count 47 := by
  have hl := size_list s
  obtain ⟨h1, h2⟩ := fault_zero h
  refine ⟨h1, ?_⟩
  rcases h2 with h2 | ⟨h2, h3, h4⟩
  · rw [h2]; exact ⟨⟨[], rfl⟩, by decide⟩
  · refine ⟨?_, h4⟩
    have hn : (namesR s).2 = true := by rw [h3]
    unfold namesR at hn
    rw [if_neg h2] at hn
    by_cases h5 : (pieces s).length < 2
    · rw [if_pos h5] at hn; cases hn
    · rw [if_neg h5] at hn
      by_cases h6 : (headR s).data.toList = []
      · cases hs : s.data.toList with
        | nil => rw [hs] at h4; simp at h4
        | cons c t =>
          by_cases hc : c = 47
          · exact ⟨t, by rw [hc]⟩
          · exfalso
            obtain ⟨x, r, hx, hne⟩ := splF_head t [c] (by simp)
            have e : pieces s = (x :: r).map mkB := by
              unfold pieces
              rw [hs, splF, if_neg hc, List.nil_append, hx]
            unfold headR at h6
            rw [e, List.map_cons] at h6
            exact hne h6
      · rw [if_neg h6] at hn; cases hn

/-- The parent and the last name of a path. -/
theorem up_ex (s : ByteArray) (h : faultR s = 0) : ∃ un : ByteArray × ByteArray, Ev (fun k => impl_parted.f k s) un ∧ ∃ p : Nat, p < s.size ∧ un.2 = s.extract (p + 1) s.size ∧ un.1 = (if p = 0 then (⟨#[47]⟩ : ByteArray) else s.extract 0 p) ∧ Ev (fun k => spec_l1Last.f k s) (p : Int) := by
  obtain ⟨h1, _, h3⟩ := path_mark h
  obtain ⟨u, n, h4, p, h5⟩ := parted_both s h1 h3
  exact ⟨(u, n), h4, p, h5⟩
open Classical in
noncomputable def upN (s : ByteArray) : ByteArray × ByteArray := if h : faultR s = 0 then (up_ex s h).choose else (⟨#[]⟩, ⟨#[]⟩)
noncomputable def upR (s : ByteArray) : ByteArray := (upN s).1
noncomputable def nmR (s : ByteArray) : ByteArray := (upN s).2
theorem upN_spec {s : ByteArray} (h : faultR s = 0) : Ev (fun k => impl_parted.f k s) (upN s) ∧ ∃ p : Nat, p < s.size ∧ nmR s = s.extract (p + 1) s.size ∧ upR s = (if p = 0 then (⟨#[47]⟩ : ByteArray) else s.extract 0 p) ∧ Ev (fun k => spec_l1Last.f k s) (p : Int) := by
  unfold nmR upR upN
  rw [dif_pos h]
  exact (up_ex s h).choose_spec
theorem parted_is {s : ByteArray} (h : faultR s = 0) : Ev (fun k => impl_parted.f k s) (upR s, nmR s) := (upN_spec h).1
theorem parent_is {s : ByteArray} (h : faultR s = 0) : Ev (fun k => spec_l1Parent.f k s) (upR s) := by
  obtain ⟨_, p, h6, _, h8, h9⟩ := upN_spec h
  unfold spec_l1Parent.f
  refine ev_call h9 (ev_is fun k => ?_)
  rw [h8]
  by_cases c : p = 0
  · rw [if_pos (by omega), if_pos c]
  · rw [if_neg (by omega), if_pos (by omega), if_pos (by omega), if_neg c, Int.toNat_natCast]
theorem upR_size {s : ByteArray} (h : faultR s = 0) : (upR s).size ≤ 24 ∧ (nmR s).size ≤ 24 := by
  obtain ⟨_, p, h6, h7, h8, _⟩ := upN_spec h
  have := (path_mark h).1
  have sz : ∀ a b : Nat, b ≤ 24 → (s.extract a b).size ≤ 24 := fun a b hb => by
    rw [size_list, ext_list, List.length_take, List.length_drop]
    omega
  rw [h7, h8]
  refine ⟨?_, sz _ _ this⟩
  by_cases c : p = 0
  · rw [if_pos c]; decide
  · rw [if_neg c]; exact sz _ _ (by omega)
theorem top_fault : faultR (⟨#[47]⟩ : ByteArray) = 0 := by unfold faultR; decide
theorem upR_top (s : ByteArray) (hs : s.data.toList = [47]) : upR s = (⟨#[47]⟩ : ByteArray) := by
  have h : faultR s = 0 := by unfold faultR; rw [if_neg (by rw [size_list, hs]; decide), if_pos hs]
  obtain ⟨_, p, h6, _, h8, _⟩ := upN_spec h
  rw [size_list, hs] at h6
  rw [h8, if_pos (by simpa using h6)]

abbrev ZZ := S47
def pk (z : ZZ) : List UInt8 := z.f0.data.toList
def zIn (z : ZZ) : Bool := decide (0 ≤ z.f1 ∧ z.f1 ≤ 9999) && (decide (0 ≤ z.f2 ∧ z.f2 ≤ 999) && (decide (0 ≤ z.f3 ∧ z.f3 ≤ 9) && decide (0 ≤ z.f4 ∧ z.f4 ≤ 100)))
/-- What is wrong with one node. -/
def zOwn (z : ZZ) : Int := if faultR z.f0 = 0 then (if zIn z = true then 0 else 3) else faultR z.f0
def zOne (prev : Option (List UInt8)) (z : ZZ) : Int := if zOwn z = 0 then (match prev with
  | some p => if p < pk z then 0 else 1
  | none => 0) else zOwn z
def zFrom : Option (List UInt8) → List ZZ → Int
  | _, [] => 0
  | prev, z :: r => if zOne prev z = 0 then zFrom (some (pk z)) r else zOne prev z
theorem zFrom_cons {prev : Option (List UInt8)} {z : ZZ} {r : List ZZ} : zFrom prev (z :: r) = if zOne prev z = 0 then zFrom (some (pk z)) r else zOne prev z := rfl
theorem zOwn_ok {z : ZZ} (h : zOwn z = 0) : faultR z.f0 = 0 ∧ zIn z = true := by
  unfold zOwn at h
  by_cases h1 : faultR z.f0 = 0
  · rw [if_pos h1] at h
    by_cases h2 : zIn z = true
    · exact ⟨h1, h2⟩
    · rw [if_neg h2] at h; cases h
  · rw [if_neg h1] at h; exact absurd h h1
theorem zFrom_ok : ∀ (l : List ZZ) (prev : Option (List UInt8)), zFrom prev l = 0 → (∀ z ∈ l, zOwn z = 0) ∧ Rises pk l ∧ ∀ p, prev = some p → ∀ z ∈ l, p < pk z
  | [], _, _ => ⟨by simp, List.Pairwise.nil, by simp⟩
  | z :: r, prev, h => by
    rw [zFrom_cons] at h
    by_cases h1 : zOne prev z = 0
    · rw [if_pos h1] at h
      obtain ⟨g1, g2, g3⟩ := zFrom_ok r (some (pk z)) h
      have hg : zOwn z = 0 := by
        unfold zOne at h1
        by_cases c : zOwn z = 0
        · exact c
        · rw [if_neg c] at h1; exact h1
      have hp : ∀ p, prev = some p → p < pk z := by
        intro p hp
        subst hp
        unfold zOne at h1
        rw [if_pos hg] at h1
        by_cases c : p < pk z
        · exact c
        · simp [c] at h1
      refine ⟨?_, List.pairwise_cons.2 ⟨fun y hy => g3 _ rfl y hy, g2⟩, ?_⟩
      · intro x hx
        rcases List.mem_cons.1 hx with rfl | hx
        · exact hg
        · exact g1 x hx
      · intro p he x hx
        rcases List.mem_cons.1 hx with rfl | hx
        · exact hp p he
        · exact lt_tr (hp p he) (g3 _ rfl x hx)
    · rw [if_neg h1] at h; exact absurd h h1
noncomputable def upK (z : ZZ) : List UInt8 := (upR z.f0).data.toList
noncomputable def upHere (l : List ZZ) (z : ZZ) : Bool := hereK pk l (upK z)
noncomputable def upOwn (l : List ZZ) (z : ZZ) : Bool := !decide ((rd_T47 l (posK pk l (upK z) : Int)).f3 = 0)
/-- What is wrong with a tree. -/
noncomputable def treeR (l : List ZZ) : Int :=
  if l.length > 20 then 2 else if zFrom none l = 0 then
    (if hereK pk l [47] = true then (if l.all (upHere l) = true then (if l.any (upOwn l) = true then 1 else 0) else 4) else 4)
  else zFrom none l
/-- A tree that has no fault. -/
structure RightT (l : List ZZ) : Prop where
  few : l.length ≤ 20
  good : ∀ z ∈ l, zOwn z = 0
  rise : Rises pk l
  top : hereK pk l [47] = true
  ups : ∀ z ∈ l, upHere l z = true
  free : ∀ z ∈ l, upOwn l z = false
theorem right_of {l : List ZZ} (h : treeR l = 0) : RightT l := by
  unfold treeR at h
  by_cases h1 : l.length > 20
  · rw [if_pos h1] at h; cases h
  · rw [if_neg h1] at h
    by_cases h2 : zFrom none l = 0
    · rw [if_pos h2] at h
      obtain ⟨g1, g2, _⟩ := zFrom_ok l none h2
      by_cases h3 : hereK pk l [47] = true
      · rw [if_pos h3] at h
        by_cases h4 : l.all (upHere l) = true
        · rw [if_pos h4] at h
          by_cases h5 : l.any (upOwn l) = true
          · rw [if_pos h5] at h; cases h
          · refine ⟨by omega, g1, g2, h3, List.all_eq_true.1 h4, fun z hz => ?_⟩
            cases c : upOwn l z with
            | false => rfl
            | true => exact absurd (List.any_eq_true.2 ⟨z, hz, c⟩) h5
        · rw [if_neg h4] at h; cases h
      · rw [if_neg h3] at h; cases h
    · rw [if_neg h2] at h; exact absurd h h2
theorem RightT.zero {l : List ZZ} (h : RightT l) (hz : zFrom none l = 0) : treeR l = 0 := by
  unfold treeR
  rw [if_neg (by have := h.few; omega), if_pos hz, if_pos h.top, if_pos (List.all_eq_true.2 h.ups), if_neg (fun c => by
    obtain ⟨z, hz, c⟩ := List.any_eq_true.1 c
    rw [h.free z hz] at c
    cases c)]
theorem top_first {l : List ZZ} (hg : ∀ z ∈ l, zOwn z = 0) (hr : Rises pk l) (h : hereK pk l [47] = true) : posK pk l [47] = 0 := by
  have hp := hereK_lt h
  have h0 : 0 < l.length := by omega
  have hn : ¬ pk l[0] < [47] := by
    obtain ⟨_, ⟨t, ht⟩, _⟩ := path_mark (zOwn_ok (hg _ (List.getElem_mem h0))).1
    unfold pk
    rw [ht]
    intro c
    rcases List.cons_lt_cons_iff.1 c with c | ⟨_, c⟩
    · exact UInt8.lt_irrefl _ c
    · exact absurd c (by simp)
  have := (not_congr (posK_iff hr [47] 0 h0)).1 hn
  omega
end Go.Proofs.YthdddcegopgopaaDoor.Pure

/- What is wrong with a tree: by the program (a search by halves) and by the reference (one by one) the same, for every list of nodes. -/
namespace Go.Proofs.YthdddcegopgopaaDoor.Pure
open Go.RowKit Go.Proofs.YthdddcegopgopaaDoor.Qa Go.Proofs.YthdddcegopgopaaDoorW.PrintWords Go.Proofs.YthdddcegopgopaaDoorW.PrintLast Go.Proofs.YthdddcegopgopaaDoor.Aid

theorem bl_pk (a b : ByteArray) : (Op.bytesLess a.toList b.toList = true) = (a.data.toList < b.data.toList) := by
  rw [tl, tl, bl_lt]
  exact decide_eq_true_eq
theorem order_is (z : ZZ) (q : ByteArray) : impl_pathOrder.f z.f0 z.f1 z.f2 z.f3 z.f4 q = some (if pk z < q.data.toList then -1 else if pk z = q.data.toList then 0 else 1) := by
  unfold impl_pathOrder.f strings_Compare.f
  rw [cmp_is]
  rfl
/-- The search by halves. -/
theorem find_l0 {l : List ZZ} (h : Rises pk l) (hl : l.length ≤ 1048576000) (q : ByteArray) (d : Nat) : ∀ (lo hi : Nat), hi - lo ≤ d → lo ≤ posK pk l q.data.toList → posK pk l q.data.toList ≤ hi → hi ≤ l.length → Ev (fun k => slices_BinarySearchFunc_impl_Znode_impl_Znode_string.l0 k l q (l.length : Int) (lo : Int) (hi : Int)) ((posK pk l q.data.toList : Int), hereK pk l q.data.toList) := by
  induction d with
  | zero =>
    intro lo hi hd h1 h2 h3
    have e : lo = posK pk l q.data.toList := by omega
    subst e
    refine ev_done fun k => ?_
    simp only [slices_BinarySearchFunc_impl_Znode_impl_Znode_string.l0]
    rw [if_neg (by omega)]
    by_cases hp : posK pk l q.data.toList < l.length
    · rw [if_pos (by omega), if_pos (by omega), if_pos (by omega), rd_T47_at hp, order_is, Option.bind_some]
      have hn : ¬ pk (l[posK pk l q.data.toList]) < q.data.toList := fun c => by have := (posK_iff h q.data.toList _ hp).1 c; omega
      have e : hereK pk l q.data.toList = decide (pk (l[posK pk l q.data.toList]) = q.data.toList) := by unfold hereK; rw [List.getElem?_eq_getElem hp]
      rw [e, if_neg hn]
      by_cases c : pk (l[posK pk l q.data.toList]) = q.data.toList
      · rw [if_pos c, decide_eq_true c]; rfl
      · rw [if_neg c, decide_eq_false c]; rfl
    · rw [if_neg (by omega)]
      have e : hereK pk l q.data.toList = false := by unfold hereK; rw [List.getElem?_eq_none (by omega)]
      rw [e]
  | succ d ih =>
    intro lo hi hd h1 h2 h3
    by_cases hlt : lo < hi
    · have hm : (lo + hi) / 2 < l.length := by omega
      have hiff := posK_iff h q.data.toList _ hm
      have hmid := mid_eq (a := lo) (b := hi) (by omega)
      by_cases c : pk (l[(lo + hi) / 2]) < q.data.toList
      · refine ev_step (fun k => slices_BinarySearchFunc_impl_Znode_impl_Znode_string.l0 k l q (l.length : Int) (((lo + hi) / 2 + 1 : Nat) : Int) (hi : Int)) (fun k => ?_) (ih _ _ (by omega) (by have := hiff.1 c; omega) h2 h3)
        simp only [slices_BinarySearchFunc_impl_Znode_impl_Znode_string.l0]
        rw [hmid, if_pos (by omega), if_pos (by omega), if_pos (by omega), rd_T47_at hm, order_is, if_pos c, Option.bind_some, if_pos (by omega), wrap_up hm (by omega)]
      · refine ev_step (fun k => slices_BinarySearchFunc_impl_Znode_impl_Znode_string.l0 k l q (l.length : Int) (lo : Int) (((lo + hi) / 2 : Nat) : Int)) (fun k => ?_) (ih _ _ (by omega) h1 (by have := (not_congr hiff).1 c; omega) (by omega))
        simp only [slices_BinarySearchFunc_impl_Znode_impl_Znode_string.l0]
        rw [hmid, if_pos (by omega), if_pos (by omega), if_pos (by omega), rd_T47_at hm, order_is, if_neg c, Option.bind_some, if_neg (by split <;> omega)]
    · exact (fun e : hi - lo ≤ d => ih lo hi e h1 h2 h3) (by omega)
theorem find_is {l : List ZZ} (h : Rises pk l) (hl : l.length ≤ 1048576000) (q : ByteArray) : Ev (fun k => impl_find.f k l q) ((posK pk l q.data.toList : Int), hereK pk l q.data.toList) := by
  unfold impl_find.f slices_BinarySearchFunc_impl_Znode_impl_Znode_string.f
  exact ev_call (find_l0 h hl q l.length 0 l.length (by omega) (by omega) (posK_le pk l _) (Nat.le_refl _)) (Ev.now _)
/-- One by one. -/
theorem at_l0 {l : List ZZ} (h : Rises pk l) (hl : l.length ≤ 1048576000) (q : ByteArray) (d : Nat) : ∀ (i : Nat), i + d = l.length → (hereK pk l q.data.toList = true → i ≤ posK pk l q.data.toList) → Ev (fun k => spec_l2At.l0 k l q (i : Int)) (if hereK pk l q.data.toList then (posK pk l q.data.toList : Int) else -1) := by
  induction d with
  | zero =>
    intro i hd hi
    have e : hereK pk l q.data.toList = false := by
      cases c : hereK pk l q.data.toList with
      | false => rfl
      | true => have := hereK_lt c; have := hi c; omega
    rw [e]
    exact ev_done fun k => by simp only [spec_l2At.l0]; rw [if_neg (by omega)]; rfl
  | succ d ih =>
    intro i hd hi
    have hil : i < l.length := by omega
    by_cases c : pk l[i] = q.data.toList
    · obtain ⟨e1, e2⟩ := hereK_at h i hil
      rw [c] at e1 e2
      rw [e2, e1]
      exact ev_done fun k => by simp only [spec_l2At.l0]; rw [if_pos (by omega), if_pos (by omega), rd_T47_at hil, tl, tl, if_pos (show (l[i]).f0.data.toList = q.data.toList from c)]; rfl
    · refine ev_step (fun k => spec_l2At.l0 k l q ((i + 1 : Nat) : Int)) (fun k => ?_) (ih (i + 1) (by omega) (fun hh => ?_))
      · simp only [spec_l2At.l0]; rw [if_pos (by omega), if_pos (by omega), rd_T47_at hil, tl, tl, if_neg (show ¬ (l[i]).f0.data.toList = q.data.toList from c), wrap_up hil (by omega)]
      · have h1 := hi hh
        have h2 := hereK_eq hh
        have : i ≠ posK pk l q.data.toList := fun e => c (by
          have : ∀ (j : Nat) (hj : j < l.length), i = j → pk l[j] = q.data.toList → pk l[i] = q.data.toList := fun j hj e => by subst e; exact id
          exact this _ (hereK_lt hh) e h2)
        omega
theorem at_is {l : List ZZ} (h : Rises pk l) (hl : l.length ≤ 1048576000) (q : ByteArray) : Ev (fun k => spec_l2At.f k l q) (if hereK pk l q.data.toList then (posK pk l q.data.toList : Int) else -1) := at_l0 h hl q l.length 0 (by omega) (fun _ => Nat.zero_le _)

/-- One node, by the program. -/
theorem nodeFault_is (z : ZZ) : Ev (fun k => impl_nodeFault.f k z.f0 z.f1 z.f2 z.f3 z.f4) (zOwn z) := by
  unfold impl_nodeFault.f zOwn
  refine ev_call (fault_impl z.f0) (ev_is fun k => ?_)
  by_cases h : faultR z.f0 = 0
  · rw [if_pos h, if_pos h]
    unfold impl_isData.f impl_isOwner.f zIn
    rw [impl_within_is, impl_within_is, impl_within_is, impl_within_is]
    by_cases c1 : 0 ≤ z.f1 ∧ z.f1 ≤ 9999 <;> by_cases c2 : 0 ≤ z.f2 ∧ z.f2 ≤ 999 <;> by_cases c3 : 0 ≤ z.f3 ∧ z.f3 ≤ 9 <;> by_cases c4 : 0 ≤ z.f4 ∧ z.f4 ≤ 100 <;> simp [c1, c2, c3, c4]
  · rw [if_neg h, if_neg h]
def prevK (l : List ZZ) : Nat → Option (List UInt8)
  | 0 => none
  | i + 1 => some (pk (rd_T47 l (i : Int)))
theorem wrap_dn {i : Nat} (h : i < 4611686018427387904) : wrap64 (((i + 1 : Nat) : Int) - 1) = (i : Int) := by
  rw [wrap_id (by omega) (by omega)]
  omega
/-- What is left when the nodes one by one are right. -/
theorem impl_l0 (l : List ZZ) (hl : l.length ≤ 20) (r : Int) (hr : zFrom none l = 0 → Ev (fun k => impl_TreeFault.l0 k l l (l.length : Int) (l.length : Int)) r) (d : Nat) : ∀ (i : Nat), i + d = l.length → (zFrom none l = zFrom (prevK l i) (l.drop i)) → Ev (fun k => impl_TreeFault.l0 k l l (l.length : Int) (i : Int)) (if zFrom none l = 0 then r else zFrom none l) := by
  induction d with
  | zero =>
    intro i h he
    have e : i = l.length := by omega
    subst e
    rw [List.drop_length] at he
    have h0 : zFrom none l = 0 := he
    rw [if_pos h0]
    exact hr h0
  | succ d ih =>
    intro i h he
    have hi : i < l.length := by omega
    have hrd := rd_T47_at hi
    rw [drop_at hi, zFrom_cons] at he
    have hp : prevK l (i + 1) = some (pk l[i]) := by rw [prevK, hrd]
    refine ev_step (fun k => (impl_nodeFault.f k (l[i]).f0 (l[i]).f1 (l[i]).f2 (l[i]).f3 (l[i]).f4).bind fun t103 => (if t103 = 0 then (if (i : Int) > 0 then (if 0 ≤ (wrap64 ((i : Int) - 1)) then (if (wrap64 ((i : Int) - 1)) < (l.length : Int) then (if ((Op.bytesLess (((rd_T47 l (wrap64 ((i : Int) - 1))).f0).toList) (((l[i]).f0).toList)) = true) then (impl_TreeFault.l0 k l l (l.length : Int) ((i + 1 : Nat) : Int)) else (some 1)) else (none)) else (none)) else (impl_TreeFault.l0 k l l (l.length : Int) ((i + 1 : Nat) : Int))) else (some t103))) (fun k => ?_) (ev_call (nodeFault_is l[i]) ?_)
    · simp only [impl_TreeFault.l0]
      rw [if_pos (by omega), if_pos (by omega), if_pos (by omega), hrd, wrap_up hi (by omega)]
    · by_cases ho : zOwn l[i] = 0
      · refine ev_cong (fun k => if_pos ho) ?_
        cases i with
        | zero =>
          have e1 : zOne (prevK l 0) l[0] = 0 := by unfold zOne; rw [if_pos ho]; rfl
          rw [if_pos e1] at he
          rw [← hp] at he
          exact ev_cong (fun k => if_neg (by omega)) (ih 1 (by omega) he)
        | succ j =>
          have hj : j < l.length := by omega
          have wd := wrap_dn (i := j) (by omega)
          refine ev_cong (fun k => (if_pos (by omega)).trans ?_) (f := fun k => if ((Op.bytesLess (((rd_T47 l (j : Int)).f0).toList) (((l[j + 1]).f0).toList)) = true) then (impl_TreeFault.l0 k l l (l.length : Int) ((j + 1 + 1 : Nat) : Int)) else (some 1)) ?_
          · rw [wd, if_pos (by omega), if_pos (by omega)]
          · by_cases c : pk (rd_T47 l (j : Int)) < pk l[j + 1]
            · have e1 : zOne (prevK l (j + 1)) l[j + 1] = 0 := by unfold zOne; rw [if_pos ho]; exact if_pos c
              rw [if_pos e1, ← hp] at he
              refine ev_cong (fun k => if_pos (by rw [bl_pk]; exact c)) (ih (j + 1 + 1) (by omega) he)
            · have e1 : zOne (prevK l (j + 1)) l[j + 1] = 1 := by unfold zOne; rw [if_pos ho]; exact if_neg c
              rw [e1, if_neg (by omega)] at he
              rw [he, if_neg (by omega)]
              exact ev_is fun k => if_neg (by rw [bl_pk]; exact c)
      · have e1 : zOne (prevK l i) l[i] = zOwn l[i] := by unfold zOne; rw [if_neg ho]
        rw [e1, if_neg ho] at he
        rw [he, if_neg ho]
        exact ev_is fun k => if_neg ho
theorem spec_l0 (l : List ZZ) (hl : l.length ≤ 20) (r : Int) (hr : zFrom none l = 0 → Ev (fun k => spec_l2Fault.l0 k l (l.length : Int)) r) (d : Nat) : ∀ (i : Nat), i + d = l.length → (zFrom none l = zFrom (prevK l i) (l.drop i)) → Ev (fun k => spec_l2Fault.l0 k l (i : Int)) (if zFrom none l = 0 then r else zFrom none l) := by
  induction d with
  | zero =>
    intro i h he
    have e : i = l.length := by omega
    subst e
    rw [List.drop_length] at he
    have h0 : zFrom none l = 0 := he
    rw [if_pos h0]
    exact hr h0
  | succ d ih =>
    intro i h he
    have hi : i < l.length := by omega
    have hrd := rd_T47_at hi
    rw [drop_at hi, zFrom_cons] at he
    have hp : prevK l (i + 1) = some (pk l[i]) := by rw [prevK, hrd]
    refine ev_step (fun k => (spec_l1Fault.f k (l[i]).f0).bind fun t103 => (if t103 = 0 then spec_l2Fault.j1 k l (i : Int) (!zIn l[i]) else (some t103))) (fun k => ?_) (ev_call (fault_spec (l[i]).f0) ?_)
    · simp only [spec_l2Fault.l0]
      rw [if_pos (by omega), if_pos (by omega), hrd]
      refine congrArg (fun z => Option.bind _ z) (funext fun t => ?_)
      unfold spec_l2Data.f spec_l2Owner.f zIn
      rw [spec_l1In_is, spec_l1In_is, spec_l1In_is, spec_l1In_is]
      by_cases c0 : t = 0
      · rw [if_pos c0, if_pos c0]
        by_cases c1 : 0 ≤ (l[i]).f1 ∧ (l[i]).f1 ≤ 9999 <;> by_cases c2 : 0 ≤ (l[i]).f2 ∧ (l[i]).f2 ≤ 999 <;> by_cases c3 : 0 ≤ (l[i]).f3 ∧ (l[i]).f3 ≤ 9 <;> by_cases c4 : 0 ≤ (l[i]).f4 ∧ (l[i]).f4 ≤ 100 <;> simp [c1, c2, c3, c4]
      · rw [if_neg c0, if_neg c0]
    · by_cases hf : faultR (l[i]).f0 = 0
      · refine ev_cong (fun k => if_pos hf) ?_
        cases hz : zIn l[i] with
        | false =>
          have ho : zOwn l[i] = 3 := by unfold zOwn; rw [if_pos hf, if_neg (by simp [hz])]
          have e1 : zOne (prevK l i) l[i] = 3 := by unfold zOne; rw [if_neg (by omega), ho]
          rw [e1, if_neg (by omega)] at he
          rw [he, if_neg (by omega)]
          exact ev_done fun k => by simp only [spec_l2Fault.j1]; exact if_pos rfl
        | true =>
          have ho : zOwn l[i] = 0 := by unfold zOwn; rw [if_pos hf, if_pos hz]
          cases i with
          | zero =>
            have e1 : zOne (prevK l 0) l[0] = 0 := by unfold zOne; rw [if_pos ho]; rfl
            rw [if_pos e1, ← hp] at he
            refine ev_step (fun k => spec_l2Fault.l0 k l ((0 + 1 : Nat) : Int)) (fun k => ?_) (ih 1 (by omega) he)
            simp only [spec_l2Fault.j1]; rw [if_neg (by simp), if_neg (by omega), wrap_up hi (by omega)]
          | succ j =>
            have hj : j < l.length := by omega
            have wd := wrap_dn (i := j) (by omega)
            by_cases c : pk (rd_T47 l (j : Int)) < pk l[j + 1]
            · have e1 : zOne (prevK l (j + 1)) l[j + 1] = 0 := by unfold zOne; rw [if_pos ho]; exact if_pos c
              rw [if_pos e1, ← hp] at he
              refine ev_step (fun k => spec_l2Fault.l0 k l ((j + 1 + 1 : Nat) : Int)) (fun k => ?_) (ih (j + 1 + 1) (by omega) he)
              simp only [spec_l2Fault.j1]; rw [if_neg (by simp), if_pos (by omega), if_pos (by omega), if_pos (by omega), wd, if_pos (by omega), if_pos (by omega), if_pos (by rw [hrd, bl_pk]; exact c), wrap_up hi (by omega)]
            · have e1 : zOne (prevK l (j + 1)) l[j + 1] = 1 := by unfold zOne; rw [if_pos ho]; exact if_neg c
              rw [e1, if_neg (by omega)] at he
              rw [he, if_neg (by omega)]
              exact ev_done fun k => by simp only [spec_l2Fault.j1]; rw [if_neg (by simp), if_pos (by omega), if_pos (by omega), if_pos (by omega), wd, if_pos (by omega), if_pos (by omega), if_neg (by rw [hrd, bl_pk]; exact c)]
      · have ho : zOwn l[i] = faultR (l[i]).f0 := by unfold zOwn; rw [if_neg hf]
        have e1 : zOne (prevK l i) l[i] = zOwn l[i] := by unfold zOne; rw [if_neg (by rw [ho]; exact hf)]
        rw [e1, ho, if_neg hf] at he
        rw [he, if_neg hf]
        exact ev_is fun k => if_neg hf
/-- The parents, by the reference: they are there .. -/
theorem spec_l1_ (l : List ZZ) (hg : ∀ z ∈ l, zOwn z = 0) (hR : Rises pk l) (hl : l.length ≤ 20) (r : Int) (hr : l.all (upHere l) = true → Ev (fun k => spec_l2Fault.l2 k l 0) r) (d : Nat) : ∀ (i : Nat), i + d = l.length → (l.all (upHere l) = (l.drop i).all (upHere l)) → Ev (fun k => spec_l2Fault.l1 k l (i : Int)) (if l.all (upHere l) = true then r else 4) := by
  induction d with
  | zero =>
    intro i h he
    rw [drop_end (by omega)] at he
    have he' : l.all (upHere l) = true := he
    rw [if_pos he']
    refine ev_step _ (fun k => ?_) (hr he')
    simp only [spec_l2Fault.l1]; rw [if_neg (by omega)]
  | succ d ih =>
    intro i h he
    have hi : i < l.length := by omega
    have hrd := rd_T47_at hi
    rw [drop_at hi, List.all_cons] at he
    have hgi := zOwn_ok (hg _ (List.getElem_mem hi))
    refine ev_step (fun k => (spec_l1Parent.f k (l[i]).f0).bind fun t116 => ((spec_l2At.f k l t116).bind fun t117 => (if t117 < 0 then (some 4) else (spec_l2Fault.l1 k l ((i + 1 : Nat) : Int))))) (fun k => ?_) (ev_call (parent_is hgi.1) (ev_call (at_is hR (by omega) (upR (l[i]).f0)) ?_))
    · simp only [spec_l2Fault.l1]; rw [if_pos (by omega), if_pos (by omega), hrd, wrap_up hi (by omega)]
    · have e : hereK pk l (upR (l[i]).f0).data.toList = upHere l l[i] := rfl
      rw [e]
      cases c : upHere l l[i] with
      | true =>
        rw [c, Bool.true_and] at he
        exact ev_cong (fun k => if_neg (by rw [if_pos rfl]; omega)) (ih (i + 1) (by omega) he)
      | false =>
        rw [c, Bool.false_and] at he
        rw [he, if_neg (by simp)]
        exact ev_is fun k => if_pos (by simp)
/-- .. and nobody's. -/
theorem spec_l2_ (l : List ZZ) (hg : ∀ z ∈ l, zOwn z = 0) (hR : Rises pk l) (hl : l.length ≤ 20) (hA : l.all (upHere l) = true) (d : Nat) : ∀ (i : Nat), i + d = l.length → (l.any (upOwn l) = (l.drop i).any (upOwn l)) → Ev (fun k => spec_l2Fault.l2 k l (i : Int)) (if l.any (upOwn l) = true then 1 else 0) := by
  induction d with
  | zero =>
    intro i h he
    rw [drop_end (by omega)] at he
    have he' : l.any (upOwn l) = false := he
    rw [he', if_neg (by simp)]
    exact ev_done fun k => by simp only [spec_l2Fault.l2]; rw [if_neg (by omega)]
  | succ d ih =>
    intro i h he
    have hi : i < l.length := by omega
    have hrd := rd_T47_at hi
    rw [drop_at hi, List.any_cons] at he
    have hgi := zOwn_ok (hg _ (List.getElem_mem hi))
    have hh : hereK pk l (upR (l[i]).f0).data.toList = true := List.all_eq_true.1 hA _ (List.getElem_mem hi)
    have hp := hereK_lt hh
    have ho : upOwn l l[i] = !decide ((rd_T47 l (posK pk l (upR (l[i]).f0).data.toList : Int)).f3 = 0) := rfl
    refine ev_step (fun k => (spec_l1Parent.f k (l[i]).f0).bind fun t119 => ((spec_l2At.f k l t119).bind fun t120 => (if 0 ≤ t120 then (if t120 < (l.length : Int) then (if ((rd_T47 l t120).f3) = 0 then (spec_l2Fault.l2 k l ((i + 1 : Nat) : Int)) else (some 1)) else (none)) else (none)))) (fun k => ?_) (ev_call (parent_is hgi.1) (ev_call (at_is hR (by omega) (upR (l[i]).f0)) ?_))
    · simp only [spec_l2Fault.l2]; rw [if_pos (by omega), if_pos (by omega), hrd, wrap_up hi (by omega)]
    · rw [hh]
      generalize hP : posK pk l (upR (l[i]).f0).data.toList = P at hp ho
      refine ev_cong (f := fun k => (if ((rd_T47 l (P : Int)).f3) = 0 then (spec_l2Fault.l2 k l ((i + 1 : Nat) : Int)) else (some 1))) (fun k => ?_) ?_
      · rw [if_pos rfl, if_pos (by omega), if_pos (by omega)]
      · by_cases c : (rd_T47 l (P : Int)).f3 = 0
        · have : upOwn l l[i] = false := by rw [ho, decide_eq_true c]; rfl
          rw [this, Bool.false_or] at he
          exact ev_cong (fun k => if_pos c) (ih (i + 1) (by omega) he)
        · have : upOwn l l[i] = true := by rw [ho, decide_eq_false c]; rfl
          rw [this, Bool.true_or] at he
          rw [he, if_pos rfl]
          exact ev_is fun k => if_neg c
theorem treeR_spec (l : List ZZ) : Ev (fun k => spec_l2Fault.f k l) (treeR l) := by
  unfold spec_l2Fault.f treeR
  by_cases h : l.length > 20
  · rw [if_pos h]
    exact ev_is fun k => if_pos (by omega)
  · rw [if_neg h]
    refine ev_cong (fun k => if_neg (by omega)) (spec_l0 l (by omega) _ (fun hz => ?_) l.length 0 (by omega) rfl)
    obtain ⟨hg, hR, _⟩ := zFrom_ok l none hz
    refine ev_step (fun k => (spec_l2At.f k l (⟨#[47]⟩ : ByteArray)).bind fun t114 => (if t114 < 0 then (some 4) else (spec_l2Fault.l1 k l 0))) (fun k => ?_) (ev_call (at_is hR (by omega) (⟨#[47]⟩ : ByteArray)) ?_)
    · simp only [spec_l2Fault.l0]; rw [if_neg (by omega)]
    · have e : (⟨#[47]⟩ : ByteArray).data.toList = [47] := rfl
      rw [e]
      cases c : hereK pk l [47] with
      | false =>
        rw [if_neg (by simp)]
        exact ev_is fun k => if_pos (by simp)
      | true =>
        rw [if_pos rfl]
        refine ev_cong (fun k => if_neg (by omega)) (spec_l1_ l hg hR (by omega) _ (fun hA => ?_) l.length 0 (by omega) rfl)
        exact spec_l2_ l hg hR (by omega) hA l.length 0 (by omega) rfl
/-- The parents, by the program: all but the first node's. -/
theorem impl_l1_ (l m : List ZZ) (hm : ∀ z ∈ m, zOwn z = 0) (hR : Rises pk l) (hl : l.length ≤ 20) (hml : m.length ≤ 20) (d : Nat) : ∀ (i : Nat) (b : Bool), i + d = m.length → Ev (fun k => impl_TreeFault.l1 k l b m (m.length : Int) (i : Int)) (if (m.drop i).all (upHere l) = true then (if (b || (m.drop i).any (upOwn l)) = true then 1 else 0) else 4) := by
  induction d with
  | zero =>
    intro i b h
    rw [drop_end (by omega)]
    refine ev_done fun k => ?_
    simp only [impl_TreeFault.l1]
    rw [if_neg (by omega), List.all_nil, if_pos rfl, List.any_nil, Bool.or_false]
    cases b <;> rfl
  | succ d ih =>
    intro i b h
    have hi : i < m.length := by omega
    have hrd := rd_T47_at hi
    have hgi := zOwn_ok (hm _ (List.getElem_mem hi))
    rw [drop_at hi, List.all_cons, List.any_cons]
    refine ev_step (fun k => (impl_parted.f k (m[i]).f0).bind fun bt114 => ((impl_find.f k l bt114.1).bind fun bt116 => (if bt116.2 = true then (if b = true then (impl_TreeFault.l1 k l true m (m.length : Int) ((i + 1 : Nat) : Int)) else (if 0 ≤ bt116.1 then (if bt116.1 < (l.length : Int) then (impl_TreeFault.l1 k l (((rd_T47 l bt116.1).f3) != 0) m (m.length : Int) ((i + 1 : Nat) : Int)) else (none)) else (none))) else (some 4)))) (fun k => ?_) (ev_call (parted_is hgi.1) (ev_call (find_is hR (by omega) (upR (m[i]).f0)) ?_))
    · simp only [impl_TreeFault.l1]; rw [if_pos (by omega), if_pos (by omega), if_pos (by omega), hrd, wrap_up hi (by omega)]
    · have e : hereK pk l (upR (m[i]).f0).data.toList = upHere l m[i] := rfl
      have ho : upOwn l m[i] = !decide ((rd_T47 l (posK pk l (upR (m[i]).f0).data.toList : Int)).f3 = 0) := rfl
      have hp : upHere l m[i] = true → posK pk l (upR (m[i]).f0).data.toList < l.length := fun c => hereK_lt c
      generalize hP : posK pk l (upR (m[i]).f0).data.toList = P at ho hp
      rw [e]
      cases c : upHere l m[i] with
      | false =>
        rw [Bool.false_and, if_neg (by simp)]
        exact ev_is fun k => if_neg (by simp)
      | true =>
        have hp := hp c
        rw [Bool.true_and]
        cases b with
        | true =>
          have IH := ih (i + 1) true (by omega)
          rw [Bool.true_or] at IH ⊢
          exact ev_cong (fun k => (if_pos rfl).trans (if_pos rfl)) IH
        | false =>
          have e2 : (((rd_T47 l (P : Int)).f3) != 0) = upOwn l m[i] := by
            rw [ho]
            by_cases c2 : (rd_T47 l (P : Int)).f3 = 0
            · rw [decide_eq_true c2, c2]; rfl
            · rw [decide_eq_false c2]; exact bne_iff_ne.2 c2
          have IH := ih (i + 1) (upOwn l m[i]) (by omega)
          rw [Bool.false_or]
          refine ev_cong (fun k => ?_) IH
          rw [if_pos rfl, if_neg (by simp), if_pos (by show 0 ≤ (P : Int); omega), if_pos (by show (P : Int) < (l.length : Int); omega)]
          show impl_TreeFault.l1 k l (((rd_T47 l (P : Int)).f3) != 0) m (m.length : Int) ((i + 1 : Nat) : Int) = _
          rw [e2]
theorem treeR_impl (l : List ZZ) : Ev (fun k => impl_TreeFault.f k l) (treeR l) := by
  unfold impl_TreeFault.f treeR
  by_cases h : l.length > 20
  · rw [if_pos h]
    exact ev_is fun k => if_pos (by omega)
  · rw [if_neg h]
    refine ev_cong (fun k => if_neg (by omega)) (impl_l0 l (by omega) _ (fun hz => ?_) l.length 0 (by omega) rfl)
    obtain ⟨hg, hR, _⟩ := zFrom_ok l none hz
    refine ev_step (fun k => (impl_find.f k l (⟨#[47]⟩ : ByteArray)).bind fun bt105 => (if bt105.2 = true then (if 0 < (l.length : Int) then (if 1 ≤ (l.length : Int) then ((some (l.drop 1 : List ZZ)).bind fun y108 => (impl_TreeFault.l1 k l (((rd_T47 l 0).f3) != 0) y108 (y108.length : Int) 0)) else (none)) else (none)) else (some 4))) (fun k => ?_) (ev_call (find_is hR (by omega) (⟨#[47]⟩ : ByteArray)) ?_)
    · simp only [impl_TreeFault.l0]; rw [if_neg (by omega)]
    · have e : (⟨#[47]⟩ : ByteArray).data.toList = [47] := rfl
      rw [e]
      cases c : hereK pk l [47] with
      | false =>
        rw [if_neg (by simp)]
        exact ev_is fun k => if_neg (by simp)
      | true =>
        rw [if_pos rfl]
        have hp := hereK_lt c
        have h0 := top_first hg hR c
        have hlen : 0 < l.length := by omega
        have hk : pk l[0] = [47] := by
          have := hereK_eq c
          have g : ∀ (j : Nat) (hj : j < l.length), j = 0 → pk l[j] = [47] → pk l[0] = [47] := fun j hj e => by subst e; exact id
          exact g _ hp h0 this
        have hsplit : l = l[0] :: l.drop 1 := by
          have := drop_at hlen
          rwa [List.drop_zero] at this
        have hu : upR (l[0]).f0 = (⟨#[47]⟩ : ByteArray) := upR_top _ hk
        have hu0 : upHere l l[0] = true := by unfold upHere upK; rw [hu]; exact c
        have ho0 : upOwn l l[0] = (((rd_T47 l 0).f3) != 0) := by
          unfold upOwn upK
          rw [hu]
          have e3 : (⟨#[47]⟩ : ByteArray).data.toList = [47] := rfl
          rw [e3, h0]
          show (!decide ((rd_T47 l 0).f3 = 0)) = ((rd_T47 l 0).f3 != 0)
          by_cases c2 : (rd_T47 l 0).f3 = 0
          · rw [decide_eq_true c2, c2]; rfl
          · rw [decide_eq_false c2]; exact (bne_iff_ne.2 c2).symm
        have hall : l.all (upHere l) = (l.drop 1).all (upHere l) := by
          have g : ∀ m : List ZZ, m = l[0] :: l.drop 1 → m.all (upHere l) = (l.drop 1).all (upHere l) := fun m hm => by rw [hm, List.all_cons, hu0, Bool.true_and]
          exact g l hsplit
        have hany : l.any (upOwn l) = ((((rd_T47 l 0).f3) != 0) || (l.drop 1).any (upOwn l)) := by
          have g : ∀ m : List ZZ, m = l[0] :: l.drop 1 → m.any (upOwn l) = ((((rd_T47 l 0).f3) != 0) || (l.drop 1).any (upOwn l)) := fun m hm => by rw [hm, List.any_cons, ho0]
          exact g l hsplit
        rw [hall, hany]
        have := impl_l1_ l (l.drop 1) (fun z hz => hg z (List.mem_of_mem_drop hz)) hR (by omega) (by rw [List.length_drop]; omega) (l.drop 1).length 0 (((rd_T47 l 0).f3) != 0) (by omega)
        rw [List.drop_zero] at this
        refine ev_cong (fun k => ?_) this
        rw [if_pos rfl, if_pos (by omega), if_pos (by omega), Option.bind_some]
        rfl
end Go.Proofs.YthdddcegopgopaaDoor.Pure

/- Answers that hold nodes, and answers that hold texts: compared with themselves, marked, held. -/
namespace Go.Proofs.YthdddcegopgopaaDoor.Pure
open Go.RowKit Go.Proofs.YthdddcegopgopaaDoor.Qa Go.Proofs.YthdddcegopgopaaDoorW.PrintWords Go.Proofs.YthdddcegopgopaaDoorW.PrintLast Go.Proofs.YthdddcegopgopaaDoor.Aid
theorem eqZR (c : Int) (p : ByteArray) (l : List ZZ) (hl : l.length ≤ 4611686018427387904) : Ev (fun k => laws_eqZResult.f k c p l c p l) true := by
  unfold laws_eqZResult.f
  exact ev_cong (fun k => if_pos rfl) (ev_cong (fun k => if_pos rfl) (ev_call (laws_eqZnodeS.ev l hl) (ev_is fun k => if_pos rfl)))
theorem markZR (c : Int) (p : ByteArray) (l : List ZZ) (hl : l.length ≤ 1048576000) : Ev (fun k => laws_markZResult.f k c p l 1) (1 + 5 * l.length, rowZnodeS l.length 1) := by
  unfold laws_markZResult.f
  exact ev_call (laws_markZnodeS.ev l 1 hl (by omega) (by omega)) (Ev.now _)
theorem heldZR (c : Int) (p : ByteArray) (n : Nat) (hl : n ≤ 1048576000) : Ev (fun k => laws_heldZResult.f k c p (rowZnodeS n 1) 1) (1 + 5 * (n : Int)) := by
  unfold laws_heldZResult.f
  exact ev_call (laws_heldZnodeS.ev n 1 hl (by omega) (by omega)) (ev_is fun k => if_neg (by omega))
/-- The code of a tree and a path. -/
noncomputable def askT (l : List ZZ) (q : ByteArray) : Int := if treeR l = 0 then faultR q else treeR l
theorem askT_spec (l : List ZZ) (q : ByteArray) : Ev (fun k => spec_l2Asked.f k l q) (askT l q) := by
  unfold spec_l2Asked.f askT
  refine ev_call (treeR_spec l) ?_
  by_cases h : treeR l = 0
  · rw [if_pos h]
    exact ev_cong (fun k => if_pos h) (ev_call (fault_spec q) (Ev.now _))
  · rw [if_neg h]
    exact ev_is fun k => if_neg h
theorem askT_impl (l : List ZZ) (q : ByteArray) : Ev (fun k => impl_zCode.f k l q) (askT l q) := by
  unfold impl_zCode.f askT
  refine ev_call (treeR_impl l) ?_
  by_cases h : treeR l = 0
  · rw [if_pos h]
    exact ev_cong (fun k => if_pos h) (ev_call (fault_impl q) (Ev.now _))
  · rw [if_neg h]
    exact ev_is fun k => if_neg h
theorem askT_ok {l : List ZZ} {q : ByteArray} (h : askT l q = 0) : RightT l ∧ faultR q = 0 ∧ treeR l = 0 := by
  unfold askT at h
  by_cases h1 : treeR l = 0
  · rw [if_pos h1] at h
    exact ⟨right_of h1, h, h1⟩
  · rw [if_neg h1] at h; exact absurd h h1
abbrev ZR := Int × ByteArray × List ZZ
def badZ (c : Int) : ZR := (c, (⟨#[]⟩ : ByteArray), [])
end Go.Proofs.YthdddcegopgopaaDoor.Pure

/- The kids of a path: by the program and by the reference the same. -/
namespace Go.Proofs.YthdddcegopgopaaDoor.Pure
open Go.RowKit Go.Proofs.YthdddcegopgopaaDoor.Qa Go.Proofs.YthdddcegopgopaaDoorW.PrintWords Go.Proofs.YthdddcegopgopaaDoorW.PrintLast Go.Proofs.YthdddcegopgopaaDoor.Aid
noncomputable def kidsL (q : ByteArray) : List ZZ → List ByteArray
  | [] => []
  | z :: r => if pk z = [47] then kidsL q r else if (upR z.f0).data.toList = q.data.toList then nmR z.f0 :: kidsL q r else kidsL q r
theorem kidsL_cons (q : ByteArray) (z : ZZ) (r : List ZZ) : kidsL q (z :: r) = if pk z = [47] then kidsL q r else if (upR z.f0).data.toList = q.data.toList then nmR z.f0 :: kidsL q r else kidsL q r := rfl
theorem kidsL_len (q : ByteArray) : ∀ l : List ZZ, (kidsL q l).length ≤ l.length
  | [] => Nat.le_refl _
  | z :: r => by
    have := kidsL_len q r
    rw [kidsL_cons, List.length_cons]
    split
    · omega
    · split
      · rw [List.length_cons]; omega
      · omega
theorem kids_spec_l0 {l : List ZZ} (hg : ∀ z ∈ l, zOwn z = 0) (hl : l.length ≤ 20) (q : ByteArray) (d : Nat) : ∀ (i : Nat) (out : List ByteArray), i + d = l.length → out.length ≤ i → Ev (fun k => spec_l2Kids.l0 k l q out (i : Int)) (out ++ kidsL q (l.drop i)) := by
  induction d with
  | zero =>
    intro i out h ho
    rw [drop_end (by omega)]
    exact ev_done fun k => by simp only [spec_l2Kids.l0]; rw [if_neg (by omega)]; simp [kidsL]
  | succ d ih =>
    intro i out h ho
    have hi : i < l.length := by omega
    have hrd := rd_T47_at hi
    have wi := wrap_up hi (by omega)
    obtain ⟨hf, _⟩ := zOwn_ok (hg _ (List.getElem_mem hi))
    rw [drop_at hi, kidsL_cons]
    by_cases c : pk l[i] = [47]
    · rw [if_pos c]
      refine ev_step (fun k => spec_l2Kids.l0 k l q out ((i + 1 : Nat) : Int)) (fun k => ?_) (ih (i + 1) out (by omega) (by omega))
      simp only [spec_l2Kids.l0]; rw [if_pos (by omega), if_pos (by omega), hrd, if_pos (show (l[i]).f0.toList = [47] by rw [tl]; exact c), wi]
    · rw [if_neg c]
      refine ev_step (fun k => (spec_l1Parent.f k (l[i]).f0).bind fun t105 => (if t105.toList = q.toList then ((spec_l1Last.f k (l[i]).f0).bind fun t106 => (if 0 ≤ (wrap64 (t106 + 1)) then (if (wrap64 (t106 + 1)) ≤ ((l[i]).f0.size : Int) then (if out.length < 8796093022208 then (spec_l2Kids.l0 k l q (out ++ [((l[i]).f0).extract ((wrap64 (t106 + 1)) : Int).toNat (l[i]).f0.size]) ((i + 1 : Nat) : Int)) else (none)) else (none)) else (none))) else (spec_l2Kids.l0 k l q out ((i + 1 : Nat) : Int)))) (fun k => ?_) (ev_call (parent_is hf) ?_)
      · simp only [spec_l2Kids.l0]; rw [if_pos (by omega), if_pos (by omega), hrd, if_neg (show ¬ (l[i]).f0.toList = [47] by rw [tl]; exact c), wi]
      · by_cases c2 : (upR (l[i]).f0).data.toList = q.data.toList
        · rw [if_pos c2]
          obtain ⟨_, p, h6, h7, _, h9⟩ := upN_spec hf
          have hsz := (path_mark hf).1
          have wp := w_up p (by omega)
          have IH := ih (i + 1) (out ++ [nmR (l[i]).f0]) (by omega) (by rw [List.length_append]; simp; omega)
          rw [List.append_assoc] at IH
          refine ev_cong (fun k => if_pos (by rw [tl, tl]; exact c2)) (ev_call h9 (ev_cong (fun k => ?_) IH))
          rw [wp, if_pos (by omega), if_pos (by omega), if_pos (by omega), Int.toNat_natCast, ← h7]
        · rw [if_neg c2]
          exact ev_cong (fun k => if_neg (by rw [tl, tl]; exact c2)) (ih (i + 1) out (by omega) (by omega))
theorem kids_spec {l : List ZZ} (hg : ∀ z ∈ l, zOwn z = 0) (hl : l.length ≤ 20) (q : ByteArray) : Ev (fun k => spec_l2Kids.f k l q) (kidsL q l) := by
  have := kids_spec_l0 hg hl q l.length 0 [] (by omega) (Nat.le_refl _)
  rw [List.nil_append, List.drop_zero] at this
  exact this
theorem kids_impl_l0 {l : List ZZ} (hg : ∀ z ∈ l, zOwn z = 0) (hl : l.length ≤ 20) (q : ByteArray) (d : Nat) : ∀ (i : Nat) (out : List ByteArray), i + d = l.length → out.length ≤ i → Ev (fun k => impl_kids.l0 k q out l (l.length : Int) (i : Int)) (out ++ kidsL q (l.drop i)) := by
  induction d with
  | zero =>
    intro i out h ho
    rw [drop_end (by omega)]
    exact ev_done fun k => by simp only [impl_kids.l0]; rw [if_neg (by omega)]; simp [kidsL]
  | succ d ih =>
    intro i out h ho
    have hi : i < l.length := by omega
    have hrd := rd_T47_at hi
    have wi := wrap_up hi (by omega)
    obtain ⟨hf, _⟩ := zOwn_ok (hg _ (List.getElem_mem hi))
    rw [drop_at hi, kidsL_cons]
    refine ev_step (fun k => (impl_parted.f k (l[i]).f0).bind fun bt106 => (if (l[i]).f0.toList = ([47] : List UInt8) then (impl_kids.l0 k q out l (l.length : Int) ((i + 1 : Nat) : Int)) else (if bt106.1.toList = q.toList then (if out.length < 8796093022208 then (impl_kids.l0 k q (out ++ [bt106.2]) l (l.length : Int) ((i + 1 : Nat) : Int)) else (none)) else (impl_kids.l0 k q out l (l.length : Int) ((i + 1 : Nat) : Int))))) (fun k => ?_) (ev_call (parted_is hf) ?_)
    · simp only [impl_kids.l0]; rw [if_pos (by omega), if_pos (by omega), if_pos (by omega), hrd, wi]
    · by_cases c : pk l[i] = [47]
      · rw [if_pos c]
        exact ev_cong (fun k => if_pos (by rw [tl]; exact c)) (ih (i + 1) out (by omega) (by omega))
      · rw [if_neg c]
        refine ev_cong (fun k => if_neg (by rw [tl]; exact c)) ?_
        by_cases c2 : (upR (l[i]).f0).data.toList = q.data.toList
        · rw [if_pos c2]
          have IH := ih (i + 1) (out ++ [nmR (l[i]).f0]) (by omega) (by rw [List.length_append]; simp; omega)
          rw [List.append_assoc] at IH
          exact ev_cong (fun k => (if_pos (by rw [tl, tl]; exact c2)).trans (if_pos (by omega))) IH
        · rw [if_neg c2]
          exact ev_cong (fun k => if_neg (by rw [tl, tl]; exact c2)) (ih (i + 1) out (by omega) (by omega))
theorem kids_impl {l : List ZZ} (hg : ∀ z ∈ l, zOwn z = 0) (hl : l.length ≤ 20) (q : ByteArray) : Ev (fun k => impl_kids.f k l q) (kidsL q l) := by
  have := kids_impl_l0 hg hl q l.length 0 [] (by omega) (Nat.le_refl _)
  rw [List.nil_append, List.drop_zero] at this
  exact this
end Go.Proofs.YthdddcegopgopaaDoor.Pure

/- A list of nodes copied: by the program and by the reference the list itself. -/
namespace Go.Proofs.YthdddcegopgopaaDoor.Pure
open Go.RowKit Go.Proofs.YthdddcegopgopaaDoor.Qa Go.Proofs.YthdddcegopgopaaDoorW.PrintWords Go.Proofs.YthdddcegopgopaaDoorW.PrintLast Go.Proofs.YthdddcegopgopaaDoor.Aid
theorem clone_impl (l : List ZZ) (hl : l.length ≤ 1048576000) : slices_Clone_impl_Znode_impl_Znode.f l = some l := by
  unfold slices_Clone_impl_Znode_impl_Znode.f
  simp only [Option.bind_some, List.nil_append, List.length_nil, Nat.zero_add]
  rw [if_pos (by omega)]
end Go.Proofs.YthdddcegopgopaaDoor.Pure

/- What is deleted: by the program (slices.Delete) and by the reference the same. -/
namespace Go.Proofs.YthdddcegopgopaaDoor.Pure
open Go.RowKit Go.Proofs.YthdddcegopgopaaDoor.Qa Go.Proofs.YthdddcegopgopaaDoorW.PrintWords Go.Proofs.YthdddcegopgopaaDoorW.PrintLast Go.Proofs.YthdddcegopgopaaDoor.Aid
def goneAt (l : List ZZ) (p : Nat) : List ZZ := l.take p ++ l.drop (p + 1)
noncomputable def deleteIn (l : List ZZ) (q : ByteArray) (v : Int) : ZR :=
  if q.data.toList = [47] then badZ 1 else if hereK pk l q.data.toList = true then
    (if v = -1 ∨ v = (rd_T47 l (posK pk l q.data.toList : Int)).f2 then (if kidsL q l = [] then (0, (⟨#[]⟩ : ByteArray), goneAt l (posK pk l q.data.toList)) else badZ 8) else badZ 7) else badZ 4
noncomputable def deleteR (l : List ZZ) (q : ByteArray) (v : Int) : ZR := if askT l q = 0 then deleteIn l q v else badZ (askT l q)
theorem del_top {l : List ZZ} {q : ByteArray} {v : Int} (h : q.data.toList = [47]) : deleteIn l q v = badZ 1 := by unfold deleteIn; exact if_pos h
theorem del_none {l : List ZZ} {q : ByteArray} {v : Int} (h : ¬ q.data.toList = [47]) (c : ¬ hereK pk l q.data.toList = true) : deleteIn l q v = badZ 4 := by unfold deleteIn; exact (if_neg h).trans (if_neg c)
theorem del_ver {l : List ZZ} {q : ByteArray} {v : Int} (h : ¬ q.data.toList = [47]) (c : hereK pk l q.data.toList = true) (hv : ¬ (v = -1 ∨ v = (rd_T47 l (posK pk l q.data.toList : Int)).f2)) : deleteIn l q v = badZ 7 := by unfold deleteIn; exact (if_neg h).trans ((if_pos c).trans (if_neg hv))
theorem del_kids {l : List ZZ} {q : ByteArray} {v : Int} (h : ¬ q.data.toList = [47]) (c : hereK pk l q.data.toList = true) (hv : v = -1 ∨ v = (rd_T47 l (posK pk l q.data.toList : Int)).f2) (hk : ¬ kidsL q l = []) : deleteIn l q v = badZ 8 := by unfold deleteIn; exact (if_neg h).trans ((if_pos c).trans ((if_pos hv).trans (if_neg hk)))
theorem del_ok {l : List ZZ} {q : ByteArray} {v : Int} (h : ¬ q.data.toList = [47]) (c : hereK pk l q.data.toList = true) (hv : v = -1 ∨ v = (rd_T47 l (posK pk l q.data.toList : Int)).f2) (hk : kidsL q l = []) : deleteIn l q v = (0, (⟨#[]⟩ : ByteArray), goneAt l (posK pk l q.data.toList)) := by unfold deleteIn; exact (if_neg h).trans ((if_pos c).trans ((if_pos hv).trans (if_pos hk)))
theorem kids_pos {q : ByteArray} {l : List ZZ} (h : ¬ kidsL q l = []) : ((kidsL q l).length : Int) > 0 := by
  cases hk : kidsL q l with
  | nil => exact absurd hk h
  | cons x r => rw [List.length_cons]; omega
theorem delete_l2 {l : List ZZ} (hg : ∀ z ∈ l, zOwn z = 0) (hl : l.length ≤ 20) (q : ByteArray) (p : Nat) (hp : p < l.length) (b : Bool) (R : ZR) (h7 : b = true → R = badZ 7) (h8 : b = false → ¬ kidsL q l = [] → R = badZ 8) (h0 : b = false → kidsL q l = [] → R = (0, (⟨#[]⟩ : ByteArray), goneAt l p)) : Ev (fun k => spec_l2Delete.j0 k l q (p : Int) b) R := by
  cases b with
  | true =>
    rw [h7 rfl]
    exact ev_done fun k => by simp only [spec_l2Delete.j0]; rw [if_pos trivial]; rfl
  | false =>
    refine ev_step _ (fun k => by simp only [spec_l2Delete.j0]; rw [if_neg (by simp)]) (ev_call (kids_spec hg hl q) ?_)
    by_cases hk : kidsL q l = []
    · rw [h0 rfl hk, hk]
      have ht : (l.take p).length ≤ 20 := by rw [List.length_take]; omega
      have hd : (l.drop (p + 1)).length ≤ 20 := by rw [List.length_drop]; omega
      have b0 : (0 : Int) ≤ (p : Int) := by omega
      have b1 : (p : Int) ≤ (l.length : Int) := by omega
      have b2 : (l.take p).length < 2932031007402 := by omega
      have b3 : (0 : Int) ≤ ((p + 1 : Nat) : Int) := by omega
      have b4 : ((p + 1 : Nat) : Int) ≤ (l.length : Int) := by omega
      have b5 : (l.take p).length + (l.drop (p + 1)).length < 2932031007402 := by omega
      have wp := w_up p (by omega)
      refine ev_is fun k => ?_
      rw [if_neg (show ¬ (([] : List ByteArray).length : Int) > 0 by simp)]
      simp only [Option.bind_some, List.nil_append, List.length_nil, Nat.zero_add, Int.toNat_natCast, wp, b0, b1, b2, b3, b4, b5, if_true]
      rfl
    · rw [h8 rfl hk]
      exact ev_is fun k => if_pos (kids_pos hk)
theorem delete_in_spec {l : List ZZ} (hg : ∀ z ∈ l, zOwn z = 0) (hr : Rises pk l) (hl : l.length ≤ 20) (q : ByteArray) (v : Int) : Ev (fun k => spec_l2Delete.f k l q v) (deleteIn l q v) := by
  unfold spec_l2Delete.f
  by_cases h : q.data.toList = [47]
  · rw [del_top h]
    exact ev_is fun k => if_pos (by rw [tl]; exact h)
  · refine ev_cong (fun k => if_neg (by rw [tl]; exact h)) (ev_call (at_is hr (by omega) q) ?_)
    by_cases c : hereK pk l q.data.toList = true
    · have hp := hereK_lt c
      have ei : (if hereK pk l q.data.toList = true then (posK pk l q.data.toList : Int) else -1) = (posK pk l q.data.toList : Int) := if_pos c
      have h7 : ¬ (v = -1 ∨ v = (rd_T47 l (posK pk l q.data.toList : Int)).f2) → deleteIn l q v = badZ 7 := del_ver h c
      have h8 := fun hv hk => del_kids (l := l) (q := q) (v := v) h c hv hk
      have h0 := fun hv hk => del_ok (l := l) (q := q) (v := v) h c hv hk
      rw [ei]
      generalize posK pk l q.data.toList = p at hp h7 h8 h0
      refine ev_cong (fun k => if_neg (by omega)) ?_
      by_cases h2 : v = -1
      · exact ev_cong (fun k => if_pos h2) (delete_l2 hg hl q p hp false _ (fun h => by cases h) (fun _ hk => h8 (.inl h2) hk) (fun _ hk => h0 (.inl h2) hk))
      · refine ev_cong (fun k => (if_neg h2).trans ((if_pos (by omega)).trans (if_pos (by omega)))) (delete_l2 hg hl q p hp _ _ (fun hb => h7 ?_) (fun hb hk => h8 ?_ hk) (fun hb hk => h0 ?_ hk))
        · have := bne_iff_ne.1 hb
          rintro (h3 | h3)
          · exact h2 h3
          · exact this h3
        · exact .inr (by simpa using hb)
        · exact .inr (by simpa using hb)
    · rw [del_none h c]
      have ei : (if hereK pk l q.data.toList = true then (posK pk l q.data.toList : Int) else -1) = -1 := if_neg c
      rw [ei]
      exact ev_is fun k => if_pos (by omega)
theorem DeleteZ_spec (l : List ZZ) (q : ByteArray) (v : Int) : Ev (fun k => spec_DeleteZ.f k l q v) (deleteR l q v) := by
  unfold spec_DeleteZ.f deleteR
  refine ev_call (askT_spec l q) ?_
  by_cases h : askT l q = 0
  · rw [if_pos h]
    obtain ⟨hR, _, _⟩ := askT_ok h
    exact ev_cong (fun k => if_pos h) (ev_call (delete_in_spec hR.good hR.rise hR.few q v) (Ev.now _))
  · rw [if_neg h]
    exact ev_is fun k => if_neg h
theorem version_is (v : Int) (z : ZZ) : impl_isVersion.f v z.f0 z.f1 z.f2 z.f3 z.f4 = some (decide (v = -1 ∨ v = z.f2)) := by
  unfold impl_isVersion.f
  by_cases h2 : v = -1
  · rw [if_pos h2, decide_eq_true (.inl h2)]
  · rw [if_neg h2]
    by_cases h3 : v = z.f2
    · rw [decide_eq_true (.inr h3), beq_iff_eq.2 h3]
    · rw [decide_eq_false (fun h => h.elim h2 h3), beq_eq_false_iff_ne.2 h3]
theorem delete_is {l : List ZZ} (hl : l.length ≤ 20) (p : Nat) (hp : p < l.length) : slices_Delete_impl_Znode_impl_Znode.f l (p : Int) ((p + 1 : Nat) : Int) = some (goneAt l p) := by
  unfold slices_Delete_impl_Znode_impl_Znode.f
  rw [if_pos (by omega), if_pos (by omega), if_pos (by omega), if_pos (by omega), Int.toNat_natCast]
  rfl
theorem DeleteZ_impl (l : List ZZ) (q : ByteArray) (v : Int) : Ev (fun k => impl_DeleteZ.f k l q v) (deleteR l q v) := by
  unfold impl_DeleteZ.f deleteR
  refine ev_call (askT_impl l q) ?_
  by_cases h : askT l q = 0
  · rw [if_pos h]
    obtain ⟨hR, _, _⟩ := askT_ok h
    have hf := hR.few
    refine ev_cong (fun k => if_pos h) (ev_call (find_is hR.rise (by omega) q) ?_)
    by_cases ht : q.data.toList = [47]
    · rw [del_top ht]
      exact ev_is fun k => if_pos (by rw [tl]; exact ht)
    · refine ev_cong (fun k => if_neg (by rw [tl]; exact ht)) ?_
      by_cases c : hereK pk l q.data.toList = true
      · have hp := hereK_lt c
        have h7 := fun hv => del_ver (l := l) (q := q) (v := v) ht c hv
        have h8 := fun hv hk => del_kids (l := l) (q := q) (v := v) ht c hv hk
        have h0 := fun hv hk => del_ok (l := l) (q := q) (v := v) ht c hv hk
        refine ev_cong (fun k => if_pos c) ?_
        generalize posK pk l q.data.toList = p at hp h7 h8 h0
        refine ev_cong (fun k => (if_pos (by show 0 ≤ (p : Int); omega)).trans (if_pos (by show (p : Int) < (l.length : Int); omega))) (ev_call (ev_is fun _ => version_is v (rd_T47 l (p : Int))) ?_)
        by_cases hv : v = -1 ∨ v = (rd_T47 l (p : Int)).f2
        · refine ev_cong (fun k => if_pos (decide_eq_true hv)) (ev_call (kids_impl hR.good hf q) ?_)
          by_cases hk : kidsL q l = []
          · rw [h0 hv hk, hk]
            have wp := w_up p (by omega)
            refine ev_is fun k => (if_neg (by simp)).trans ?_
            rw [clone_impl l (by omega), Option.bind_some]
            show (slices_Delete_impl_Znode_impl_Znode.f l (p : Int) (wrap64 ((p : Int) + 1))).bind _ = _
            rw [wp, delete_is hf p hp]
            rfl
          · rw [h8 hv hk]
            exact ev_is fun k => if_pos (kids_pos hk)
        · rw [h7 hv]
          exact ev_is fun k => if_neg (by simpa using hv)
      · rw [del_none ht c]
        exact ev_is fun k => if_neg c
  · rw [if_neg h]
    exact ev_is fun k => if_neg h
theorem deleteR_len (l : List ZZ) (q : ByteArray) (v : Int) : (deleteR l q v).2.2.length ≤ l.length := by
  have hb : ∀ c, (badZ c).2.2.length ≤ l.length := fun c => by unfold badZ; simp
  unfold deleteR
  split
  · unfold deleteIn
    split
    · exact hb _
    · split
      · split
        · split
          · show (goneAt l _).length ≤ _
            unfold goneAt
            rw [List.length_append, List.length_take, List.length_drop]
            omega
          · exact hb _
        · exact hb _
      · exact hb _
  · exact hb _
end Go.Proofs.YthdddcegopgopaaDoor.Pure

/- DeleteZ: the program's answer is the reference's, for all nodes, texts and numbers; it writes into no argument, and its answer owns its memory. No condition. -/
namespace Go.Proofs.YthdddcegopgopaaDoor.Pure
open Go.RowKit Go.Proofs.YthdddcegopgopaaDoor.Qa Go.Proofs.YthdddcegopgopaaDoorW.PrintWords Go.Proofs.YthdddcegopgopaaDoorW.PrintLast Go.Proofs.YthdddcegopgopaaDoor.Aid
theorem FnExactDeleteZ (l : List S44) (q : ByteArray) (v : Int) (hl : l.length ≤ 9223372036854775807 ∧ ∀ y_ ∈ l, g44 y_) (_ : q.size ≤ 9223372036854775807) (_ : (Lit.int .i64 v).wf = true) : ∃ k, laws_FnExactDeleteZ.f k l q v = some true := by
  refine Ev.rounds ?_
  unfold laws_FnExactDeleteZ.f
  by_cases hz : (q.size : Int) > 1048576
  · exact ev_is fun k => if_pos hz
  refine ev_cong (fun k => if_neg hz) ?_
  obtain ⟨r, hr, hq⟩ := laws_szZnodeS.ev l 1048576 hl.1 (fun x hx => (hl.2 x hx).1) (by omega) (by omega)
  refine ev_step _ (fun k => by simp only [laws_FnExactDeleteZ.j0]; rfl) (ev_call hr ?_)
  by_cases h : r < 0
  · exact ev_is fun k => if_pos h
  refine ev_cong (fun k => if_neg h) ?_
  obtain ⟨h1, h2, _⟩ := hq (by omega)
  have ht := laws_toZnodeS.ev l (by omega)
  have h3 : (l.map cvZnode).length ≤ 1048576 := by rw [List.length_map]; omega
  have hS := DeleteZ_spec (l.map cvZnode) q v
  have hI := DeleteZ_impl (l.map cvZnode) q v
  have hR := deleteR_len (l.map cvZnode) q v
  generalize deleteR (l.map cvZnode) q v = R at hS hI hR ⊢
  have hE := eqZR R.1 R.2.1 R.2.2 (by omega)
  have hM := markZR R.1 R.2.1 R.2.2 (by omega)
  have hH := heldZR R.1 R.2.1 R.2.2.length (by omega)
  refine ev_step _ (fun k => by simp only [laws_FnExactDeleteZ.j1]; rfl) (ev_call ht (ev_call hS (ev_call ht (ev_call hI (ev_call hE (ev_cong (fun k => if_pos rfl) ?_))))))
  refine ev_step _ (fun k => by simp only [laws_FnExactDeleteZ.j2]; rfl) (ev_call ht (ev_call (laws_eqZnodeS.ev (l.map cvZnode) (by omega)) (ev_cong (fun k => if_pos rfl) ?_)))
  refine ev_step _ (fun k => by simp only [laws_FnExactDeleteZ.j3]; rfl) (ev_call (laws_markZnodeS.ev (l.map cvZnode) 1 (by omega) (by omega) (by omega)) (ev_cong (fun k => if_neg (by show ¬ (1 + 5 * ((l.map cvZnode).length : Int) < 0); omega)) (ev_call hE ?_)))
  refine ev_step _ (fun k => by simp only [laws_FnExactDeleteZ.j4]; rw [if_neg (by simp)]) ?_
  refine ev_step _ (fun k => by simp only [laws_FnExactDeleteZ.j5]; rfl) (ev_call hM (ev_call hH (ev_cong (fun k => if_neg (show ¬ (1 + 5 * (R.2.2.length : Int) < 0) by omega)) ?_)))
  refine ev_step _ (fun k => by simp only [laws_FnExactDeleteZ.j6]; exact if_pos trivial) ?_
  refine ev_step _ (fun k => by simp only [laws_FnExactDeleteZ.j7]; rfl) (ev_call ht (ev_call hI (ev_call hE (ev_cong (fun k => if_pos rfl) ?_))))
  refine ev_step _ (fun k => by simp only [laws_FnExactDeleteZ.j8]; rfl) (ev_call hH (ev_is fun k => ?_))
  rw [if_neg (show ¬ (1 + 5 * (R.2.2.length : Int) < 0) by omega), if_pos rfl]
end Go.Proofs.YthdddcegopgopaaDoor.Pure

/- For every input the law loop.example/g00369/laws.FnExactDeleteZ returns true, and every argument reads behind the call as it read before. No condition. -/
namespace Go.Proofs.YthdddcegopgopaaDoor.fnExactDeleteZ
open Go.ChangeShapes Go.WideShapes Go.ChangeAt Go.RowKit Go.Proofs.YthdddcegopgopaaDoor.Qa Go.Proofs.YthdddcegopgopaaDoor.Tro Go.Proofs.YthdddcegopgopaaDoorW.PrintWords
open Go.ChangeMaps (open_string shut_string)
set_option linter.unusedVariables false
set_option linter.unusedSimpArgs false
theorem own : ownKnob Tryd.prog.godebug = none := by kernel_rfl
theorem laidOut : laidOutB Tryd.prog = true := by kernel_rfl
set_option maxRecDepth 100000 in
theorem lifted (os : Os) (started : os.Started) (H : Type) (enc : TypeId × Value → H) :
    ReturnsInHanded {} Tryd.checked os 3 .any (fun w args => (Rows.fnExactDeleteZSpec.pre enc Tryd.prog Tryd.f3 [] false w args ∧ laidMetH Tryd.prog Rows.fnExactDeleteZRow.laid w) ∧ sizedMet enc Tryd.prog Tryd.f3 (OpenSpec.ofChange Rows.fnExactDeleteZSpec) false w args) (Rows.fnExactDeleteZSpec.post enc Tryd.prog Tryd.f3 false true false false) := by
  refine returnsInHanded_of_change_and (C := Tryd.checked) (X := fun w _ => laidMetH Tryd.prog Rows.fnExactDeleteZRow.laid w) (fun _ _ _ hh h => h.of_heap hh) own started (by kernel_rfl) Tryd.func3
    (ChangeSpec.witness_shaped (enc := enc) (C := Tryd.checked) (os := os) (X := fun w _ => laidMetH Tryd.prog Rows.fnExactDeleteZRow.laid w) false (World.laidAll Tryd.prog os Rows.fnExactDeleteZRow.laid) #[.slice none 0 0, .string ByteArray.empty, .int .i64 0] 8 (World.laidAll_os _ _ _)
      (World.shaped_of_ZipB (by kernel_rfl) (by kernel_rfl)) (by kernel_rfl) (by kernel_rfl) (by kernel_rfl)
      (by rw [MakeChecks.laidMetH_plain _ _ _ (by kernel_rfl)]; exact laidMet_laidAll _ (by kernel_rfl) (by kernel_rfl))) ?_
  intro W base args ds gs before hval0 hW _ _ hL _
  have hval : ∀ (j : Nat) t v, Tryd.f3.params[j]? = some t → args[j]? = some v → Value.okWide Tryd.prog W .any base t v := hval0
  have hW' := hW
  obtain ⟨p, q, hA0, hV, rfl, hfz, hnd⟩ := hW
  have hA : DataW.TrodAll enc Tryd.prog W 0 (fun _ => true) true Tryd.f3.params.toList args.toList ds p := hA0
  rw [Tryd.params3] at hA hval
  obtain ⟨v0, vs0, d0, ds0, p0, q0, hargs, rfl, rfl, h0, r0⟩ := trodAll_cons hA
  obtain ⟨v1, vs1, d1, ds1, p1, q1, rfl, rfl, rfl, h1, r1⟩ := trodAll_cons r0
  obtain ⟨v2, vs2, d2, ds2, p2, q2, rfl, rfl, rfl, h2, r2⟩ := trodAll_cons r1
  obtain ⟨rfl, rfl, rfl⟩ := trodAll_nil r2
  obtain rfl : args = #[v0, v1, v2] := by cases args; simp_all
  obtain ⟨rfl, rfl⟩ := trodVars_none hV
  have k0 := h0
  have lt0 : ∀ x ∈ p0, x.block < W.heap.size := by obtain ⟨m, hm⟩ := k0; exact DataW.trod_lt m _ _ _ hm
  obtain ⟨a0, len0, cap0, rfl⟩ := okWide_slice Tryd.underlying22 (hval 0 22 v0 rfl rfl)
  obtain ⟨fuel0, hf0⟩ := h0
  obtain ⟨l0, hK0, hg0⟩ := (tr_slice Tryd.underlying22 (by kernel_rfl) tr44) enc W _ _ _ hf0
  obtain ⟨A0, c0, hcs0, hl0, hC0⟩ := hK0
  simp only [Value.cells, List.cons.injEq, Value.slice.injEq, and_true] at hcs0
  obtain ⟨rfl, rfl, rfl⟩ := hcs0
  obtain ⟨a1, rfl, rfl, rfl, y1⟩ := open_string Tryd.underlying9 (hval 1 9 v1 rfl rfl) h1
  obtain ⟨a2, rfl, rfl, rfl, w2⟩ := open_int Tryd.underlying2 (hval 2 2 v2 rfl rfl) h2
  obtain ⟨k, hk⟩ := Pure.FnExactDeleteZ l0 a1 a2 hg0 y1 w2
  refine (laws_FnExactDeleteZ.calls k _ _ l0 a1 a2 true W hC0 hl0 hk).mono fun e W' hE => ?_
  obtain ⟨he, hd⟩ := hE
  have bel : Below W.heap.size W W' := hd
  subst he
  exact ⟨_, rfl, _, _, _, [], _, [], hW', trodAll_mk1 (shut_bool Tryd.underlying4 _), (trodAll_cons_mk (Below.trod laidOut (by kernel_rfl) (of_decide_eq_true (by kernel_rfl)) k0 bel lt0) (trodAll_cons_mk (shut_string Tryd.underlying9 y1) (trodAll_cons_mk (shut_int Tryd.underlying2 w2) trodAll_mk0))), rfl, bel.frame _, fun h => by cases h⟩
theorem over : Rows.fnExactDeleteZRow.holds Tryd.pinned (OpenSpec.ofChange Rows.fnExactDeleteZSpec) :=
  OpenClaim.holds_of_wide 3 Tryd.f3 rfl rfl rfl rfl rfl rfl rfl ⟨rfl, rfl, rfl, rfl, rfl⟩ rfl rfl rfl rfl rfl (by kernel_rfl) Tryd.func3 (by kernel_rfl)
    (of_decide_eq_true (by kernel_rfl)) (by unfold Func.isWrapper; first | (rw [if_pos (by decide +kernel)]; kernel_rfl) | (rw [if_neg (by decide +kernel)]; exact ⟨rfl, rfl⟩))
    (fun os started H enc _ => lifted os started H enc)
theorem proved : Rows.FnExactDeleteZCardSaid :=
  Claim7.holds_tied_plain_at .later [] [.data, .pinned] true (true, "fda6b4340300b8f0947f64e0905329ed75d9b283f440d0dd1f0d821ac26757c8") false over (fun _ h => by cases h) (by kernel_rfl) (fun _ h => by cases h) fnExactDeleteZ_row_tie rfl ⟨rfl, rfl⟩ (by kernel_rfl) rfl
    (fun f fn hf hfn => by
      obtain rfl : f = 3 := Option.some.inj ((show Tryd.prog.funcNamed "loop.example/g00369/laws.FnExactDeleteZ" = some 3 by kernel_rfl).symm.trans hf) |>.symm
      obtain rfl : fn = Tryd.f3 := (Option.some.inj (Tryd.func3.symm.trans hfn)).symm
      exact ⟨by kernel_rfl, fun j t ht => by
        rw [Tryd.params3] at ht
        have hm : t ∈ [22, 9, 2] := by simpa using Array.mem_of_getElem? ht
        have hall : ([22, 9, 2].all fun u => !Tryd.prog.wantsStandIn u) = true := by kernel_rfl
        exact (show Tryd.prog.wantsStandIn t = false by simpa using List.all_eq_true.1 hall t hm)⟩)
    (by kernel_rfl)
#print axioms proved
end Go.Proofs.YthdddcegopgopaaDoor.fnExactDeleteZ
namespace Go.Proofs.YthdddcegopgopaaDoor
/-- The row, under a short name, for the claim. -/
theorem fnExactDeleteZ_holds : Rows.FnExactDeleteZCardSaid := fnExactDeleteZ.proved
end Go.Proofs.YthdddcegopgopaaDoor
