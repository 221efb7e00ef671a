/- A part of the proof that for every input the law FnExactDropOwned returns true: no condition. Functions of the translation, each proved to do what a plain Lean function tells, and what these tell. -/
import Derived.Test.YtajlnffefoeppaaDoorQax0
import Derived.Test.YtajlnffefoeppaaDoorQax2
import Derived.Test.YtajlnffefoeppaaDoorQax16
import Derived.Test.YtajlnffefoeppaaDoorQax18
import Derived.Test.YtajlnffefoeppaaDoorQax19
import Derived.Test.YtajlnffefoeppaaDoorZFnExactDropOwneda
import Derived.Test.YtajlnffefoeppaaDoorZFnExactDropOwnedb
import Derived.Test.YtajlnffefoeppaaDoorWWords
import Derived.Deep.Slices
import Derived.ChangeArms
import Derived.Test.YtajlnffefoeppaaDoorQax1
import Derived.Test.YtajlnffefoeppaaDoorQax17
import Derived.Test.YtajlnffefoeppaaDoorQax28
import Derived.Test.YtajlnffefoeppaaDoorQax4
import Derived.Test.YtajlnffefoeppaaDoorQax5
import Derived.Test.YtajlnffefoeppaaDoorQax24
import Derived.Test.YtajlnffefoeppaaDoorQax25
import Derived.Test.YtajlnffefoeppaaDoorQax3
import Derived.Test.YtajlnffefoeppaaDoorQax6
import Derived.Test.YtajlnffefoeppaaDoorQax7
import Derived.Test.YtajlnffefoeppaaDoorQax11
import Derived.Lib.Bytealg
import Derived.Test.YtajlnffefoeppaaDoorQax12
import Derived.Test.YtajlnffefoeppaaDoorQax10
import Derived.Test.YtajlnffefoeppaaDoorQax13
import Derived.Test.YtajlnffefoeppaaDoorQax20
import Derived.Test.YtajlnffefoeppaaDoorQax21
import Derived.Test.YtajlnffefoeppaaDoorQax22
import Derived.Test.YtajlnffefoeppaaDoorQax23
import Derived.Test.YtajlnffefoeppaaDoorQax8
import Derived.Test.YtajlnffefoeppaaDoorQax9
import Derived.Test.YtajlnffefoeppaaDoorQax15
import Derived.Test.YtajlnffefoeppaaDoorQax14
-- By gp.py (wip/gen of the work's repo), a program of this workplace over the kit's print: Lean checks it.
namespace Go.Proofs.YtajlnffefoeppaaDoor.Qa
open Go.RowKit Go.Proofs.YtajlnffefoeppaaDoorW.PrintWords Go.Proofs.YtajlnffefoeppaaDoorW.PrintLast Go.Proofs.YtajlnffefoeppaaDoorW.PrintMore
attribute [local go_sem] max2_int min2_int max_two min_two max_three min_three max_four min_four   -- for this text's walks alone
set_option linter.unusedVariables false
set_option linter.unusedSimpArgs false
set_option maxHeartbeats 8000000
set_option maxRecDepth 100000

/-! ### laws_FnExactDropOwned: function 3 -/
mutual
def laws_FnExactDropOwned.j0 : Nat → List (S48) → List Int → Option (Bool)
 | 0, _, _ => none
 | k + 1, x0, x1 => (laws_szZnodeS.f k x0 1048576).bind fun t101 => (if t101 < 0 then (some true) else (laws_FnExactDropOwned.j1 k x0 x1))
def laws_FnExactDropOwned.j1 : Nat → List (S48) → List Int → Option (Bool)
 | 0, _, _ => none
 | k + 1, x0, x1 => (laws_toZnodeS.f k x0).bind fun t102 => ((laws_toInt64S.f k x1).bind fun t105 => ((spec_DropOwned.f k t102 t105).bind fun bt108 => ((laws_toZnodeS.f k x0).bind fun t114 => ((laws_toInt64S.f k x1).bind fun t117 => ((impl_DropOwned.f k t114 t117).bind fun bt120 => ((laws_eqZResult.f k bt120.1 bt120.2.1 bt120.2.2 bt108.1 bt108.2.1 bt108.2.2).bind fun t126 => (if t126 = true then (laws_FnExactDropOwned.j2 k x0 x1 t114 t117 bt108.1 bt108.2.1 bt108.2.2 bt120.1 bt120.2.1 bt120.2.2) else (some false))))))))
def laws_FnExactDropOwned.j2 : Nat → List (S48) → List Int → List (S44) → List Int → Int → ByteArray → List (S44) → Int → ByteArray → List (S44) → Option (Bool)
 | 0, _, _, _, _, _, _, _, _, _, _ => none
 | k + 1, x0, x1, x7, x8, x114000, x114001, x114002, x126000, x126001, x126002 => (laws_toZnodeS.f k x0).bind fun t127 => ((laws_eqZnodeS.f k x7 t127).bind fun t130 => (if t130 = true then (laws_FnExactDropOwned.j3 k x0 x1 x7 x8 x114000 x114001 x114002 x126000 x126001 x126002) else (some false)))
def laws_FnExactDropOwned.j3 : Nat → List (S48) → List Int → List (S44) → List Int → Int → ByteArray → List (S44) → Int → ByteArray → List (S44) → Option (Bool)
 | 0, _, _, _, _, _, _, _, _, _, _ => none
 | k + 1, x0, x1, x7, x8, x114000, x114001, x114002, x126000, x126001, x126002 => (laws_toInt64S.f k x1).bind fun t131 => ((laws_eqInt64S.f k x8 t131).bind fun t134 => (if t134 = true then (laws_FnExactDropOwned.j4 k x0 x1 x7 x8 x114000 x114001 x114002 x126000 x126001 x126002) else (some false)))
def laws_FnExactDropOwned.j4 : Nat → List (S48) → List Int → List (S44) → List Int → Int → ByteArray → List (S44) → Int → ByteArray → List (S44) → Option (Bool)
 | 0, _, _, _, _, _, _, _, _, _, _ => none
 | k + 1, x0, x1, x7, x8, x114000, x114001, x114002, x126000, x126001, x126002 => (laws_markZnodeS.f k x7 1).bind fun bt135 => ((laws_markInt64S.f k x8 bt135.1).bind fun bt137 => (if bt137.1 < 0 then (laws_FnExactDropOwned.j5 k x0 x1 true x114000 x114001 x114002 x126000 x126001 x126002) else ((laws_eqZResult.f k x126000 x126001 x126002 x114000 x114001 x114002).bind fun t139 => (laws_FnExactDropOwned.j5 k x0 x1 (!t139) x114000 x114001 x114002 x126000 x126001 x126002))))
def laws_FnExactDropOwned.j5 : Nat → List (S48) → List Int → Bool → Int → ByteArray → List (S44) → Int → ByteArray → List (S44) → Option (Bool)
 | 0, _, _, _, _, _, _, _, _, _ => none
 | k + 1, x0, x1, x61, x114000, x114001, x114002, x126000, x126001, x126002 => if x61 = true then (some false) else (laws_FnExactDropOwned.j6 k x0 x1 x114000 x114001 x114002 x126000 x126001 x126002)
def laws_FnExactDropOwned.j6 : Nat → List (S48) → List Int → Int → ByteArray → List (S44) → Int → ByteArray → List (S44) → Option (Bool)
 | 0, _, _, _, _, _, _, _, _ => none
 | k + 1, x0, x1, x114000, x114001, x114002, x126000, x126001, x126002 => (laws_markZResult.f k x126000 x126001 x126002 1).bind fun bt140 => ((laws_heldZResult.f k x126000 x126001 bt140.2 1).bind fun t142 => (if t142 < 0 then (some false) else (laws_FnExactDropOwned.j7 k x0 x1 bt140.1 t142 x114000 x114001 x114002 x126000 x126001 bt140.2)))
def laws_FnExactDropOwned.j7 : Nat → List (S48) → List Int → Int → Int → Int → ByteArray → List (S44) → Int → ByteArray → List (S44) → Option (Bool)
 | 0, _, _, _, _, _, _, _, _, _, _ => none
 | k + 1, x0, x1, x11, x12, x114000, x114001, x114002, x126000, x126001, x126002 => if x12 = x11 then (laws_FnExactDropOwned.j8 k x0 x1 x11 x114000 x114001 x114002 x126000 x126001 x126002) else (some false)
def laws_FnExactDropOwned.j8 : Nat → List (S48) → List Int → Int → Int → ByteArray → List (S44) → Int → ByteArray → List (S44) → Option (Bool)
 | 0, _, _, _, _, _, _, _, _, _ => none
 | k + 1, x0, x1, x11, x114000, x114001, x114002, x126000, x126001, x126002 => (laws_toZnodeS.f k x0).bind fun t143 => ((laws_toInt64S.f k x1).bind fun t146 => ((impl_DropOwned.f k t143 t146).bind fun bt149 => ((laws_eqZResult.f k bt149.1 bt149.2.1 bt149.2.2 x114000 x114001 x114002).bind fun t155 => (if t155 = true then (laws_FnExactDropOwned.j9 k x11 x126000 x126001 x126002) else (some false)))))
def laws_FnExactDropOwned.j9 : Nat → Int → Int → ByteArray → List (S44) → Option (Bool)
 | 0, _, _, _, _ => none
 | k + 1, x11, x126000, x126001, x126002 => (laws_heldZResult.f k x126000 x126001 x126002 1).bind fun t156 => (if t156 < 0 then (some false) else (if t156 = x11 then (some true) else (some false)))
end
def laws_FnExactDropOwned.f (k : Nat) (l0 : List (S48)) (l1 : List Int) : Option (Bool) := if (l1.length : Int) > 1048576 then (some true) else (laws_FnExactDropOwned.j0 k l0 l1)
theorem laws_FnExactDropOwned.mono_l : ∀ k, (∀ y0 y1, LeO (laws_FnExactDropOwned.j0 k y0 y1) (laws_FnExactDropOwned.j0 (k + 1) y0 y1)) ∧ (∀ y0 y1, LeO (laws_FnExactDropOwned.j1 k y0 y1) (laws_FnExactDropOwned.j1 (k + 1) y0 y1)) ∧ (∀ y0 y1 y2 y3 y4 y5 y6 y7 y8 y9, LeO (laws_FnExactDropOwned.j2 k y0 y1 y2 y3 y4 y5 y6 y7 y8 y9) (laws_FnExactDropOwned.j2 (k + 1) y0 y1 y2 y3 y4 y5 y6 y7 y8 y9)) ∧ (∀ y0 y1 y2 y3 y4 y5 y6 y7 y8 y9, LeO (laws_FnExactDropOwned.j3 k y0 y1 y2 y3 y4 y5 y6 y7 y8 y9) (laws_FnExactDropOwned.j3 (k + 1) y0 y1 y2 y3 y4 y5 y6 y7 y8 y9)) ∧ (∀ y0 y1 y2 y3 y4 y5 y6 y7 y8 y9, LeO (laws_FnExactDropOwned.j4 k y0 y1 y2 y3 y4 y5 y6 y7 y8 y9) (laws_FnExactDropOwned.j4 (k + 1) y0 y1 y2 y3 y4 y5 y6 y7 y8 y9)) ∧ (∀ y0 y1 y2 y3 y4 y5 y6 y7 y8, LeO (laws_FnExactDropOwned.j5 k y0 y1 y2 y3 y4 y5 y6 y7 y8) (laws_FnExactDropOwned.j5 (k + 1) y0 y1 y2 y3 y4 y5 y6 y7 y8)) ∧ (∀ y0 y1 y2 y3 y4 y5 y6 y7, LeO (laws_FnExactDropOwned.j6 k y0 y1 y2 y3 y4 y5 y6 y7) (laws_FnExactDropOwned.j6 (k + 1) y0 y1 y2 y3 y4 y5 y6 y7)) ∧ (∀ y0 y1 y2 y3 y4 y5 y6 y7 y8 y9, LeO (laws_FnExactDropOwned.j7 k y0 y1 y2 y3 y4 y5 y6 y7 y8 y9) (laws_FnExactDropOwned.j7 (k + 1) y0 y1 y2 y3 y4 y5 y6 y7 y8 y9)) ∧ (∀ y0 y1 y2 y3 y4 y5 y6 y7 y8, LeO (laws_FnExactDropOwned.j8 k y0 y1 y2 y3 y4 y5 y6 y7 y8) (laws_FnExactDropOwned.j8 (k + 1) y0 y1 y2 y3 y4 y5 y6 y7 y8)) ∧ (∀ y0 y1 y2 y3, LeO (laws_FnExactDropOwned.j9 k y0 y1 y2 y3) (laws_FnExactDropOwned.j9 (k + 1) y0 y1 y2 y3))
 | 0 => ⟨fun _ _ r h => by simp [laws_FnExactDropOwned.j0] at h, fun _ _ r h => by simp [laws_FnExactDropOwned.j1] at h, fun _ _ _ _ _ _ _ _ _ _ r h => by simp [laws_FnExactDropOwned.j2] at h, fun _ _ _ _ _ _ _ _ _ _ r h => by simp [laws_FnExactDropOwned.j3] at h, fun _ _ _ _ _ _ _ _ _ _ r h => by simp [laws_FnExactDropOwned.j4] at h, fun _ _ _ _ _ _ _ _ _ r h => by simp [laws_FnExactDropOwned.j5] at h, fun _ _ _ _ _ _ _ _ r h => by simp [laws_FnExactDropOwned.j6] at h, fun _ _ _ _ _ _ _ _ _ _ r h => by simp [laws_FnExactDropOwned.j7] at h, fun _ _ _ _ _ _ _ _ _ r h => by simp [laws_FnExactDropOwned.j8] at h, fun _ _ _ _ r h => by simp [laws_FnExactDropOwned.j9] at h⟩
 | k + 1 => by
  obtain ⟨ih0, ih1, ih2, ih3, ih4, ih5, ih6, ih7, ih8, ih9⟩ := laws_FnExactDropOwned.mono_l k
  refine ⟨?_, ?_, ?_, ?_, ?_, ?_, ?_, ?_, ?_, ?_⟩
  ·
   intro y0 y1
   unfold laws_FnExactDropOwned.j0
   repeat' first
   | (with_reducible exact ih0 _ _)
   | (with_reducible exact ih1 _ _)
   | (with_reducible exact ih2 _ _ _ _ _ _ _ _ _ _)
   | (with_reducible exact ih3 _ _ _ _ _ _ _ _ _ _)
   | (with_reducible exact ih4 _ _ _ _ _ _ _ _ _ _)
   | (with_reducible exact ih5 _ _ _ _ _ _ _ _ _)
   | (with_reducible exact ih6 _ _ _ _ _ _ _ _)
   | (with_reducible exact ih7 _ _ _ _ _ _ _ _ _ _)
   | (with_reducible exact ih8 _ _ _ _ _ _ _ _ _)
   | (with_reducible exact ih9 _ _ _ _)
   | (with_reducible exact impl_DropOwned.mono _ _ _)
   | (with_reducible exact laws_eqInt64S.mono _ _ _)
   | (with_reducible exact laws_eqZResult.mono _ _ _ _ _ _ _)
   | (with_reducible exact laws_eqZnodeS.mono _ _ _)
   | (with_reducible exact laws_heldZResult.mono _ _ _ _ _)
   | (with_reducible exact laws_markInt64S.mono _ _ _)
   | (with_reducible exact laws_markZResult.mono _ _ _ _ _)
   | (with_reducible exact laws_markZnodeS.mono _ _ _)
   | (with_reducible exact laws_szZnodeS.mono _ _ _)
   | (with_reducible exact laws_toInt64S.mono _ _)
   | (with_reducible exact laws_toZnodeS.mono _ _)
   | (with_reducible exact spec_DropOwned.mono _ _ _)
   | (with_reducible exact LeO.refl _)
   | (with_reducible exact LeO.none _)
   | (with_reducible refine LeO.ite ?_ ?_)
   | (with_reducible refine LeO.bind ?_ (fun _ => ?_))
   | exact ih0 _ _
   | exact ih1 _ _
   | exact ih2 _ _ _ _ _ _ _ _ _ _
   | exact ih3 _ _ _ _ _ _ _ _ _ _
   | exact ih4 _ _ _ _ _ _ _ _ _ _
   | exact ih5 _ _ _ _ _ _ _ _ _
   | exact ih6 _ _ _ _ _ _ _ _
   | exact ih7 _ _ _ _ _ _ _ _ _ _
   | exact ih8 _ _ _ _ _ _ _ _ _
   | exact ih9 _ _ _ _
   | exact impl_DropOwned.mono _ _ _
   | exact laws_eqInt64S.mono _ _ _
   | exact laws_eqZResult.mono _ _ _ _ _ _ _
   | exact laws_eqZnodeS.mono _ _ _
   | exact laws_heldZResult.mono _ _ _ _ _
   | exact laws_markInt64S.mono _ _ _
   | exact laws_markZResult.mono _ _ _ _ _
   | exact laws_markZnodeS.mono _ _ _
   | exact laws_szZnodeS.mono _ _ _
   | exact laws_toInt64S.mono _ _
   | exact laws_toZnodeS.mono _ _
   | exact spec_DropOwned.mono _ _ _
   | exact LeO.none _
   | refine LeO.ite ?_ ?_
   | refine LeO.bind ?_ (fun _ => ?_)
  ·
   intro y0 y1
   unfold laws_FnExactDropOwned.j1
   repeat' first
   | (with_reducible exact ih0 _ _)
   | (with_reducible exact ih1 _ _)
   | (with_reducible exact ih2 _ _ _ _ _ _ _ _ _ _)
   | (with_reducible exact ih3 _ _ _ _ _ _ _ _ _ _)
   | (with_reducible exact ih4 _ _ _ _ _ _ _ _ _ _)
   | (with_reducible exact ih5 _ _ _ _ _ _ _ _ _)
   | (with_reducible exact ih6 _ _ _ _ _ _ _ _)
   | (with_reducible exact ih7 _ _ _ _ _ _ _ _ _ _)
   | (with_reducible exact ih8 _ _ _ _ _ _ _ _ _)
   | (with_reducible exact ih9 _ _ _ _)
   | (with_reducible exact impl_DropOwned.mono _ _ _)
   | (with_reducible exact laws_eqInt64S.mono _ _ _)
   | (with_reducible exact laws_eqZResult.mono _ _ _ _ _ _ _)
   | (with_reducible exact laws_eqZnodeS.mono _ _ _)
   | (with_reducible exact laws_heldZResult.mono _ _ _ _ _)
   | (with_reducible exact laws_markInt64S.mono _ _ _)
   | (with_reducible exact laws_markZResult.mono _ _ _ _ _)
   | (with_reducible exact laws_markZnodeS.mono _ _ _)
   | (with_reducible exact laws_szZnodeS.mono _ _ _)
   | (with_reducible exact laws_toInt64S.mono _ _)
   | (with_reducible exact laws_toZnodeS.mono _ _)
   | (with_reducible exact spec_DropOwned.mono _ _ _)
   | (with_reducible exact LeO.refl _)
   | (with_reducible exact LeO.none _)
   | (with_reducible refine LeO.ite ?_ ?_)
   | (with_reducible refine LeO.bind ?_ (fun _ => ?_))
   | exact ih0 _ _
   | exact ih1 _ _
   | exact ih2 _ _ _ _ _ _ _ _ _ _
   | exact ih3 _ _ _ _ _ _ _ _ _ _
   | exact ih4 _ _ _ _ _ _ _ _ _ _
   | exact ih5 _ _ _ _ _ _ _ _ _
   | exact ih6 _ _ _ _ _ _ _ _
   | exact ih7 _ _ _ _ _ _ _ _ _ _
   | exact ih8 _ _ _ _ _ _ _ _ _
   | exact ih9 _ _ _ _
   | exact impl_DropOwned.mono _ _ _
   | exact laws_eqInt64S.mono _ _ _
   | exact laws_eqZResult.mono _ _ _ _ _ _ _
   | exact laws_eqZnodeS.mono _ _ _
   | exact laws_heldZResult.mono _ _ _ _ _
   | exact laws_markInt64S.mono _ _ _
   | exact laws_markZResult.mono _ _ _ _ _
   | exact laws_markZnodeS.mono _ _ _
   | exact laws_szZnodeS.mono _ _ _
   | exact laws_toInt64S.mono _ _
   | exact laws_toZnodeS.mono _ _
   | exact spec_DropOwned.mono _ _ _
   | exact LeO.none _
   | refine LeO.ite ?_ ?_
   | refine LeO.bind ?_ (fun _ => ?_)
  ·
   intro y0 y1 y2 y3 y4 y5 y6 y7 y8 y9
   unfold laws_FnExactDropOwned.j2
   repeat' first
   | (with_reducible exact ih0 _ _)
   | (with_reducible exact ih1 _ _)
   | (with_reducible exact ih2 _ _ _ _ _ _ _ _ _ _)
   | (with_reducible exact ih3 _ _ _ _ _ _ _ _ _ _)
   | (with_reducible exact ih4 _ _ _ _ _ _ _ _ _ _)
   | (with_reducible exact ih5 _ _ _ _ _ _ _ _ _)
   | (with_reducible exact ih6 _ _ _ _ _ _ _ _)
   | (with_reducible exact ih7 _ _ _ _ _ _ _ _ _ _)
   | (with_reducible exact ih8 _ _ _ _ _ _ _ _ _)
   | (with_reducible exact ih9 _ _ _ _)
   | (with_reducible exact impl_DropOwned.mono _ _ _)
   | (with_reducible exact laws_eqInt64S.mono _ _ _)
   | (with_reducible exact laws_eqZResult.mono _ _ _ _ _ _ _)
   | (with_reducible exact laws_eqZnodeS.mono _ _ _)
   | (with_reducible exact laws_heldZResult.mono _ _ _ _ _)
   | (with_reducible exact laws_markInt64S.mono _ _ _)
   | (with_reducible exact laws_markZResult.mono _ _ _ _ _)
   | (with_reducible exact laws_markZnodeS.mono _ _ _)
   | (with_reducible exact laws_szZnodeS.mono _ _ _)
   | (with_reducible exact laws_toInt64S.mono _ _)
   | (with_reducible exact laws_toZnodeS.mono _ _)
   | (with_reducible exact spec_DropOwned.mono _ _ _)
   | (with_reducible exact LeO.refl _)
   | (with_reducible exact LeO.none _)
   | (with_reducible refine LeO.ite ?_ ?_)
   | (with_reducible refine LeO.bind ?_ (fun _ => ?_))
   | exact ih0 _ _
   | exact ih1 _ _
   | exact ih2 _ _ _ _ _ _ _ _ _ _
   | exact ih3 _ _ _ _ _ _ _ _ _ _
   | exact ih4 _ _ _ _ _ _ _ _ _ _
   | exact ih5 _ _ _ _ _ _ _ _ _
   | exact ih6 _ _ _ _ _ _ _ _
   | exact ih7 _ _ _ _ _ _ _ _ _ _
   | exact ih8 _ _ _ _ _ _ _ _ _
   | exact ih9 _ _ _ _
   | exact impl_DropOwned.mono _ _ _
   | exact laws_eqInt64S.mono _ _ _
   | exact laws_eqZResult.mono _ _ _ _ _ _ _
   | exact laws_eqZnodeS.mono _ _ _
   | exact laws_heldZResult.mono _ _ _ _ _
   | exact laws_markInt64S.mono _ _ _
   | exact laws_markZResult.mono _ _ _ _ _
   | exact laws_markZnodeS.mono _ _ _
   | exact laws_szZnodeS.mono _ _ _
   | exact laws_toInt64S.mono _ _
   | exact laws_toZnodeS.mono _ _
   | exact spec_DropOwned.mono _ _ _
   | exact LeO.none _
   | refine LeO.ite ?_ ?_
   | refine LeO.bind ?_ (fun _ => ?_)
  ·
   intro y0 y1 y2 y3 y4 y5 y6 y7 y8 y9
   unfold laws_FnExactDropOwned.j3
   repeat' first
   | (with_reducible exact ih0 _ _)
   | (with_reducible exact ih1 _ _)
   | (with_reducible exact ih2 _ _ _ _ _ _ _ _ _ _)
   | (with_reducible exact ih3 _ _ _ _ _ _ _ _ _ _)
   | (with_reducible exact ih4 _ _ _ _ _ _ _ _ _ _)
   | (with_reducible exact ih5 _ _ _ _ _ _ _ _ _)
   | (with_reducible exact ih6 _ _ _ _ _ _ _ _)
   | (with_reducible exact ih7 _ _ _ _ _ _ _ _ _ _)
   | (with_reducible exact ih8 _ _ _ _ _ _ _ _ _)
   | (with_reducible exact ih9 _ _ _ _)
   | (with_reducible exact impl_DropOwned.mono _ _ _)
   | (with_reducible exact laws_eqInt64S.mono _ _ _)
   | (with_reducible exact laws_eqZResult.mono _ _ _ _ _ _ _)
   | (with_reducible exact laws_eqZnodeS.mono _ _ _)
   | (with_reducible exact laws_heldZResult.mono _ _ _ _ _)
   | (with_reducible exact laws_markInt64S.mono _ _ _)
   | (with_reducible exact laws_markZResult.mono _ _ _ _ _)
   | (with_reducible exact laws_markZnodeS.mono _ _ _)
   | (with_reducible exact laws_szZnodeS.mono _ _ _)
   | (with_reducible exact laws_toInt64S.mono _ _)
   | (with_reducible exact laws_toZnodeS.mono _ _)
   | (with_reducible exact spec_DropOwned.mono _ _ _)
   | (with_reducible exact LeO.refl _)
   | (with_reducible exact LeO.none _)
   | (with_reducible refine LeO.ite ?_ ?_)
   | (with_reducible refine LeO.bind ?_ (fun _ => ?_))
   | exact ih0 _ _
   | exact ih1 _ _
   | exact ih2 _ _ _ _ _ _ _ _ _ _
   | exact ih3 _ _ _ _ _ _ _ _ _ _
   | exact ih4 _ _ _ _ _ _ _ _ _ _
   | exact ih5 _ _ _ _ _ _ _ _ _
   | exact ih6 _ _ _ _ _ _ _ _
   | exact ih7 _ _ _ _ _ _ _ _ _ _
   | exact ih8 _ _ _ _ _ _ _ _ _
   | exact ih9 _ _ _ _
   | exact impl_DropOwned.mono _ _ _
   | exact laws_eqInt64S.mono _ _ _
   | exact laws_eqZResult.mono _ _ _ _ _ _ _
   | exact laws_eqZnodeS.mono _ _ _
   | exact laws_heldZResult.mono _ _ _ _ _
   | exact laws_markInt64S.mono _ _ _
   | exact laws_markZResult.mono _ _ _ _ _
   | exact laws_markZnodeS.mono _ _ _
   | exact laws_szZnodeS.mono _ _ _
   | exact laws_toInt64S.mono _ _
   | exact laws_toZnodeS.mono _ _
   | exact spec_DropOwned.mono _ _ _
   | exact LeO.none _
   | refine LeO.ite ?_ ?_
   | refine LeO.bind ?_ (fun _ => ?_)
  ·
   intro y0 y1 y2 y3 y4 y5 y6 y7 y8 y9
   unfold laws_FnExactDropOwned.j4
   repeat' first
   | (with_reducible exact ih0 _ _)
   | (with_reducible exact ih1 _ _)
   | (with_reducible exact ih2 _ _ _ _ _ _ _ _ _ _)
   | (with_reducible exact ih3 _ _ _ _ _ _ _ _ _ _)
   | (with_reducible exact ih4 _ _ _ _ _ _ _ _ _ _)
   | (with_reducible exact ih5 _ _ _ _ _ _ _ _ _)
   | (with_reducible exact ih6 _ _ _ _ _ _ _ _)
   | (with_reducible exact ih7 _ _ _ _ _ _ _ _ _ _)
   | (with_reducible exact ih8 _ _ _ _ _ _ _ _ _)
   | (with_reducible exact ih9 _ _ _ _)
   | (with_reducible exact impl_DropOwned.mono _ _ _)
   | (with_reducible exact laws_eqInt64S.mono _ _ _)
   | (with_reducible exact laws_eqZResult.mono _ _ _ _ _ _ _)
   | (with_reducible exact laws_eqZnodeS.mono _ _ _)
   | (with_reducible exact laws_heldZResult.mono _ _ _ _ _)
   | (with_reducible exact laws_markInt64S.mono _ _ _)
   | (with_reducible exact laws_markZResult.mono _ _ _ _ _)
   | (with_reducible exact laws_markZnodeS.mono _ _ _)
   | (with_reducible exact laws_szZnodeS.mono _ _ _)
   | (with_reducible exact laws_toInt64S.mono _ _)
   | (with_reducible exact laws_toZnodeS.mono _ _)
   | (with_reducible exact spec_DropOwned.mono _ _ _)
   | (with_reducible exact LeO.refl _)
   | (with_reducible exact LeO.none _)
   | (with_reducible refine LeO.ite ?_ ?_)
   | (with_reducible refine LeO.bind ?_ (fun _ => ?_))
   | exact ih0 _ _
   | exact ih1 _ _
   | exact ih2 _ _ _ _ _ _ _ _ _ _
   | exact ih3 _ _ _ _ _ _ _ _ _ _
   | exact ih4 _ _ _ _ _ _ _ _ _ _
   | exact ih5 _ _ _ _ _ _ _ _ _
   | exact ih6 _ _ _ _ _ _ _ _
   | exact ih7 _ _ _ _ _ _ _ _ _ _
   | exact ih8 _ _ _ _ _ _ _ _ _
   | exact ih9 _ _ _ _
   | exact impl_DropOwned.mono _ _ _
   | exact laws_eqInt64S.mono _ _ _
   | exact laws_eqZResult.mono _ _ _ _ _ _ _
   | exact laws_eqZnodeS.mono _ _ _
   | exact laws_heldZResult.mono _ _ _ _ _
   | exact laws_markInt64S.mono _ _ _
   | exact laws_markZResult.mono _ _ _ _ _
   | exact laws_markZnodeS.mono _ _ _
   | exact laws_szZnodeS.mono _ _ _
   | exact laws_toInt64S.mono _ _
   | exact laws_toZnodeS.mono _ _
   | exact spec_DropOwned.mono _ _ _
   | exact LeO.none _
   | refine LeO.ite ?_ ?_
   | refine LeO.bind ?_ (fun _ => ?_)
  ·
   intro y0 y1 y2 y3 y4 y5 y6 y7 y8
   unfold laws_FnExactDropOwned.j5
   repeat' first
   | (with_reducible exact ih0 _ _)
   | (with_reducible exact ih1 _ _)
   | (with_reducible exact ih2 _ _ _ _ _ _ _ _ _ _)
   | (with_reducible exact ih3 _ _ _ _ _ _ _ _ _ _)
   | (with_reducible exact ih4 _ _ _ _ _ _ _ _ _ _)
   | (with_reducible exact ih5 _ _ _ _ _ _ _ _ _)
   | (with_reducible exact ih6 _ _ _ _ _ _ _ _)
   | (with_reducible exact ih7 _ _ _ _ _ _ _ _ _ _)
   | (with_reducible exact ih8 _ _ _ _ _ _ _ _ _)
   | (with_reducible exact ih9 _ _ _ _)
   | (with_reducible exact impl_DropOwned.mono _ _ _)
   | (with_reducible exact laws_eqInt64S.mono _ _ _)
   | (with_reducible exact laws_eqZResult.mono _ _ _ _ _ _ _)
   | (with_reducible exact laws_eqZnodeS.mono _ _ _)
   | (with_reducible exact laws_heldZResult.mono _ _ _ _ _)
   | (with_reducible exact laws_markInt64S.mono _ _ _)
   | (with_reducible exact laws_markZResult.mono _ _ _ _ _)
   | (with_reducible exact laws_markZnodeS.mono _ _ _)
   | (with_reducible exact laws_szZnodeS.mono _ _ _)
   | (with_reducible exact laws_toInt64S.mono _ _)
   | (with_reducible exact laws_toZnodeS.mono _ _)
   | (with_reducible exact spec_DropOwned.mono _ _ _)
   | (with_reducible exact LeO.refl _)
   | (with_reducible exact LeO.none _)
   | (with_reducible refine LeO.ite ?_ ?_)
   | (with_reducible refine LeO.bind ?_ (fun _ => ?_))
   | exact ih0 _ _
   | exact ih1 _ _
   | exact ih2 _ _ _ _ _ _ _ _ _ _
   | exact ih3 _ _ _ _ _ _ _ _ _ _
   | exact ih4 _ _ _ _ _ _ _ _ _ _
   | exact ih5 _ _ _ _ _ _ _ _ _
   | exact ih6 _ _ _ _ _ _ _ _
   | exact ih7 _ _ _ _ _ _ _ _ _ _
   | exact ih8 _ _ _ _ _ _ _ _ _
   | exact ih9 _ _ _ _
   | exact impl_DropOwned.mono _ _ _
   | exact laws_eqInt64S.mono _ _ _
   | exact laws_eqZResult.mono _ _ _ _ _ _ _
   | exact laws_eqZnodeS.mono _ _ _
   | exact laws_heldZResult.mono _ _ _ _ _
   | exact laws_markInt64S.mono _ _ _
   | exact laws_markZResult.mono _ _ _ _ _
   | exact laws_markZnodeS.mono _ _ _
   | exact laws_szZnodeS.mono _ _ _
   | exact laws_toInt64S.mono _ _
   | exact laws_toZnodeS.mono _ _
   | exact spec_DropOwned.mono _ _ _
   | exact LeO.none _
   | refine LeO.ite ?_ ?_
   | refine LeO.bind ?_ (fun _ => ?_)
  ·
   intro y0 y1 y2 y3 y4 y5 y6 y7
   unfold laws_FnExactDropOwned.j6
   repeat' first
   | (with_reducible exact ih0 _ _)
   | (with_reducible exact ih1 _ _)
   | (with_reducible exact ih2 _ _ _ _ _ _ _ _ _ _)
   | (with_reducible exact ih3 _ _ _ _ _ _ _ _ _ _)
   | (with_reducible exact ih4 _ _ _ _ _ _ _ _ _ _)
   | (with_reducible exact ih5 _ _ _ _ _ _ _ _ _)
   | (with_reducible exact ih6 _ _ _ _ _ _ _ _)
   | (with_reducible exact ih7 _ _ _ _ _ _ _ _ _ _)
   | (with_reducible exact ih8 _ _ _ _ _ _ _ _ _)
   | (with_reducible exact ih9 _ _ _ _)
   | (with_reducible exact impl_DropOwned.mono _ _ _)
   | (with_reducible exact laws_eqInt64S.mono _ _ _)
   | (with_reducible exact laws_eqZResult.mono _ _ _ _ _ _ _)
   | (with_reducible exact laws_eqZnodeS.mono _ _ _)
   | (with_reducible exact laws_heldZResult.mono _ _ _ _ _)
   | (with_reducible exact laws_markInt64S.mono _ _ _)
   | (with_reducible exact laws_markZResult.mono _ _ _ _ _)
   | (with_reducible exact laws_markZnodeS.mono _ _ _)
   | (with_reducible exact laws_szZnodeS.mono _ _ _)
   | (with_reducible exact laws_toInt64S.mono _ _)
   | (with_reducible exact laws_toZnodeS.mono _ _)
   | (with_reducible exact spec_DropOwned.mono _ _ _)
   | (with_reducible exact LeO.refl _)
   | (with_reducible exact LeO.none _)
   | (with_reducible refine LeO.ite ?_ ?_)
   | (with_reducible refine LeO.bind ?_ (fun _ => ?_))
   | exact ih0 _ _
   | exact ih1 _ _
   | exact ih2 _ _ _ _ _ _ _ _ _ _
   | exact ih3 _ _ _ _ _ _ _ _ _ _
   | exact ih4 _ _ _ _ _ _ _ _ _ _
   | exact ih5 _ _ _ _ _ _ _ _ _
   | exact ih6 _ _ _ _ _ _ _ _
   | exact ih7 _ _ _ _ _ _ _ _ _ _
   | exact ih8 _ _ _ _ _ _ _ _ _
   | exact ih9 _ _ _ _
   | exact impl_DropOwned.mono _ _ _
   | exact laws_eqInt64S.mono _ _ _
   | exact laws_eqZResult.mono _ _ _ _ _ _ _
   | exact laws_eqZnodeS.mono _ _ _
   | exact laws_heldZResult.mono _ _ _ _ _
   | exact laws_markInt64S.mono _ _ _
   | exact laws_markZResult.mono _ _ _ _ _
   | exact laws_markZnodeS.mono _ _ _
   | exact laws_szZnodeS.mono _ _ _
   | exact laws_toInt64S.mono _ _
   | exact laws_toZnodeS.mono _ _
   | exact spec_DropOwned.mono _ _ _
   | exact LeO.none _
   | refine LeO.ite ?_ ?_
   | refine LeO.bind ?_ (fun _ => ?_)
  ·
   intro y0 y1 y2 y3 y4 y5 y6 y7 y8 y9
   unfold laws_FnExactDropOwned.j7
   repeat' first
   | (with_reducible exact ih0 _ _)
   | (with_reducible exact ih1 _ _)
   | (with_reducible exact ih2 _ _ _ _ _ _ _ _ _ _)
   | (with_reducible exact ih3 _ _ _ _ _ _ _ _ _ _)
   | (with_reducible exact ih4 _ _ _ _ _ _ _ _ _ _)
   | (with_reducible exact ih5 _ _ _ _ _ _ _ _ _)
   | (with_reducible exact ih6 _ _ _ _ _ _ _ _)
   | (with_reducible exact ih7 _ _ _ _ _ _ _ _ _ _)
   | (with_reducible exact ih8 _ _ _ _ _ _ _ _ _)
   | (with_reducible exact ih9 _ _ _ _)
   | (with_reducible exact impl_DropOwned.mono _ _ _)
   | (with_reducible exact laws_eqInt64S.mono _ _ _)
   | (with_reducible exact laws_eqZResult.mono _ _ _ _ _ _ _)
   | (with_reducible exact laws_eqZnodeS.mono _ _ _)
   | (with_reducible exact laws_heldZResult.mono _ _ _ _ _)
   | (with_reducible exact laws_markInt64S.mono _ _ _)
   | (with_reducible exact laws_markZResult.mono _ _ _ _ _)
   | (with_reducible exact laws_markZnodeS.mono _ _ _)
   | (with_reducible exact laws_szZnodeS.mono _ _ _)
   | (with_reducible exact laws_toInt64S.mono _ _)
   | (with_reducible exact laws_toZnodeS.mono _ _)
   | (with_reducible exact spec_DropOwned.mono _ _ _)
   | (with_reducible exact LeO.refl _)
   | (with_reducible exact LeO.none _)
   | (with_reducible refine LeO.ite ?_ ?_)
   | (with_reducible refine LeO.bind ?_ (fun _ => ?_))
   | exact ih0 _ _
   | exact ih1 _ _
   | exact ih2 _ _ _ _ _ _ _ _ _ _
   | exact ih3 _ _ _ _ _ _ _ _ _ _
   | exact ih4 _ _ _ _ _ _ _ _ _ _
   | exact ih5 _ _ _ _ _ _ _ _ _
   | exact ih6 _ _ _ _ _ _ _ _
   | exact ih7 _ _ _ _ _ _ _ _ _ _
   | exact ih8 _ _ _ _ _ _ _ _ _
   | exact ih9 _ _ _ _
   | exact impl_DropOwned.mono _ _ _
   | exact laws_eqInt64S.mono _ _ _
   | exact laws_eqZResult.mono _ _ _ _ _ _ _
   | exact laws_eqZnodeS.mono _ _ _
   | exact laws_heldZResult.mono _ _ _ _ _
   | exact laws_markInt64S.mono _ _ _
   | exact laws_markZResult.mono _ _ _ _ _
   | exact laws_markZnodeS.mono _ _ _
   | exact laws_szZnodeS.mono _ _ _
   | exact laws_toInt64S.mono _ _
   | exact laws_toZnodeS.mono _ _
   | exact spec_DropOwned.mono _ _ _
   | exact LeO.none _
   | refine LeO.ite ?_ ?_
   | refine LeO.bind ?_ (fun _ => ?_)
  ·
   intro y0 y1 y2 y3 y4 y5 y6 y7 y8
   unfold laws_FnExactDropOwned.j8
   repeat' first
   | (with_reducible exact ih0 _ _)
   | (with_reducible exact ih1 _ _)
   | (with_reducible exact ih2 _ _ _ _ _ _ _ _ _ _)
   | (with_reducible exact ih3 _ _ _ _ _ _ _ _ _ _)
   | (with_reducible exact ih4 _ _ _ _ _ _ _ _ _ _)
   | (with_reducible exact ih5 _ _ _ _ _ _ _ _ _)
   | (with_reducible exact ih6 _ _ _ _ _ _ _ _)
   | (with_reducible exact ih7 _ _ _ _ _ _ _ _ _ _)
   | (with_reducible exact ih8 _ _ _ _ _ _ _ _ _)
   | (with_reducible exact ih9 _ _ _ _)
   | (with_reducible exact impl_DropOwned.mono _ _ _)
   | (with_reducible exact laws_eqInt64S.mono _ _ _)
   | (with_reducible exact laws_eqZResult.mono _ _ _ _ _ _ _)
   | (with_reducible exact laws_eqZnodeS.mono _ _ _)
   | (with_reducible exact laws_heldZResult.mono _ _ _ _ _)
   | (with_reducible exact laws_markInt64S.mono _ _ _)
   | (with_reducible exact laws_markZResult.mono _ _ _ _ _)
   | (with_reducible exact laws_markZnodeS.mono _ _ _)
   | (with_reducible exact laws_szZnodeS.mono _ _ _)
   | (with_reducible exact laws_toInt64S.mono _ _)
   | (with_reducible exact laws_toZnodeS.mono _ _)
   | (with_reducible exact spec_DropOwned.mono _ _ _)
   | (with_reducible exact LeO.refl _)
   | (with_reducible exact LeO.none _)
   | (with_reducible refine LeO.ite ?_ ?_)
   | (with_reducible refine LeO.bind ?_ (fun _ => ?_))
   | exact ih0 _ _
   | exact ih1 _ _
   | exact ih2 _ _ _ _ _ _ _ _ _ _
   | exact ih3 _ _ _ _ _ _ _ _ _ _
   | exact ih4 _ _ _ _ _ _ _ _ _ _
   | exact ih5 _ _ _ _ _ _ _ _ _
   | exact ih6 _ _ _ _ _ _ _ _
   | exact ih7 _ _ _ _ _ _ _ _ _ _
   | exact ih8 _ _ _ _ _ _ _ _ _
   | exact ih9 _ _ _ _
   | exact impl_DropOwned.mono _ _ _
   | exact laws_eqInt64S.mono _ _ _
   | exact laws_eqZResult.mono _ _ _ _ _ _ _
   | exact laws_eqZnodeS.mono _ _ _
   | exact laws_heldZResult.mono _ _ _ _ _
   | exact laws_markInt64S.mono _ _ _
   | exact laws_markZResult.mono _ _ _ _ _
   | exact laws_markZnodeS.mono _ _ _
   | exact laws_szZnodeS.mono _ _ _
   | exact laws_toInt64S.mono _ _
   | exact laws_toZnodeS.mono _ _
   | exact spec_DropOwned.mono _ _ _
   | exact LeO.none _
   | refine LeO.ite ?_ ?_
   | refine LeO.bind ?_ (fun _ => ?_)
  ·
   intro y0 y1 y2 y3
   unfold laws_FnExactDropOwned.j9
   repeat' first
   | (with_reducible exact ih0 _ _)
   | (with_reducible exact ih1 _ _)
   | (with_reducible exact ih2 _ _ _ _ _ _ _ _ _ _)
   | (with_reducible exact ih3 _ _ _ _ _ _ _ _ _ _)
   | (with_reducible exact ih4 _ _ _ _ _ _ _ _ _ _)
   | (with_reducible exact ih5 _ _ _ _ _ _ _ _ _)
   | (with_reducible exact ih6 _ _ _ _ _ _ _ _)
   | (with_reducible exact ih7 _ _ _ _ _ _ _ _ _ _)
   | (with_reducible exact ih8 _ _ _ _ _ _ _ _ _)
   | (with_reducible exact ih9 _ _ _ _)
   | (with_reducible exact impl_DropOwned.mono _ _ _)
   | (with_reducible exact laws_eqInt64S.mono _ _ _)
   | (with_reducible exact laws_eqZResult.mono _ _ _ _ _ _ _)
   | (with_reducible exact laws_eqZnodeS.mono _ _ _)
   | (with_reducible exact laws_heldZResult.mono _ _ _ _ _)
   | (with_reducible exact laws_markInt64S.mono _ _ _)
   | (with_reducible exact laws_markZResult.mono _ _ _ _ _)
   | (with_reducible exact laws_markZnodeS.mono _ _ _)
   | (with_reducible exact laws_szZnodeS.mono _ _ _)
   | (with_reducible exact laws_toInt64S.mono _ _)
   | (with_reducible exact laws_toZnodeS.mono _ _)
   | (with_reducible exact spec_DropOwned.mono _ _ _)
   | (with_reducible exact LeO.refl _)
   | (with_reducible exact LeO.none _)
   | (with_reducible refine LeO.ite ?_ ?_)
   | (with_reducible refine LeO.bind ?_ (fun _ => ?_))
   | exact ih0 _ _
   | exact ih1 _ _
   | exact ih2 _ _ _ _ _ _ _ _ _ _
   | exact ih3 _ _ _ _ _ _ _ _ _ _
   | exact ih4 _ _ _ _ _ _ _ _ _ _
   | exact ih5 _ _ _ _ _ _ _ _ _
   | exact ih6 _ _ _ _ _ _ _ _
   | exact ih7 _ _ _ _ _ _ _ _ _ _
   | exact ih8 _ _ _ _ _ _ _ _ _
   | exact ih9 _ _ _ _
   | exact impl_DropOwned.mono _ _ _
   | exact laws_eqInt64S.mono _ _ _
   | exact laws_eqZResult.mono _ _ _ _ _ _ _
   | exact laws_eqZnodeS.mono _ _ _
   | exact laws_heldZResult.mono _ _ _ _ _
   | exact laws_markInt64S.mono _ _ _
   | exact laws_markZResult.mono _ _ _ _ _
   | exact laws_markZnodeS.mono _ _ _
   | exact laws_szZnodeS.mono _ _ _
   | exact laws_toInt64S.mono _ _
   | exact laws_toZnodeS.mono _ _
   | exact spec_DropOwned.mono _ _ _
   | exact LeO.none _
   | refine LeO.ite ?_ ?_
   | refine LeO.bind ?_ (fun _ => ?_)
theorem laws_FnExactDropOwned.mono : ∀ a0 a1 k, LeO (laws_FnExactDropOwned.f k a0 a1) (laws_FnExactDropOwned.f (k + 1) a0 a1) := by
 intro a0 a1 k
 obtain ⟨ih0, ih1, ih2, ih3, ih4, ih5, ih6, ih7, ih8, ih9⟩ := laws_FnExactDropOwned.mono_l k
 unfold laws_FnExactDropOwned.f
 repeat' first
   | (with_reducible exact ih0 _ _)
   | (with_reducible exact ih1 _ _)
   | (with_reducible exact ih2 _ _ _ _ _ _ _ _ _ _)
   | (with_reducible exact ih3 _ _ _ _ _ _ _ _ _ _)
   | (with_reducible exact ih4 _ _ _ _ _ _ _ _ _ _)
   | (with_reducible exact ih5 _ _ _ _ _ _ _ _ _)
   | (with_reducible exact ih6 _ _ _ _ _ _ _ _)
   | (with_reducible exact ih7 _ _ _ _ _ _ _ _ _ _)
   | (with_reducible exact ih8 _ _ _ _ _ _ _ _ _)
   | (with_reducible exact ih9 _ _ _ _)
   | (with_reducible exact impl_DropOwned.mono _ _ _)
   | (with_reducible exact laws_eqInt64S.mono _ _ _)
   | (with_reducible exact laws_eqZResult.mono _ _ _ _ _ _ _)
   | (with_reducible exact laws_eqZnodeS.mono _ _ _)
   | (with_reducible exact laws_heldZResult.mono _ _ _ _ _)
   | (with_reducible exact laws_markInt64S.mono _ _ _)
   | (with_reducible exact laws_markZResult.mono _ _ _ _ _)
   | (with_reducible exact laws_markZnodeS.mono _ _ _)
   | (with_reducible exact laws_szZnodeS.mono _ _ _)
   | (with_reducible exact laws_toInt64S.mono _ _)
   | (with_reducible exact laws_toZnodeS.mono _ _)
   | (with_reducible exact spec_DropOwned.mono _ _ _)
   | (with_reducible exact LeO.refl _)
   | (with_reducible exact LeO.none _)
   | (with_reducible refine LeO.ite ?_ ?_)
   | (with_reducible refine LeO.bind ?_ (fun _ => ?_))
   | exact ih0 _ _
   | exact ih1 _ _
   | exact ih2 _ _ _ _ _ _ _ _ _ _
   | exact ih3 _ _ _ _ _ _ _ _ _ _
   | exact ih4 _ _ _ _ _ _ _ _ _ _
   | exact ih5 _ _ _ _ _ _ _ _ _
   | exact ih6 _ _ _ _ _ _ _ _
   | exact ih7 _ _ _ _ _ _ _ _ _ _
   | exact ih8 _ _ _ _ _ _ _ _ _
   | exact ih9 _ _ _ _
   | exact impl_DropOwned.mono _ _ _
   | exact laws_eqInt64S.mono _ _ _
   | exact laws_eqZResult.mono _ _ _ _ _ _ _
   | exact laws_eqZnodeS.mono _ _ _
   | exact laws_heldZResult.mono _ _ _ _ _
   | exact laws_markInt64S.mono _ _ _
   | exact laws_markZResult.mono _ _ _ _ _
   | exact laws_markZnodeS.mono _ _ _
   | exact laws_szZnodeS.mono _ _ _
   | exact laws_toInt64S.mono _ _
   | exact laws_toZnodeS.mono _ _
   | exact spec_DropOwned.mono _ _ _
   | exact LeO.none _
   | refine LeO.ite ?_ ?_
   | refine LeO.bind ?_ (fun _ => ?_)
theorem laws_FnExactDropOwned.calls (k : Nat) (A0 : Option Addr) (c0 : Nat) (l0 : List (S48)) (A1 : Option Addr) (c1 : Nat) (l1 : List Int) (r : Bool) (w : World) (hr0 : Kd.C k48 w A0 l0.length l0) (hc0 : l0.length ≤ c0) (hr1 : Kd.C (Kd.int .i64) w A1 l1.length l1) (hc1 : l1.length ≤ c1) (h : laws_FnExactDropOwned.f k l0 l1 = some r) :
  Calls Tryd.prog 3 #[.slice A0 l0.length c0, .slice A1 l1.length c1] w fun e w' => e = .returned (.bool r) ∧ Below w.heap.size w w' := by
 have hu27 := Tryd.underlying27
 have HR0 := aa hr0
 have HC0 := aa hc0
 clear hr0 hc0
 have HR1 := aa hr1
 have HC1 := aa hc1
 clear hr1 hc1
 have HB := aa (Below.refl w.heap.size w)
 have H : (if (l1.length : Int) > 1048576 then (some true) else (laws_FnExactDropOwned.j0 k l0 l1)) = some r := h
 clear h
 have HC3 := aa H
 clear H
 go_enter Tryd.func3, Tryd.ntmps3
 go_upto_if 16 with (fail)
 go_cut [] (fun wc => ∃ (kq : Nat), Aside0 (laws_FnExactDropOwned.j0 kq l0 l1 = some r) ∧ Aside0 (kq ≤ k) ∧ Aside0 (Below w.heap.size w wc))
 case first =>
  have H := HC3.out
  clear HC3
  by_cases c4 : (l1.length : Int) > 1048576
  ·
   rw [if_pos c4] at H
   have c4b0 : decide (1048576 < (l1.length : Int)) = true := decide_eq_true c4
   have c4b1 : decide (1048576 < l1.length) = true := decide_eq_true (by omega)
   clear c4
   (first | rw [c4b0] | (simp only [i64_w, i32_w]; rw [c4b0]) | (simp only [c4b2, Bool.not_false, Bool.not_true]) | skip)
   obtain rfl := Option.some.inj H
   go_wp2
   go_ret
   exact ⟨by first | rfl | (simp [errW_none, errW_some] <;> rfl) | (simp [*, errW_none, errW_some] <;> rfl), by repeat (first | (with_reducible first | exact HB.out | apply below_alloc | apply pw_below_drewN | apply below_drew1) | exact HB.out)⟩
  ·
   rw [if_neg c4] at H
   have c4b0 : decide (1048576 < (l1.length : Int)) = false := decide_eq_false c4
   have c4b1 : decide (1048576 < l1.length) = false := decide_eq_false (by omega)
   clear c4
   (first | rw [c4b0] | (simp only [i64_w, i32_w]; rw [c4b0]) | (simp only [c4b2, Bool.not_false, Bool.not_true]) | skip)
   have H' := aa H
   clear H
   go_wp2
   go_meet
   case rel => exact ⟨_, H', ⟨by first | omega | exact Nat.le_refl _⟩, ⟨by repeat (first | (with_reducible first | exact HB.out | apply below_alloc | apply pw_below_drewN | apply below_drew1) | exact HB.out)⟩⟩
 case rest =>
  clear HC3
  try clear c1
  try clear p2
  try clear c3
  try clear c4
  try clear c4b0
  try clear c4b1
  try clear c4b2
  obtain ⟨kq, HA, HJ2, HB⟩ := hcut
  cases kq with
  | zero => exact absurd HA.out (by simp [laws_FnExactDropOwned.j0])
  | succ kj2 =>
   have H := HA.out
   clear HA
   simp only [laws_FnExactDropOwned.j0] at H
   replace H := Option.bind_eq_some_iff.mp H
   obtain ⟨t101, A50, H⟩ := H
   replace H : (if t101 < 0 then (some true) else (laws_FnExactDropOwned.j1 kj2 l0 l1)) = some r := H
   have A5 := aa A50
   clear A50
   have HC6 := aa H
   clear H
   go_upto_if 21 with (first | ((with_reducible refine gate_callee (f := 5) rfl ?_); refine goesL_ (some 19) rfl rfl Tryd.func5 (by kernel_rfl) rfl #[.slice A0 l0.length c0, .int .i64 1048576] rfl zjnmae ?_; (with_reducible refine (laws_szZnodeS.calls kj2 _ _ l0 1048576 t101 _ ?side1 ?side2 A5.out).mono ?_); (case side1 => exact zfmbgg); (case side2 => exact HC0.out); rintro e w7 ⟨rfl, hb⟩; refine ⟨_, rfl, ?_⟩; have n0_ := aa (below_step zjjbob hb); clear HB; have HB := n0_; clear n0_; (try clear hb); (try clear hb2); (try clear hk); (try clear hi)))
   (try simp only [Act.put, List.setIfInBounds_toArray, List.set_cons_zero, List.set_cons_succ])
   go_cut [] (fun wc => ∃ (kq : Nat), Aside0 (laws_FnExactDropOwned.j1 kq l0 l1 = some r) ∧ Aside0 (kq ≤ kj2) ∧ Aside0 (Below w.heap.size w wc))
   case first =>
    have H := HC6.out
    clear HC6
    by_cases c8 : t101 < 0
    ·
     rw [if_pos c8] at H
     have c8b0 : decide (t101 < 0) = true := decide_eq_true c8
     clear c8
     (first | rw [c8b0] | (simp only [i64_w, i32_w]; rw [c8b0]) | (simp only [c8b2, Bool.not_false, Bool.not_true]) | skip)
     obtain rfl := Option.some.inj H
     go_wp2
     go_ret
     exact ⟨by first | rfl | (simp [errW_none, errW_some] <;> rfl) | (simp [*, errW_none, errW_some] <;> rfl), by repeat (first | (with_reducible first | exact HB.out | apply below_alloc | apply pw_below_drewN | apply below_drew1) | exact HB.out)⟩
    ·
     rw [if_neg c8] at H
     have c8b0 : decide (t101 < 0) = false := decide_eq_false c8
     clear c8
     (first | rw [c8b0] | (simp only [i64_w, i32_w]; rw [c8b0]) | (simp only [c8b2, Bool.not_false, Bool.not_true]) | skip)
     have H' := aa H
     clear H
     go_wp2
     go_meet
     case rel => exact ⟨_, H', ⟨by have := HJ2.out; first | omega | exact Nat.le_refl _⟩, ⟨by repeat (first | (with_reducible first | exact HB.out | apply below_alloc | apply pw_below_drewN | apply below_drew1) | exact HB.out)⟩⟩
   case rest =>
    clear HC6
    try clear c1
    try clear p2
    try clear c3
    try clear c4
    try clear c4b0
    try clear c4b1
    try clear c4b2
    try clear c5
    try clear c8
    try clear c8b0
    try clear c8b2
    try clear p2
    obtain ⟨kq, HA, HJ5, HB⟩ := hcut
    cases kq with
    | zero => exact absurd HA.out (by simp [laws_FnExactDropOwned.j1])
    | succ kj5 =>
     have H := HA.out
     clear HA
     simp only [laws_FnExactDropOwned.j1] at H
     replace H := Option.bind_eq_some_iff.mp H
     obtain ⟨t102, A90, H⟩ := H
     replace H : ((laws_toInt64S.f kj5 l1).bind fun t105 => ((spec_DropOwned.f kj5 t102 t105).bind fun bt108 => ((laws_toZnodeS.f kj5 l0).bind fun t114 => ((laws_toInt64S.f kj5 l1).bind fun t117 => ((impl_DropOwned.f kj5 t114 t117).bind fun bt120 => ((laws_eqZResult.f kj5 bt120.1 bt120.2.1 bt120.2.2 bt108.1 bt108.2.1 bt108.2.2).bind fun t126 => (if t126 = true then (laws_FnExactDropOwned.j2 kj5 l0 l1 t114 t117 bt108.1 bt108.2.1 bt108.2.2 bt120.1 bt120.2.1 bt120.2.2) else (some false)))))))) = some r := H
     have A9 := aa A90
     clear A90
     replace H := Option.bind_eq_some_iff.mp H
     obtain ⟨t105, A100, H⟩ := H
     replace H : ((spec_DropOwned.f kj5 t102 t105).bind fun bt108 => ((laws_toZnodeS.f kj5 l0).bind fun t114 => ((laws_toInt64S.f kj5 l1).bind fun t117 => ((impl_DropOwned.f kj5 t114 t117).bind fun bt120 => ((laws_eqZResult.f kj5 bt120.1 bt120.2.1 bt120.2.2 bt108.1 bt108.2.1 bt108.2.2).bind fun t126 => (if t126 = true then (laws_FnExactDropOwned.j2 kj5 l0 l1 t114 t117 bt108.1 bt108.2.1 bt108.2.2 bt120.1 bt120.2.1 bt120.2.2) else (some false))))))) = some r := H
     have A10 := aa A100
     clear A100
     replace H := Option.bind_eq_some_iff.mp H
     obtain ⟨⟨t108, t109, t110⟩, A110, H⟩ := H
     replace H : ((laws_toZnodeS.f kj5 l0).bind fun t114 => ((laws_toInt64S.f kj5 l1).bind fun t117 => ((impl_DropOwned.f kj5 t114 t117).bind fun bt120 => ((laws_eqZResult.f kj5 bt120.1 bt120.2.1 bt120.2.2 t108 t109 t110).bind fun t126 => (if t126 = true then (laws_FnExactDropOwned.j2 kj5 l0 l1 t114 t117 t108 t109 t110 bt120.1 bt120.2.1 bt120.2.2) else (some false)))))) = some r := H
     have A11 := aa A110
     clear A110
     replace H := Option.bind_eq_some_iff.mp H
     obtain ⟨t114, A120, H⟩ := H
     replace H : ((laws_toInt64S.f kj5 l1).bind fun t117 => ((impl_DropOwned.f kj5 t114 t117).bind fun bt120 => ((laws_eqZResult.f kj5 bt120.1 bt120.2.1 bt120.2.2 t108 t109 t110).bind fun t126 => (if t126 = true then (laws_FnExactDropOwned.j2 kj5 l0 l1 t114 t117 t108 t109 t110 bt120.1 bt120.2.1 bt120.2.2) else (some false))))) = some r := H
     have A12 := aa A120
     clear A120
     replace H := Option.bind_eq_some_iff.mp H
     obtain ⟨t117, A130, H⟩ := H
     replace H : ((impl_DropOwned.f kj5 t114 t117).bind fun bt120 => ((laws_eqZResult.f kj5 bt120.1 bt120.2.1 bt120.2.2 t108 t109 t110).bind fun t126 => (if t126 = true then (laws_FnExactDropOwned.j2 kj5 l0 l1 t114 t117 t108 t109 t110 bt120.1 bt120.2.1 bt120.2.2) else (some false)))) = some r := H
     have A13 := aa A130
     clear A130
     replace H := Option.bind_eq_some_iff.mp H
     obtain ⟨⟨t120, t121, t122⟩, A140, H⟩ := H
     replace H : ((laws_eqZResult.f kj5 t120 t121 t122 t108 t109 t110).bind fun t126 => (if t126 = true then (laws_FnExactDropOwned.j2 kj5 l0 l1 t114 t117 t108 t109 t110 t120 t121 t122) else (some false))) = some r := H
     have A14 := aa A140
     clear A140
     replace H := Option.bind_eq_some_iff.mp H
     obtain ⟨t126, A150, H⟩ := H
     replace H : (if t126 = true then (laws_FnExactDropOwned.j2 kj5 l0 l1 t114 t117 t108 t109 t110 t120 t121 t122) else (some false)) = some r := H
     have A15 := aa A150
     clear A150
     have HC16 := aa H
     clear H
     go_upto_if 37 with (first | ((with_reducible refine gate_callee (f := 7) rfl ?_); refine goesL_ (some 23) rfl rfl Tryd.func7 (by kernel_rfl) rfl #[.slice A0 l0.length c0] rfl zjnmae ?_; (with_reducible refine (laws_toZnodeS.calls kj5 _ _ l0 t102 _ ?side1 ?side2 A9.out).mono ?_); (case side1 => exact zfmbgg); (case side2 => exact HC0.out); rintro e w17 ⟨v103, rfl, ho0, hb⟩; refine ⟨_, rfl, ?_⟩; have n0_ := aa (Kd.R_lower ho0 (below_size zjjbob)); have n1_ := aa (below_step zjjbob hb); clear HB; have HO104 := n0_; have HB := n1_; clear n0_ n1_; (try clear hb); (try clear hb2); (try clear hk); (try clear hi); (try clear ho0)) | ((with_reducible refine gate_callee (f := 8) rfl ?_); refine goesL_ (some 25) rfl rfl Tryd.func8 (by kernel_rfl) rfl #[.slice A1 l1.length c1] rfl zjnmae ?_; (with_reducible refine (laws_toInt64S.calls kj5 _ _ l1 t105 _ ?side1 ?side2 A10.out).mono ?_); (case side1 => exact znmdka); (case side2 => exact HC1.out); rintro e w18 ⟨v106, rfl, ho0, hb⟩; refine ⟨_, rfl, ?_⟩; have n0_ := aa (Kd.R_below (zcaken HO104.out) hb); have n1_ := aa (Kd.R_lower ho0 (below_size zjjbob)); have n2_ := aa (below_step zjjbob hb); clear HO104; clear HB; have HO104 := n0_; have HO107 := n1_; have HB := n2_; clear n0_ n1_ n2_; (try clear hb); (try clear hb2); (try clear hk); (try clear hi); (try clear ho0); obtain ⟨Ao19, co19, eo19⟩ := Kd.R_slice HO104.out; subst eo19; obtain ⟨Ao20, co20, eo20⟩ := Kd.R_slice HO107.out; subst eo20) | ((with_reducible refine gate_callee (f := 6) rfl ?_); refine goesL_ (some 26) rfl rfl Tryd.func6 (by kernel_rfl) rfl #[.slice Ao19 t102.length co19, .slice Ao20 t105.length co20] rfl zjnmae ?_; (with_reducible refine (spec_DropOwned.calls kj5 _ _ t102 _ _ t105 t108 t109 t110 _ ?side1 ?side2 ?side3 ?side4 A11.out).mono ?_); (case side1 => repeat (first | exact (Kd.R_reads' HO104.out).2.2 | (with_reducible refine Kd.C_alloc ?_ _) | (with_reducible refine Kd.C_drewN ?_ _) | (with_reducible refine Kd.C_drew ?_))); (case side2 => exact (Kd.R_reads' HO104.out).2.1); (case side3 => exact zglnde); (case side4 => exact (Kd.R_reads' HO107.out).2.1); rintro e w21 ⟨v111, rfl, ho0, hb⟩; refine ⟨_, rfl, ?_⟩; have n0_ := aa (Kd.R_elder' (zcaken HO104.out) (Kd.R_base ho0) hb); have n1_ := aa (Kd.R_below (zcaken HO107.out) hb); have n2_ := aa (Kd.R_lower (Kd.R_new' ho0 (Kd.R_lt (zcaken HO104.out))) (below_size zjjbob)); have n3_ := aa (below_step zjjbob hb); clear HO104; clear HO107; clear HB; have HO104 := n0_; have HO107 := n1_; have HO112 := n2_; have HB := n3_; clear n0_ n1_ n2_ n3_; (try clear hb); (try clear hb2); (try clear hk); (try clear hi); (try clear ho0)) | ((with_reducible refine gate_dst (N := 6) rfl ?_); refine box_event ?hg (N := 6) ?hd (cs := #[.int .i64 0, .string (⟨#[]⟩ : ByteArray), .slice none 0 0]) (t := 27) ?hr ?_; (case hd => rfl); (case hg => rfl); (case hr => exact zhlgcp); intro gb113 hg w22 hbox hb; have n0_ := aa (Kd.R_below (zcaken HO104.out) hb); have n1_ := aa (Kd.R_below (zcaken HO107.out) hb); have n2_ := aa (Kd.R_below (zcaken HO112.out) hb); have n3_ := aa (below_step zjjbob hb); have n4_ := aa (hbox); have n5_ := aa ((zkpfjp : w.heap.size ≤ gb113)); have n6_ := aa ((zkpfjp : w.heap.size ≤ gb113)); clear HO104; clear HO107; clear HO112; clear HB; have HO104 := n0_; have HO107 := n1_; have HO112 := n2_; have HB := n3_; have BK113 := n4_; have GW113 := n5_; have GE113 := n6_; clear n0_ n1_ n2_ n3_ n4_ n5_ n6_; clear hb hbox hg; have hcz23_0 : w22.cell? ⟨gb113, 0, none⟩ = some (.int .i64 0) := (blk_cell BK113.out 0).trans rfl; have hcz23_1 : w22.cell? ⟨gb113, 1, none⟩ = some (.string (⟨#[]⟩ : ByteArray)) := (blk_cell BK113.out 1).trans rfl; have hcz23_2 : w22.cell? ⟨gb113, 2, none⟩ = some (.slice none 0 0) := (blk_cell BK113.out 2).trans rfl; have hfz23_0 := blk_frozen BK113.out 0; have hfz23_1 := blk_frozen BK113.out 1; have hfz23_2 := blk_frozen BK113.out 2; obtain ⟨Ao24, co24, eo24⟩ := Kd.R_slice HO112.out; subst eo24) | ((with_reducible refine gate_callee (f := 7) rfl ?_); refine goesL_ (some 28) rfl rfl Tryd.func7 (by kernel_rfl) rfl #[.slice A0 l0.length c0] rfl zjnmae ?_; (with_reducible refine (laws_toZnodeS.calls kj5 _ _ l0 t114 _ ?side1 ?side2 A12.out).mono ?_); (case side1 => exact Kd.C_below HR0.out zaooek); (case side2 => exact HC0.out); rintro e w25 ⟨v115, rfl, ho0, hb⟩; refine ⟨_, rfl, ?_⟩; have n0_ := aa (Kd.R_elder' (by (with_reducible repeat (first | apply Kd.R_alloc | apply Kd.R_drewN | apply Kd.R_drew)); exact (Kd.R_mono (Kd.R_far (p := ⟨gb113, 2, none⟩) (Kd.R_far (p := ⟨gb113, 1, none⟩) (Kd.R_far (p := ⟨gb113, 0, none⟩) (Kd.R_types HO104.out BK113.out (by decide)) (fun _ hk => hk.2) (.int .i64 t108)) (fun _ hk => hk.2) (.string t109)) (fun _ hk => hk.2) (.slice Ao24 t110.length co24)) (fun _ h_ => h_.1))) (Kd.R_base ho0) hb); have n1_ := aa (Kd.R_below (by (with_reducible repeat (first | apply Kd.R_alloc | apply Kd.R_drewN | apply Kd.R_drew)); exact (Kd.R_mono (Kd.R_far (p := ⟨gb113, 2, none⟩) (Kd.R_far (p := ⟨gb113, 1, none⟩) (Kd.R_far (p := ⟨gb113, 0, none⟩) (Kd.R_types HO107.out BK113.out (by decide)) (fun _ hk => hk.2) (.int .i64 t108)) (fun _ hk => hk.2) (.string t109)) (fun _ hk => hk.2) (.slice Ao24 t110.length co24)) (fun _ h_ => h_.1))) hb); have n2_ := aa (Kd.R_elder' (by (with_reducible repeat (first | apply Kd.R_alloc | apply Kd.R_drewN | apply Kd.R_drew)); exact (Kd.R_mono (Kd.R_far (p := ⟨gb113, 2, none⟩) (Kd.R_far (p := ⟨gb113, 1, none⟩) (Kd.R_far (p := ⟨gb113, 0, none⟩) (Kd.R_types HO112.out BK113.out (by decide)) (fun _ hk => hk.2) (.int .i64 t108)) (fun _ hk => hk.2) (.string t109)) (fun _ hk => hk.2) (.slice Ao24 t110.length co24)) (fun _ h_ => h_.1))) (Kd.R_base ho0) hb); have n3_ := aa (Kd.R_lower (Kd.R_new' (Kd.R_new' ho0 (Kd.R_lt (by (with_reducible repeat (first | apply Kd.R_alloc | apply Kd.R_drewN | apply Kd.R_drew)); exact (Kd.R_mono (Kd.R_far (p := ⟨gb113, 2, none⟩) (Kd.R_far (p := ⟨gb113, 1, none⟩) (Kd.R_far (p := ⟨gb113, 0, none⟩) (Kd.R_types HO104.out BK113.out (by decide)) (fun _ hk => hk.2) (.int .i64 t108)) (fun _ hk => hk.2) (.string t109)) (fun _ hk => hk.2) (.slice Ao24 t110.length co24)) (fun _ h_ => h_.1))))) (Kd.R_lt (by (with_reducible repeat (first | apply Kd.R_alloc | apply Kd.R_drewN | apply Kd.R_drew)); exact (Kd.R_mono (Kd.R_far (p := ⟨gb113, 2, none⟩) (Kd.R_far (p := ⟨gb113, 1, none⟩) (Kd.R_far (p := ⟨gb113, 0, none⟩) (Kd.R_types HO112.out BK113.out (by decide)) (fun _ hk => hk.2) (.int .i64 t108)) (fun _ hk => hk.2) (.string t109)) (fun _ hk => hk.2) (.slice Ao24 t110.length co24)) (fun _ h_ => h_.1))))) (below_size zaooek)); have n4_ := aa (blk_below (g := gb113) (o := .cells #[.int .i64 t108, .string t109, .slice Ao24 t110.length co24] 27 (0, 0)) (by (with_reducible repeat (first | refine blk_drewN ?_ _ | refine blk_drew ?_ | refine blk_alloc ?_ _)); refine blk_put (cs := #[.int .i64 t108, .string t109, .slice none 0 0]) ?_ 2 _ rfl; (with_reducible repeat (first | refine blk_drewN ?_ _ | refine blk_drew ?_ | refine blk_alloc ?_ _)); refine blk_put (cs := #[.int .i64 t108, .string (⟨#[]⟩ : ByteArray), .slice none 0 0]) ?_ 1 _ rfl; (with_reducible repeat (first | refine blk_drewN ?_ _ | refine blk_drew ?_ | refine blk_alloc ?_ _)); refine blk_put (cs := #[.int .i64 0, .string (⟨#[]⟩ : ByteArray), .slice none 0 0]) ?_ 0 _ rfl; (with_reducible repeat (first | refine blk_drewN ?_ _ | refine blk_drew ?_ | refine blk_alloc ?_ _)); exact BK113.out) hb); have n5_ := aa (below_step zaooek hb); clear HO104; clear HO107; clear HO112; clear BK113; clear HB; have HO104 := n0_; have HO107 := n1_; have HO112 := n2_; have HO116 := n3_; have BK113 := n4_; have HB := n5_; clear n0_ n1_ n2_ n3_ n4_ n5_; (try clear hb); (try clear hb2); (try clear hk); (try clear hi); (try clear ho0)) | ((with_reducible refine gate_callee (f := 8) rfl ?_); refine goesL_ (some 30) rfl rfl Tryd.func8 (by kernel_rfl) rfl #[.slice A1 l1.length c1] rfl zjnmae ?_; (with_reducible refine (laws_toInt64S.calls kj5 _ _ l1 t117 _ ?side1 ?side2 A13.out).mono ?_); (case side1 => exact znmdka); (case side2 => exact HC1.out); rintro e w26 ⟨v118, rfl, ho0, hb⟩; refine ⟨_, rfl, ?_⟩; have n0_ := aa (Kd.R_below (zcaken HO104.out) hb); have n1_ := aa (Kd.R_elder' (zcaken HO107.out) (Kd.R_base ho0) hb); have n2_ := aa (Kd.R_below (zcaken HO112.out) hb); have n3_ := aa (Kd.R_below (zcaken HO116.out) hb); have n4_ := aa (Kd.R_lower (Kd.R_new' ho0 (Kd.R_lt (zcaken HO107.out))) (below_size zaooek)); have n5_ := aa (blk_below (g := gb113) (o := .cells #[.int .i64 t108, .string t109, .slice Ao24 t110.length co24] 27 (0, 0)) (zkjhpm BK113.out) hb); have n6_ := aa (below_step zaooek hb); clear HO104; clear HO107; clear HO112; clear HO116; clear BK113; clear HB; have HO104 := n0_; have HO107 := n1_; have HO112 := n2_; have HO116 := n3_; have HO119 := n4_; have BK113 := n5_; have HB := n6_; clear n0_ n1_ n2_ n3_ n4_ n5_ n6_; (try clear hb); (try clear hb2); (try clear hk); (try clear hi); (try clear ho0); obtain ⟨Ao27, co27, eo27⟩ := Kd.R_slice HO116.out; subst eo27; obtain ⟨Ao28, co28, eo28⟩ := Kd.R_slice HO119.out; subst eo28) | ((with_reducible refine gate_callee (f := 9) rfl ?_); refine goesL_ (some 33) rfl rfl Tryd.func9 (by kernel_rfl) rfl #[.slice Ao27 t114.length co27, .slice Ao28 t117.length co28] rfl zjnmae ?_; (with_reducible refine (impl_DropOwned.calls kj5 _ _ t114 _ _ t117 t120 t121 t122 _ ?side1 ?side2 ?side3 ?side4 A14.out).mono ?_); (case side1 => exact zaoaoj); (case side2 => exact zllekc); (case side3 => repeat (first | exact (Kd.R_reads' HO119.out).2.2 | (with_reducible refine Kd.C_alloc ?_ _) | (with_reducible refine Kd.C_drewN ?_ _) | (with_reducible refine Kd.C_drew ?_))); (case side4 => exact (Kd.R_reads' HO119.out).2.1); rintro e w29 ⟨v123, rfl, ho0, hb⟩; refine ⟨_, rfl, ?_⟩; have n0_ := aa (Kd.R_elder' (zcaken HO104.out) (Kd.R_base ho0) hb); have n1_ := aa (Kd.R_below (zcaken HO107.out) hb); have n2_ := aa (Kd.R_elder' (zcaken HO112.out) (Kd.R_base ho0) hb); have n3_ := aa (Kd.R_elder' (zcaken HO116.out) (Kd.R_base ho0) hb); have n4_ := aa (Kd.R_below (zcaken HO119.out) hb); have n5_ := aa (Kd.R_lower (Kd.R_new' (Kd.R_new' (Kd.R_new' ho0 (Kd.R_lt (zcaken HO104.out))) (Kd.R_lt (zcaken HO112.out))) (Kd.R_lt (zcaken HO116.out))) (below_size zaooek)); have n6_ := aa (blk_below (g := gb113) (o := .cells #[.int .i64 t108, .string t109, .slice Ao24 t110.length co24] 27 (0, 0)) (zkjhpm BK113.out) hb); have n7_ := aa (below_step zaooek hb); clear HO104; clear HO107; clear HO112; clear HO116; clear HO119; clear BK113; clear HB; have HO104 := n0_; have HO107 := n1_; have HO112 := n2_; have HO116 := n3_; have HO119 := n4_; have HO124 := n5_; have BK113 := n6_; have HB := n7_; clear n0_ n1_ n2_ n3_ n4_ n5_ n6_ n7_; (try clear hb); (try clear hb2); (try clear hk); (try clear hi); (try clear ho0)) | ((with_reducible refine gate_dst (N := 9) rfl ?_); refine box_event ?hg (N := 9) ?hd (cs := #[.int .i64 0, .string (⟨#[]⟩ : ByteArray), .slice none 0 0]) (t := 27) ?hr ?_; (case hd => rfl); (case hg => rfl); (case hr => exact zhlgcp); intro gb125 hg w30 hbox hb; have n0_ := aa (Kd.R_below (zcaken HO104.out) hb); have n1_ := aa (Kd.R_below (zcaken HO107.out) hb); have n2_ := aa (Kd.R_below (zcaken HO112.out) hb); have n3_ := aa (Kd.R_below (zcaken HO116.out) hb); have n4_ := aa (Kd.R_below (zcaken HO119.out) hb); have n5_ := aa (Kd.R_below (zcaken HO124.out) hb); have n6_ := aa (blk_below (g := gb113) (o := .cells #[.int .i64 t108, .string t109, .slice Ao24 t110.length co24] 27 (0, 0)) (zkjhpm BK113.out) hb); have n7_ := aa (below_step zaooek hb); have n8_ := aa (hbox); have n9_ := aa ((by rw [hg]; exact (below_size zaooek) : w.heap.size ≤ gb125)); have n10_ := aa ((by rw [hg]; exact (below_size zaooek) : w.heap.size ≤ gb125)); have n11_ := aa ((zlokod : gb113 ≠ gb125)); have n12_ := aa ((zephnk : gb125 ≠ gb113)); clear HO104; clear HO107; clear HO112; clear HO116; clear HO119; clear HO124; clear BK113; clear HB; have HO104 := n0_; have HO107 := n1_; have HO112 := n2_; have HO116 := n3_; have HO119 := n4_; have HO124 := n5_; have BK113 := n6_; have HB := n7_; have BK125 := n8_; have GW125 := n9_; have GE125 := n10_; have NB113_125 := n11_; have NB125_113 := n12_; clear n0_ n1_ n2_ n3_ n4_ n5_ n6_ n7_ n8_ n9_ n10_ n11_ n12_; clear hb hbox hg; have hnb31 := NB125_113.out; have hnc31 := NB113_125.out; have hcz32_0 : w30.cell? ⟨gb125, 0, none⟩ = some (.int .i64 0) := (blk_cell BK125.out 0).trans rfl; have hcz32_1 : w30.cell? ⟨gb125, 1, none⟩ = some (.string (⟨#[]⟩ : ByteArray)) := (blk_cell BK125.out 1).trans rfl; have hcz32_2 : w30.cell? ⟨gb125, 2, none⟩ = some (.slice none 0 0) := (blk_cell BK125.out 2).trans rfl; have hfz32_0 := blk_frozen BK125.out 0; have hfz32_1 := blk_frozen BK125.out 1; have hfz32_2 := blk_frozen BK125.out 2; obtain ⟨Ao33, co33, eo33⟩ := Kd.R_slice HO124.out; subst eo33; have hcz34_0 : w30.cell? ⟨gb113, 0, none⟩ = some (.int .i64 t108) := (blk_cell BK113.out 0).trans rfl; have hcz34_1 : w30.cell? ⟨gb113, 1, none⟩ = some (.string t109) := (blk_cell BK113.out 1).trans rfl; have hcz34_2 : w30.cell? ⟨gb113, 2, none⟩ = some (.slice Ao24 t110.length co24) := (blk_cell BK113.out 2).trans rfl; have hfz34_0 := blk_frozen BK113.out 0; have hfz34_1 := blk_frozen BK113.out 1; have hfz34_2 := blk_frozen BK113.out 2) | ((with_reducible refine gate_callee (f := 10) rfl ?_); refine goesL_ (some 36) rfl rfl Tryd.func10 (by kernel_rfl) rfl #[.agg #[.int .i64 t120, .string t121, .slice Ao33 t122.length co33], .agg #[.int .i64 t108, .string t109, .slice Ao24 t110.length co24]] rfl zjnmae ?_; (with_reducible refine (laws_eqZResult.calls kj5 t120 t121 _ _ t122 t108 t109 _ _ t110 t126 _ ?side1 ?side2 ?side3 ?side4 A15.out).mono ?_); (case side1 => refine (Kd.R_reads' (e := 44) (base := w.heap.size) (ok := fun k_ => (((True ∧ some k_ ≠ (.slice Ao19 t102.length co19 : Value).ownBlock) ∧ some k_ ≠ (.slice Ao24 t110.length co24 : Value).ownBlock) ∧ some k_ ≠ (.slice Ao27 t114.length co27 : Value).ownBlock)) (n := t122.length) (c := co33) ?_).2.2; exact (by (with_reducible repeat (first | apply Kd.R_alloc | apply Kd.R_drewN | apply Kd.R_drew)); exact (Kd.R_mono (Kd.R_far (p := ⟨gb125, 2, none⟩) (Kd.R_far (p := ⟨gb125, 1, none⟩) (Kd.R_far (p := ⟨gb125, 0, none⟩) (Kd.R_types HO124.out BK125.out (by decide)) (fun _ hk => hk.2) (.int .i64 t120)) (fun _ hk => hk.2) (.string t121)) (fun _ hk => hk.2) (.slice Ao33 t122.length co33)) (fun _ h_ => h_.1)))); (case side2 => exact (Kd.R_reads' HO124.out).2.1); (case side3 => refine (Kd.R_reads' (e := 44) (base := w.heap.size) (ok := fun k_ => (((True ∧ some k_ ≠ (.slice Ao19 t102.length co19 : Value).ownBlock) ∧ some k_ ≠ (.slice Ao27 t114.length co27 : Value).ownBlock) ∧ some k_ ≠ (.slice Ao33 t122.length co33 : Value).ownBlock)) (n := t110.length) (c := co24) ?_).2.2; exact (by (with_reducible repeat (first | apply Kd.R_alloc | apply Kd.R_drewN | apply Kd.R_drew)); exact (Kd.R_mono (Kd.R_far (p := ⟨gb125, 2, none⟩) (Kd.R_far (p := ⟨gb125, 1, none⟩) (Kd.R_far (p := ⟨gb125, 0, none⟩) (Kd.R_types HO112.out BK125.out (by decide)) (fun _ hk => hk.2) (.int .i64 t120)) (fun _ hk => hk.2) (.string t121)) (fun _ hk => hk.2) (.slice Ao33 t122.length co33)) (fun _ h_ => h_.1)))); (case side4 => exact (Kd.R_reads' HO112.out).2.1); rintro e w35 ⟨rfl, hb⟩; refine ⟨_, rfl, ?_⟩; have n0_ := aa (Kd.R_below (by (with_reducible repeat (first | apply Kd.R_alloc | apply Kd.R_drewN | apply Kd.R_drew)); exact (Kd.R_mono (Kd.R_far (p := ⟨gb125, 2, none⟩) (Kd.R_far (p := ⟨gb125, 1, none⟩) (Kd.R_far (p := ⟨gb125, 0, none⟩) (Kd.R_types HO104.out BK125.out (by decide)) (fun _ hk => hk.2) (.int .i64 t120)) (fun _ hk => hk.2) (.string t121)) (fun _ hk => hk.2) (.slice Ao33 t122.length co33)) (fun _ h_ => h_.1))) hb); have n1_ := aa (Kd.R_below (by (with_reducible repeat (first | apply Kd.R_alloc | apply Kd.R_drewN | apply Kd.R_drew)); exact (Kd.R_mono (Kd.R_far (p := ⟨gb125, 2, none⟩) (Kd.R_far (p := ⟨gb125, 1, none⟩) (Kd.R_far (p := ⟨gb125, 0, none⟩) (Kd.R_types HO107.out BK125.out (by decide)) (fun _ hk => hk.2) (.int .i64 t120)) (fun _ hk => hk.2) (.string t121)) (fun _ hk => hk.2) (.slice Ao33 t122.length co33)) (fun _ h_ => h_.1))) hb); have n2_ := aa (Kd.R_below (by (with_reducible repeat (first | apply Kd.R_alloc | apply Kd.R_drewN | apply Kd.R_drew)); exact (Kd.R_mono (Kd.R_far (p := ⟨gb125, 2, none⟩) (Kd.R_far (p := ⟨gb125, 1, none⟩) (Kd.R_far (p := ⟨gb125, 0, none⟩) (Kd.R_types HO112.out BK125.out (by decide)) (fun _ hk => hk.2) (.int .i64 t120)) (fun _ hk => hk.2) (.string t121)) (fun _ hk => hk.2) (.slice Ao33 t122.length co33)) (fun _ h_ => h_.1))) hb); have n3_ := aa (Kd.R_below (by (with_reducible repeat (first | apply Kd.R_alloc | apply Kd.R_drewN | apply Kd.R_drew)); exact (Kd.R_mono (Kd.R_far (p := ⟨gb125, 2, none⟩) (Kd.R_far (p := ⟨gb125, 1, none⟩) (Kd.R_far (p := ⟨gb125, 0, none⟩) (Kd.R_types HO116.out BK125.out (by decide)) (fun _ hk => hk.2) (.int .i64 t120)) (fun _ hk => hk.2) (.string t121)) (fun _ hk => hk.2) (.slice Ao33 t122.length co33)) (fun _ h_ => h_.1))) hb); have n4_ := aa (Kd.R_below (by (with_reducible repeat (first | apply Kd.R_alloc | apply Kd.R_drewN | apply Kd.R_drew)); exact (Kd.R_mono (Kd.R_far (p := ⟨gb125, 2, none⟩) (Kd.R_far (p := ⟨gb125, 1, none⟩) (Kd.R_far (p := ⟨gb125, 0, none⟩) (Kd.R_types HO119.out BK125.out (by decide)) (fun _ hk => hk.2) (.int .i64 t120)) (fun _ hk => hk.2) (.string t121)) (fun _ hk => hk.2) (.slice Ao33 t122.length co33)) (fun _ h_ => h_.1))) hb); have n5_ := aa (Kd.R_below (by (with_reducible repeat (first | apply Kd.R_alloc | apply Kd.R_drewN | apply Kd.R_drew)); exact (Kd.R_mono (Kd.R_far (p := ⟨gb125, 2, none⟩) (Kd.R_far (p := ⟨gb125, 1, none⟩) (Kd.R_far (p := ⟨gb125, 0, none⟩) (Kd.R_types HO124.out BK125.out (by decide)) (fun _ hk => hk.2) (.int .i64 t120)) (fun _ hk => hk.2) (.string t121)) (fun _ hk => hk.2) (.slice Ao33 t122.length co33)) (fun _ h_ => h_.1))) hb); have n6_ := aa (blk_below (g := gb113) (o := .cells #[.int .i64 t108, .string t109, .slice Ao24 t110.length co24] 27 (0, 0)) (by (with_reducible repeat (first | refine blk_drewN ?_ _ | refine blk_drew ?_ | refine blk_alloc ?_ _)); refine blk_far ?_ NB113_125.out _; (with_reducible repeat (first | refine blk_drewN ?_ _ | refine blk_drew ?_ | refine blk_alloc ?_ _)); refine blk_far ?_ NB113_125.out _; (with_reducible repeat (first | refine blk_drewN ?_ _ | refine blk_drew ?_ | refine blk_alloc ?_ _)); refine blk_far ?_ NB113_125.out _; (with_reducible repeat (first | refine blk_drewN ?_ _ | refine blk_drew ?_ | refine blk_alloc ?_ _)); exact BK113.out) hb); have n7_ := aa (blk_below (g := gb125) (o := .cells #[.int .i64 t120, .string t121, .slice Ao33 t122.length co33] 27 (0, 0)) (by (with_reducible repeat (first | refine blk_drewN ?_ _ | refine blk_drew ?_ | refine blk_alloc ?_ _)); refine blk_put (cs := #[.int .i64 t120, .string t121, .slice none 0 0]) ?_ 2 _ rfl; (with_reducible repeat (first | refine blk_drewN ?_ _ | refine blk_drew ?_ | refine blk_alloc ?_ _)); refine blk_put (cs := #[.int .i64 t120, .string (⟨#[]⟩ : ByteArray), .slice none 0 0]) ?_ 1 _ rfl; (with_reducible repeat (first | refine blk_drewN ?_ _ | refine blk_drew ?_ | refine blk_alloc ?_ _)); refine blk_put (cs := #[.int .i64 0, .string (⟨#[]⟩ : ByteArray), .slice none 0 0]) ?_ 0 _ rfl; (with_reducible repeat (first | refine blk_drewN ?_ _ | refine blk_drew ?_ | refine blk_alloc ?_ _)); exact BK125.out) hb); have n8_ := aa (below_step zmccdk hb); clear HO104; clear HO107; clear HO112; clear HO116; clear HO119; clear HO124; clear BK113; clear BK125; clear HB; have HO104 := n0_; have HO107 := n1_; have HO112 := n2_; have HO116 := n3_; have HO119 := n4_; have HO124 := n5_; have BK113 := n6_; have BK125 := n7_; have HB := n8_; clear n0_ n1_ n2_ n3_ n4_ n5_ n6_ n7_ n8_; (try clear hb); (try clear hb2); (try clear hk); (try clear hi)))
     (try simp only [Act.put, List.setIfInBounds_toArray, List.set_cons_zero, List.set_cons_succ])
     go_cut [] (fun wc => ∃ (kq : Nat), Aside0 (laws_FnExactDropOwned.j2 kq l0 l1 t114 t117 t108 t109 t110 t120 t121 t122 = some r) ∧ Aside0 (kq ≤ kj5) ∧ Aside0 (Kd.R k44 44 wc w.heap.size (fun k_ => some k_ ≠ ((.slice Ao24 t110.length co24) : Value).ownBlock ∧ some k_ ≠ ((.slice Ao33 t122.length co33) : Value).ownBlock) (.slice Ao27 t114.length co27) t114) ∧ Aside0 (Kd.R (Kd.int .i64) 2 wc w.heap.size (fun _ => True) (.slice Ao28 t117.length co28) t117) ∧ Aside0 (Kd.R k44 44 wc w.heap.size (fun k_ => some k_ ≠ ((.slice Ao27 t114.length co27) : Value).ownBlock ∧ some k_ ≠ ((.slice Ao33 t122.length co33) : Value).ownBlock) (.slice Ao24 t110.length co24) t110) ∧ Aside0 (Kd.R k44 44 wc w.heap.size (fun k_ => some k_ ≠ ((.slice Ao27 t114.length co27) : Value).ownBlock ∧ some k_ ≠ ((.slice Ao24 t110.length co24) : Value).ownBlock) (.slice Ao33 t122.length co33) t122) ∧ Aside0 (wc.heap[gb113]? = some (.cells #[.int .i64 t108, .string t109, (.slice Ao24 t110.length co24)] 27 (0, 0))) ∧ Aside0 (wc.heap[gb125]? = some (.cells #[.int .i64 t120, .string t121, (.slice Ao33 t122.length co33)] 27 (0, 0))) ∧ Aside0 (Below w.heap.size w wc))
     case first =>
      have H := HC16.out
      clear HC16
      by_cases c36 : t126 = true
      ·
       subst c36
       have H1 : (laws_FnExactDropOwned.j2 kj5 l0 l1 t114 t117 t108 t109 t110 t120 t121 t122) = some r := by rw [if_pos rfl] at H; exact H
       clear H
       have H := H1
       clear H1
       have H' := aa H
       clear H
       go_wp2
       go_meet
       case rel => exact ⟨_, H', ⟨by have := HJ2.out; have := HJ5.out; first | omega | exact Nat.le_refl _⟩, ⟨by (with_reducible repeat (first | apply Kd.R_alloc | apply Kd.R_drewN | apply Kd.R_drew)); exact Kd.R_mono HO116.out (fun _ hk => ⟨hk.1.2, hk.2⟩)⟩, ⟨by (with_reducible repeat (first | apply Kd.R_alloc | apply Kd.R_drewN | apply Kd.R_drew)); exact Kd.R_mono HO119.out (fun _ hk => trivial)⟩, ⟨by (with_reducible repeat (first | apply Kd.R_alloc | apply Kd.R_drewN | apply Kd.R_drew)); exact Kd.R_mono HO112.out (fun _ hk => ⟨hk.1.2, hk.2⟩)⟩, ⟨by (with_reducible repeat (first | apply Kd.R_alloc | apply Kd.R_drewN | apply Kd.R_drew)); exact Kd.R_mono HO124.out (fun _ hk => ⟨hk.2, hk.1.2⟩)⟩, ⟨by (with_reducible repeat (first | refine blk_drewN ?_ _ | refine blk_drew ?_ | refine blk_alloc ?_ _)); exact BK113.out⟩, ⟨by (with_reducible repeat (first | refine blk_drewN ?_ _ | refine blk_drew ?_ | refine blk_alloc ?_ _)); exact BK125.out⟩, ⟨by repeat (first | (with_reducible first | exact HB.out | apply below_alloc | apply pw_below_drewN | apply below_drew1 | refine below_set ?_ GE113.out | refine below_set ?_ GE125.out) | exact HB.out)⟩⟩
      ·
       replace c36 := Bool.eq_false_iff.mpr c36
       subst c36
       have H1 : (some false) = some r := by rw [if_neg (show ¬ (false = true) by decide)] at H; exact H
       clear H
       have H := H1
       clear H1
       obtain rfl := Option.some.inj H
       go_wp2
       go_ret
       exact ⟨by first | rfl | (simp [errW_none, errW_some] <;> rfl) | (simp [*, errW_none, errW_some] <;> rfl), by repeat (first | (with_reducible first | exact HB.out | apply below_alloc | apply pw_below_drewN | apply below_drew1 | refine below_set ?_ GE113.out | refine below_set ?_ GE125.out) | exact HB.out)⟩
     case rest =>
      clear HC16
      try clear c1
      try clear p2
      try clear c3
      try clear c4
      try clear c4b0
      try clear c4b1
      try clear c4b2
      try clear c5
      try clear c6
      try clear c7
      try clear c8
      try clear c8b0
      try clear c8b2
      try clear c9
      try clear c10
      try clear c31
      try clear c36
      try clear hcz23_0
      try clear hcz23_1
      try clear hcz23_2
      try clear hcz32_0
      try clear hcz32_1
      try clear hcz32_2
      try clear hcz34_0
      try clear hcz34_1
      try clear hcz34_2
      try clear hfz23_0
      try clear hfz23_1
      try clear hfz23_2
      try clear hfz32_0
      try clear hfz32_1
      try clear hfz32_2
      try clear hfz34_0
      try clear hfz34_1
      try clear hfz34_2
      try clear p2
      obtain ⟨kq, HA, HJ15, HO_7, HO_8, HO_114002, HO_126002, BK113, BK125, HB⟩ := hcut
      cases kq with
      | zero => exact absurd HA.out (by simp [laws_FnExactDropOwned.j2])
      | succ kj15 =>
       have H := HA.out
       clear HA
       simp only [laws_FnExactDropOwned.j2] at H
       replace H := Option.bind_eq_some_iff.mp H
       obtain ⟨t127, A370, H⟩ := H
       replace H : ((laws_eqZnodeS.f kj15 t114 t127).bind fun t130 => (if t130 = true then (laws_FnExactDropOwned.j3 kj15 l0 l1 t114 t117 t108 t109 t110 t120 t121 t122) else (some false))) = some r := H
       have A37 := aa A370
       clear A370
       replace H := Option.bind_eq_some_iff.mp H
       obtain ⟨t130, A380, H⟩ := H
       replace H : (if t130 = true then (laws_FnExactDropOwned.j3 kj15 l0 l1 t114 t117 t108 t109 t110 t120 t121 t122) else (some false)) = some r := H
       have A38 := aa A380
       clear A380
       have HC39 := aa H
       clear H
       go_upto_if 42 with (first | ((with_reducible refine gate_callee (f := 7) rfl ?_); refine goesL_ (some 40) rfl rfl Tryd.func7 (by kernel_rfl) rfl #[.slice A0 l0.length c0] rfl zjnmae ?_; (with_reducible refine (laws_toZnodeS.calls kj15 _ _ l0 t127 _ ?side1 ?side2 A37.out).mono ?_); (case side1 => exact zfmbgg); (case side2 => exact HC0.out); rintro e w40 ⟨v128, rfl, ho0, hb⟩; refine ⟨_, rfl, ?_⟩; have n0_ := aa (Kd.R_elder' (zcaken HO_7.out) (Kd.R_base ho0) hb); have n1_ := aa (Kd.R_below (zcaken HO_8.out) hb); have n2_ := aa (Kd.R_elder' (zcaken HO_114002.out) (Kd.R_base ho0) hb); have n3_ := aa (Kd.R_elder' (zcaken HO_126002.out) (Kd.R_base ho0) hb); have n4_ := aa (Kd.R_lower (Kd.R_new' (Kd.R_new' (Kd.R_new' ho0 (Kd.R_lt (zcaken HO_7.out))) (Kd.R_lt (zcaken HO_114002.out))) (Kd.R_lt (zcaken HO_126002.out))) (below_size zmccdk)); have n5_ := aa (blk_below (g := gb113) (o := .cells #[.int .i64 t108, .string t109, .slice Ao24 t110.length co24] 27 (0, 0)) (zkjhpm BK113.out) hb); have n6_ := aa (blk_below (g := gb125) (o := .cells #[.int .i64 t120, .string t121, .slice Ao33 t122.length co33] 27 (0, 0)) (zkjhpm BK125.out) hb); have n7_ := aa (below_step zmccdk hb); clear HO_7; clear HO_8; clear HO_114002; clear HO_126002; clear BK113; clear BK125; clear HB; have HO_7 := n0_; have HO_8 := n1_; have HO_114002 := n2_; have HO_126002 := n3_; have HO129 := n4_; have BK113 := n5_; have BK125 := n6_; have HB := n7_; clear n0_ n1_ n2_ n3_ n4_ n5_ n6_ n7_; (try clear hb); (try clear hb2); (try clear hk); (try clear hi); (try clear ho0); obtain ⟨Ao41, co41, eo41⟩ := Kd.R_slice HO129.out; subst eo41) | ((with_reducible refine gate_callee (f := 11) rfl ?_); refine goesL_ (some 41) rfl rfl Tryd.func11 (by kernel_rfl) rfl #[.slice Ao27 t114.length co27, .slice Ao41 t127.length co41] rfl zjnmae ?_; (with_reducible refine (laws_eqZnodeS.calls kj15 _ _ t114 _ _ t127 t130 _ ?side1 ?side2 ?side3 ?side4 A38.out).mono ?_); (case side1 => repeat (first | exact (Kd.R_reads' HO_7.out).2.2 | (with_reducible refine Kd.C_alloc ?_ _) | (with_reducible refine Kd.C_drewN ?_ _) | (with_reducible refine Kd.C_drew ?_))); (case side2 => exact (Kd.R_reads' HO_7.out).2.1); (case side3 => repeat (first | exact (Kd.R_reads' HO129.out).2.2 | (with_reducible refine Kd.C_alloc ?_ _) | (with_reducible refine Kd.C_drewN ?_ _) | (with_reducible refine Kd.C_drew ?_))); (case side4 => exact (Kd.R_reads' HO129.out).2.1); rintro e w42 ⟨rfl, hb⟩; refine ⟨_, rfl, ?_⟩; have n0_ := aa (Kd.R_below (zcaken HO_7.out) hb); have n1_ := aa (Kd.R_below (zcaken HO_8.out) hb); have n2_ := aa (Kd.R_below (zcaken HO_114002.out) hb); have n3_ := aa (Kd.R_below (zcaken HO_126002.out) hb); have n4_ := aa (Kd.R_below (zcaken HO129.out) hb); have n5_ := aa (blk_below (g := gb113) (o := .cells #[.int .i64 t108, .string t109, .slice Ao24 t110.length co24] 27 (0, 0)) (zkjhpm BK113.out) hb); have n6_ := aa (blk_below (g := gb125) (o := .cells #[.int .i64 t120, .string t121, .slice Ao33 t122.length co33] 27 (0, 0)) (zkjhpm BK125.out) hb); have n7_ := aa (below_step zmccdk hb); clear HO_7; clear HO_8; clear HO_114002; clear HO_126002; clear HO129; clear BK113; clear BK125; clear HB; have HO_7 := n0_; have HO_8 := n1_; have HO_114002 := n2_; have HO_126002 := n3_; have HO129 := n4_; have BK113 := n5_; have BK125 := n6_; have HB := n7_; clear n0_ n1_ n2_ n3_ n4_ n5_ n6_ n7_; (try clear hb); (try clear hb2); (try clear hk); (try clear hi)))
       (try simp only [Act.put, List.setIfInBounds_toArray, List.set_cons_zero, List.set_cons_succ])
       go_cut [] (fun wc => ∃ (kq : Nat), Aside0 (laws_FnExactDropOwned.j3 kq l0 l1 t114 t117 t108 t109 t110 t120 t121 t122 = some r) ∧ Aside0 (kq ≤ kj15) ∧ Aside0 (Kd.R k44 44 wc w.heap.size (fun k_ => some k_ ≠ ((.slice Ao24 t110.length co24) : Value).ownBlock ∧ some k_ ≠ ((.slice Ao33 t122.length co33) : Value).ownBlock) (.slice Ao27 t114.length co27) t114) ∧ Aside0 (Kd.R (Kd.int .i64) 2 wc w.heap.size (fun _ => True) (.slice Ao28 t117.length co28) t117) ∧ Aside0 (Kd.R k44 44 wc w.heap.size (fun k_ => some k_ ≠ ((.slice Ao27 t114.length co27) : Value).ownBlock ∧ some k_ ≠ ((.slice Ao33 t122.length co33) : Value).ownBlock) (.slice Ao24 t110.length co24) t110) ∧ Aside0 (Kd.R k44 44 wc w.heap.size (fun k_ => some k_ ≠ ((.slice Ao27 t114.length co27) : Value).ownBlock ∧ some k_ ≠ ((.slice Ao24 t110.length co24) : Value).ownBlock) (.slice Ao33 t122.length co33) t122) ∧ Aside0 (wc.heap[gb113]? = some (.cells #[.int .i64 t108, .string t109, (.slice Ao24 t110.length co24)] 27 (0, 0))) ∧ Aside0 (wc.heap[gb125]? = some (.cells #[.int .i64 t120, .string t121, (.slice Ao33 t122.length co33)] 27 (0, 0))) ∧ Aside0 (Below w.heap.size w wc))
       case first =>
        have H := HC39.out
        clear HC39
        by_cases c43 : t130 = true
        ·
         subst c43
         have H1 : (laws_FnExactDropOwned.j3 kj15 l0 l1 t114 t117 t108 t109 t110 t120 t121 t122) = some r := by rw [if_pos rfl] at H; exact H
         clear H
         have H := H1
         clear H1
         have H' := aa H
         clear H
         go_wp2
         go_meet
         case rel => exact ⟨_, H', ⟨by have := HJ2.out; have := HJ5.out; have := HJ15.out; first | omega | exact Nat.le_refl _⟩, ⟨by (with_reducible repeat (first | apply Kd.R_alloc | apply Kd.R_drewN | apply Kd.R_drew)); exact Kd.R_mono HO_7.out (fun _ hk => ⟨hk.1.1, hk.1.2⟩)⟩, ⟨by (with_reducible repeat (first | apply Kd.R_alloc | apply Kd.R_drewN | apply Kd.R_drew)); exact HO_8.out⟩, ⟨by (with_reducible repeat (first | apply Kd.R_alloc | apply Kd.R_drewN | apply Kd.R_drew)); exact Kd.R_mono HO_114002.out (fun _ hk => ⟨hk.1.1, hk.1.2⟩)⟩, ⟨by (with_reducible repeat (first | apply Kd.R_alloc | apply Kd.R_drewN | apply Kd.R_drew)); exact Kd.R_mono HO_126002.out (fun _ hk => ⟨hk.1.1, hk.1.2⟩)⟩, ⟨by (with_reducible repeat (first | refine blk_drewN ?_ _ | refine blk_drew ?_ | refine blk_alloc ?_ _)); exact BK113.out⟩, ⟨by (with_reducible repeat (first | refine blk_drewN ?_ _ | refine blk_drew ?_ | refine blk_alloc ?_ _)); exact BK125.out⟩, ⟨by repeat (first | (with_reducible first | exact HB.out | apply below_alloc | apply pw_below_drewN | apply below_drew1 | refine below_set ?_ GE113.out | refine below_set ?_ GE125.out) | exact HB.out)⟩⟩
        ·
         replace c43 := Bool.eq_false_iff.mpr c43
         subst c43
         have H1 : (some false) = some r := by rw [if_neg (show ¬ (false = true) by decide)] at H; exact H
         clear H
         have H := H1
         clear H1
         obtain rfl := Option.some.inj H
         go_wp2
         go_ret
         exact ⟨by first | rfl | (simp [errW_none, errW_some] <;> rfl) | (simp [*, errW_none, errW_some] <;> rfl), by repeat (first | (with_reducible first | exact HB.out | apply below_alloc | apply pw_below_drewN | apply below_drew1 | refine below_set ?_ GE113.out | refine below_set ?_ GE125.out) | exact HB.out)⟩
       case rest =>
        clear HC39
        try clear c1
        try clear p2
        try clear c3
        try clear c4
        try clear c4b0
        try clear c4b1
        try clear c4b2
        try clear c5
        try clear c6
        try clear c7
        try clear c8
        try clear c8b0
        try clear c8b2
        try clear c9
        try clear c10
        try clear c11
        try clear c31
        try clear c36
        try clear c43
        try clear hcz23_0
        try clear hcz23_1
        try clear hcz23_2
        try clear hcz32_0
        try clear hcz32_1
        try clear hcz32_2
        try clear hcz34_0
        try clear hcz34_1
        try clear hcz34_2
        try clear hfz23_0
        try clear hfz23_1
        try clear hfz23_2
        try clear hfz32_0
        try clear hfz32_1
        try clear hfz32_2
        try clear hfz34_0
        try clear hfz34_1
        try clear hfz34_2
        try clear p2
        obtain ⟨kq, HA, HJ38, HO_7, HO_8, HO_114002, HO_126002, BK113, BK125, HB⟩ := hcut
        cases kq with
        | zero => exact absurd HA.out (by simp [laws_FnExactDropOwned.j3])
        | succ kj38 =>
         have H := HA.out
         clear HA
         simp only [laws_FnExactDropOwned.j3] at H
         replace H := Option.bind_eq_some_iff.mp H
         obtain ⟨t131, A440, H⟩ := H
         replace H : ((laws_eqInt64S.f kj38 t117 t131).bind fun t134 => (if t134 = true then (laws_FnExactDropOwned.j4 kj38 l0 l1 t114 t117 t108 t109 t110 t120 t121 t122) else (some false))) = some r := H
         have A44 := aa A440
         clear A440
         replace H := Option.bind_eq_some_iff.mp H
         obtain ⟨t134, A450, H⟩ := H
         replace H : (if t134 = true then (laws_FnExactDropOwned.j4 kj38 l0 l1 t114 t117 t108 t109 t110 t120 t121 t122) else (some false)) = some r := H
         have A45 := aa A450
         clear A450
         have HC46 := aa H
         clear H
         go_upto_if 47 with (first | ((with_reducible refine gate_callee (f := 8) rfl ?_); refine goesL_ (some 45) rfl rfl Tryd.func8 (by kernel_rfl) rfl #[.slice A1 l1.length c1] rfl zjnmae ?_; (with_reducible refine (laws_toInt64S.calls kj38 _ _ l1 t131 _ ?side1 ?side2 A44.out).mono ?_); (case side1 => exact znmdka); (case side2 => exact HC1.out); rintro e w47 ⟨v132, rfl, ho0, hb⟩; refine ⟨_, rfl, ?_⟩; have n0_ := aa (Kd.R_below (zcaken HO_7.out) hb); have n1_ := aa (Kd.R_elder' (zcaken HO_8.out) (Kd.R_base ho0) hb); have n2_ := aa (Kd.R_below (zcaken HO_114002.out) hb); have n3_ := aa (Kd.R_below (zcaken HO_126002.out) hb); have n4_ := aa (Kd.R_lower (Kd.R_new' ho0 (Kd.R_lt (zcaken HO_8.out))) (below_size zmccdk)); have n5_ := aa (blk_below (g := gb113) (o := .cells #[.int .i64 t108, .string t109, .slice Ao24 t110.length co24] 27 (0, 0)) (zkjhpm BK113.out) hb); have n6_ := aa (blk_below (g := gb125) (o := .cells #[.int .i64 t120, .string t121, .slice Ao33 t122.length co33] 27 (0, 0)) (zkjhpm BK125.out) hb); have n7_ := aa (below_step zmccdk hb); clear HO_7; clear HO_8; clear HO_114002; clear HO_126002; clear BK113; clear BK125; clear HB; have HO_7 := n0_; have HO_8 := n1_; have HO_114002 := n2_; have HO_126002 := n3_; have HO133 := n4_; have BK113 := n5_; have BK125 := n6_; have HB := n7_; clear n0_ n1_ n2_ n3_ n4_ n5_ n6_ n7_; (try clear hb); (try clear hb2); (try clear hk); (try clear hi); (try clear ho0); obtain ⟨Ao48, co48, eo48⟩ := Kd.R_slice HO133.out; subst eo48) | ((with_reducible refine gate_callee (f := 12) rfl ?_); refine goesL_ (some 46) rfl rfl Tryd.func12 (by kernel_rfl) rfl #[.slice Ao28 t117.length co28, .slice Ao48 t131.length co48] rfl zjnmae ?_; (with_reducible refine (laws_eqInt64S.calls kj38 _ _ t117 _ _ t131 t134 _ ?side1 ?side2 ?side3 ?side4 A45.out).mono ?_); (case side1 => repeat (first | exact (Kd.R_reads' HO_8.out).2.2 | (with_reducible refine Kd.C_alloc ?_ _) | (with_reducible refine Kd.C_drewN ?_ _) | (with_reducible refine Kd.C_drew ?_))); (case side2 => exact (Kd.R_reads' HO_8.out).2.1); (case side3 => repeat (first | exact (Kd.R_reads' HO133.out).2.2 | (with_reducible refine Kd.C_alloc ?_ _) | (with_reducible refine Kd.C_drewN ?_ _) | (with_reducible refine Kd.C_drew ?_))); (case side4 => exact (Kd.R_reads' HO133.out).2.1); rintro e w' ⟨rfl, ⟨nd, rfl⟩⟩; refine ⟨_, rfl, ?_⟩))
         (try simp only [Act.put, List.setIfInBounds_toArray, List.set_cons_zero, List.set_cons_succ])
         go_cut [] (fun wc => ∃ (kq : Nat), Aside0 (laws_FnExactDropOwned.j4 kq l0 l1 t114 t117 t108 t109 t110 t120 t121 t122 = some r) ∧ Aside0 (kq ≤ kj38) ∧ Aside0 (Kd.R k44 44 wc w.heap.size (fun k_ => some k_ ≠ ((.slice Ao24 t110.length co24) : Value).ownBlock ∧ some k_ ≠ ((.slice Ao33 t122.length co33) : Value).ownBlock) (.slice Ao27 t114.length co27) t114) ∧ Aside0 (Kd.R (Kd.int .i64) 2 wc w.heap.size (fun _ => True) (.slice Ao28 t117.length co28) t117) ∧ Aside0 (Kd.R k44 44 wc w.heap.size (fun k_ => some k_ ≠ ((.slice Ao27 t114.length co27) : Value).ownBlock ∧ some k_ ≠ ((.slice Ao33 t122.length co33) : Value).ownBlock) (.slice Ao24 t110.length co24) t110) ∧ Aside0 (Kd.R k44 44 wc w.heap.size (fun k_ => some k_ ≠ ((.slice Ao27 t114.length co27) : Value).ownBlock ∧ some k_ ≠ ((.slice Ao24 t110.length co24) : Value).ownBlock) (.slice Ao33 t122.length co33) t122) ∧ Aside0 (wc.heap[gb113]? = some (.cells #[.int .i64 t108, .string t109, (.slice Ao24 t110.length co24)] 27 (0, 0))) ∧ Aside0 (wc.heap[gb125]? = some (.cells #[.int .i64 t120, .string t121, (.slice Ao33 t122.length co33)] 27 (0, 0))) ∧ Aside0 (Below w.heap.size w wc))
         case first =>
          have H := HC46.out
          clear HC46
          by_cases c49 : t134 = true
          ·
           subst c49
           have H1 : (laws_FnExactDropOwned.j4 kj38 l0 l1 t114 t117 t108 t109 t110 t120 t121 t122) = some r := by rw [if_pos rfl] at H; exact H
           clear H
           have H := H1
           clear H1
           have H' := aa H
           clear H
           go_wp2
           go_meet
           case rel => exact ⟨_, H', ⟨by have := HJ2.out; have := HJ5.out; have := HJ15.out; have := HJ38.out; first | omega | exact Nat.le_refl _⟩, ⟨by (with_reducible repeat (first | apply Kd.R_alloc | apply Kd.R_drewN | apply Kd.R_drew)); exact HO_7.out⟩, ⟨by (with_reducible repeat (first | apply Kd.R_alloc | apply Kd.R_drewN | apply Kd.R_drew)); exact Kd.R_mono HO_8.out (fun _ hk => trivial)⟩, ⟨by (with_reducible repeat (first | apply Kd.R_alloc | apply Kd.R_drewN | apply Kd.R_drew)); exact HO_114002.out⟩, ⟨by (with_reducible repeat (first | apply Kd.R_alloc | apply Kd.R_drewN | apply Kd.R_drew)); exact HO_126002.out⟩, ⟨by (with_reducible repeat (first | refine blk_drewN ?_ _ | refine blk_drew ?_ | refine blk_alloc ?_ _)); exact BK113.out⟩, ⟨by (with_reducible repeat (first | refine blk_drewN ?_ _ | refine blk_drew ?_ | refine blk_alloc ?_ _)); exact BK125.out⟩, ⟨by repeat (first | (with_reducible first | exact HB.out | apply below_alloc | apply pw_below_drewN | apply below_drew1 | refine below_set ?_ GE113.out | refine below_set ?_ GE125.out) | exact HB.out)⟩⟩
          ·
           replace c49 := Bool.eq_false_iff.mpr c49
           subst c49
           have H1 : (some false) = some r := by rw [if_neg (show ¬ (false = true) by decide)] at H; exact H
           clear H
           have H := H1
           clear H1
           obtain rfl := Option.some.inj H
           go_wp2
           go_ret
           exact ⟨by first | rfl | (simp [errW_none, errW_some] <;> rfl) | (simp [*, errW_none, errW_some] <;> rfl), by repeat (first | (with_reducible first | exact HB.out | apply below_alloc | apply pw_below_drewN | apply below_drew1 | refine below_set ?_ GE113.out | refine below_set ?_ GE125.out) | exact HB.out)⟩
         case rest =>
          clear HC46
          try clear c1
          try clear p2
          try clear c3
          try clear c4
          try clear c4b0
          try clear c4b1
          try clear c4b2
          try clear c5
          try clear c6
          try clear c7
          try clear c8
          try clear c8b0
          try clear c8b2
          try clear c9
          try clear c10
          try clear c11
          try clear c12
          try clear c31
          try clear c36
          try clear c43
          try clear c49
          try clear hcz23_0
          try clear hcz23_1
          try clear hcz23_2
          try clear hcz32_0
          try clear hcz32_1
          try clear hcz32_2
          try clear hcz34_0
          try clear hcz34_1
          try clear hcz34_2
          try clear hfz23_0
          try clear hfz23_1
          try clear hfz23_2
          try clear hfz32_0
          try clear hfz32_1
          try clear hfz32_2
          try clear hfz34_0
          try clear hfz34_1
          try clear hfz34_2
          try clear p2
          obtain ⟨kq, HA, HJ45, HO_7, HO_8, HO_114002, HO_126002, BK113, BK125, HB⟩ := hcut
          cases kq with
          | zero => exact absurd HA.out (by simp [laws_FnExactDropOwned.j4])
          | succ kj45 =>
           have H := HA.out
           clear HA
           simp only [laws_FnExactDropOwned.j4] at H
           replace H := Option.bind_eq_some_iff.mp H
           obtain ⟨⟨t135, t136⟩, A500, H⟩ := H
           replace H : ((laws_markInt64S.f kj45 t117 t135).bind fun bt137 => (if bt137.1 < 0 then (laws_FnExactDropOwned.j5 kj45 l0 l1 true t108 t109 t110 t120 t121 t122) else ((laws_eqZResult.f kj45 t120 t121 t122 t108 t109 t110).bind fun t139 => (laws_FnExactDropOwned.j5 kj45 l0 l1 (!t139) t108 t109 t110 t120 t121 t122)))) = some r := H
           have A50 := aa A500
           clear A500
           replace H := Option.bind_eq_some_iff.mp H
           obtain ⟨⟨t137, t138⟩, A510, H⟩ := H
           replace H : (if t137 < 0 then (laws_FnExactDropOwned.j5 kj45 l0 l1 true t108 t109 t110 t120 t121 t122) else ((laws_eqZResult.f kj45 t120 t121 t122 t108 t109 t110).bind fun t139 => (laws_FnExactDropOwned.j5 kj45 l0 l1 (!t139) t108 t109 t110 t120 t121 t122))) = some r := H
           have A51 := aa A510
           clear A510
           have HC52 := aa H
           clear H
           go_upto_region 20 with (first | ((with_reducible refine gate_callee (f := 13) rfl ?_); refine goesL_ (some 50) rfl rfl Tryd.func13 (by kernel_rfl) rfl #[.slice Ao27 t114.length co27, .int .i64 1] rfl zjnmae ?_; (with_reducible refine (laws_markZnodeS.calls kj45 (fun k_ => some k_ = (.slice Ao27 t114.length co27 : Value).ownBlock) (.slice Ao27 t114.length co27) t114 1 t135 t136 w _ ?side1 ?side2 A50.out).mono ?_); (case side1 => exact zmccdk); (case side2 => exact Kd.R_tight rfl HO_7.out); rintro e w53 ⟨rfl, hy0, hb, hkp⟩; refine ⟨_, rfl, ?_⟩; have n0_ := aa (Kd.R_reok rfl hy0 (fun k_ e_ => HO_7.out.1 k_ e_)); have n1_ := aa (Kd.R_mono (ok' := fun k_ => True) (Kd.R_keptB ((Kd.R_apart' HO_8.out (Kd.R_typed HO_7.out) (by decide))) hkp (fun k_ hk_ hs_ => (hk_.2) hs_)) (fun k_ hk_ => trivial)); have n2_ := aa (Kd.R_mono (ok' := fun k_ => some k_ ≠ (.slice Ao27 t114.length co27 : Value).ownBlock ∧ some k_ ≠ (.slice Ao33 t122.length co33 : Value).ownBlock) (Kd.R_keptB (HO_114002.out) hkp (fun k_ hk_ hs_ => (hk_.1) hs_)) (fun k_ hk_ => ⟨hk_.1.1, hk_.1.2⟩)); have n3_ := aa (Kd.R_mono (ok' := fun k_ => some k_ ≠ (.slice Ao27 t114.length co27 : Value).ownBlock ∧ some k_ ≠ (.slice Ao24 t110.length co24 : Value).ownBlock) (Kd.R_keptB (HO_126002.out) hkp (fun k_ hk_ hs_ => (hk_.1) hs_)) (fun k_ hk_ => ⟨hk_.1.1, hk_.1.2⟩)); have n4_ := aa (blk_kept (zkjhpm BK113.out) hkp (fun hs_ => (fun e_ => (Kd.R_ne HO_7.out BK113.out (by decide)) e_) hs_)); have n5_ := aa (blk_kept (zkjhpm BK125.out) hkp (fun hs_ => (fun e_ => (Kd.R_ne HO_7.out BK125.out (by decide)) e_) hs_)); have n6_ := aa (hb); clear HO_7; clear HO_8; clear HO_114002; clear HO_126002; clear BK113; clear BK125; clear HB; have HO_7 := n0_; have HO_8 := n1_; have HO_114002 := n2_; have HO_126002 := n3_; have BK113 := n4_; have BK125 := n5_; have HB := n6_; clear n0_ n1_ n2_ n3_ n4_ n5_ n6_; (try clear hb); (try clear hkp); (try clear hy0)) | ((with_reducible refine gate_callee (f := 14) rfl ?_); refine goesL_ (some 53) rfl rfl Tryd.func14 (by kernel_rfl) rfl #[.slice Ao28 t117.length co28, .int .i64 t135] rfl zjnmae ?_; (with_reducible refine (laws_markInt64S.calls kj45 (fun k_ => some k_ = (.slice Ao28 t117.length co28 : Value).ownBlock) (.slice Ao28 t117.length co28) t117 t135 t137 t138 w _ ?side1 ?side2 A51.out).mono ?_); (case side1 => exact zmccdk); (case side2 => exact Kd.R_tight rfl HO_8.out); rintro e w54 ⟨rfl, hy0, hb, hkp⟩; refine ⟨_, rfl, ?_⟩; have n0_ := aa (Kd.R_mono (ok' := fun k_ => some k_ ≠ (.slice Ao24 t110.length co24 : Value).ownBlock ∧ some k_ ≠ (.slice Ao33 t122.length co33 : Value).ownBlock) (Kd.R_keptB ((Kd.R_apart' HO_7.out (Kd.R_typed HO_8.out) (by decide))) hkp (fun k_ hk_ hs_ => (hk_.2) hs_)) (fun k_ hk_ => ⟨hk_.1.1.1, hk_.1.1.2⟩)); have n1_ := aa (Kd.R_reok rfl hy0 (fun k_ e_ => HO_8.out.1 k_ e_)); have n2_ := aa (Kd.R_mono (ok' := fun k_ => some k_ ≠ (.slice Ao27 t114.length co27 : Value).ownBlock ∧ some k_ ≠ (.slice Ao33 t122.length co33 : Value).ownBlock) (Kd.R_keptB ((Kd.R_apart' HO_114002.out (Kd.R_typed HO_8.out) (by decide))) hkp (fun k_ hk_ hs_ => (hk_.2) hs_)) (fun k_ hk_ => ⟨hk_.1.1.1, hk_.1.1.2⟩)); have n3_ := aa (Kd.R_mono (ok' := fun k_ => some k_ ≠ (.slice Ao27 t114.length co27 : Value).ownBlock ∧ some k_ ≠ (.slice Ao24 t110.length co24 : Value).ownBlock) (Kd.R_keptB ((Kd.R_apart' HO_126002.out (Kd.R_typed HO_8.out) (by decide))) hkp (fun k_ hk_ hs_ => (hk_.2) hs_)) (fun k_ hk_ => ⟨hk_.1.1.1, hk_.1.1.2⟩)); have n4_ := aa (blk_kept (zkjhpm BK113.out) hkp (fun hs_ => (fun e_ => (Kd.R_ne HO_8.out BK113.out (by decide)) e_) hs_)); have n5_ := aa (blk_kept (zkjhpm BK125.out) hkp (fun hs_ => (fun e_ => (Kd.R_ne HO_8.out BK125.out (by decide)) e_) hs_)); have n6_ := aa (hb); clear HO_7; clear HO_8; clear HO_114002; clear HO_126002; clear BK113; clear BK125; clear HB; have HO_7 := n0_; have HO_8 := n1_; have HO_114002 := n2_; have HO_126002 := n3_; have BK113 := n4_; have BK125 := n5_; have HB := n6_; clear n0_ n1_ n2_ n3_ n4_ n5_ n6_; (try clear hb); (try clear hkp); (try clear hy0)))
           (try simp only [Act.put, List.setIfInBounds_toArray, List.set_cons_zero, List.set_cons_succ])
           go_cut [61] (fun v61 wc => ∃ (kq : Nat) (x61_51 : Bool), v61 = .bool x61_51 ∧ Aside0 (laws_FnExactDropOwned.j5 kq l0 l1 x61_51 t108 t109 t110 t120 t121 t122 = some r) ∧ Aside0 (kq ≤ kj45) ∧ Aside0 (Kd.R k44 44 wc w.heap.size (fun k_ => some k_ ≠ ((.slice Ao33 t122.length co33) : Value).ownBlock) (.slice Ao24 t110.length co24) t110) ∧ Aside0 (Kd.R k44 44 wc w.heap.size (fun k_ => some k_ ≠ ((.slice Ao24 t110.length co24) : Value).ownBlock) (.slice Ao33 t122.length co33) t122) ∧ Aside0 (wc.heap[gb113]? = some (.cells #[.int .i64 t108, .string t109, (.slice Ao24 t110.length co24)] 27 (0, 0))) ∧ Aside0 (wc.heap[gb125]? = some (.cells #[.int .i64 t120, .string t121, (.slice Ao33 t122.length co33)] 27 (0, 0))) ∧ Aside0 (Below w.heap.size w wc))
           case first =>
            have H := HC52.out
            clear HC52
            by_cases c55 : t137 < 0
            ·
             rw [if_pos c55] at H
             have c55b0 : decide (t137 < 0) = true := decide_eq_true c55
             clear c55
             (first | rw [c55b0] | (simp only [i64_w, i32_w]; rw [c55b0]) | (simp only [c55b2, Bool.not_false, Bool.not_true]) | skip)
             have H' := aa H
             clear H
             go_wp2
             go_meet
             case rel => exact ⟨_, (true), zagbkp, H', ⟨by have := HJ2.out; have := HJ5.out; have := HJ15.out; have := HJ38.out; have := HJ45.out; first | omega | exact Nat.le_refl _⟩, ⟨by (with_reducible repeat (first | apply Kd.R_alloc | apply Kd.R_drewN | apply Kd.R_drew)); exact Kd.R_mono HO_114002.out (fun _ hk => hk.2)⟩, ⟨by (with_reducible repeat (first | apply Kd.R_alloc | apply Kd.R_drewN | apply Kd.R_drew)); exact Kd.R_mono HO_126002.out (fun _ hk => hk.2)⟩, ⟨by (with_reducible repeat (first | refine blk_drewN ?_ _ | refine blk_drew ?_ | refine blk_alloc ?_ _)); exact BK113.out⟩, ⟨by (with_reducible repeat (first | refine blk_drewN ?_ _ | refine blk_drew ?_ | refine blk_alloc ?_ _)); exact BK125.out⟩, ⟨by repeat (first | (with_reducible first | exact HB.out | apply below_alloc | apply pw_below_drewN | apply below_drew1 | refine below_set ?_ GE113.out | refine below_set ?_ GE125.out) | exact HB.out)⟩⟩
            ·
             rw [if_neg c55] at H
             have c55b0 : decide (t137 < 0) = false := decide_eq_false c55
             clear c55
             (first | rw [c55b0] | (simp only [i64_w, i32_w]; rw [c55b0]) | (simp only [c55b2, Bool.not_false, Bool.not_true]) | skip)
             replace H := Option.bind_eq_some_iff.mp H
             obtain ⟨t139, A560, H⟩ := H
             replace H : (laws_FnExactDropOwned.j5 kj45 l0 l1 (!t139) t108 t109 t110 t120 t121 t122) = some r := H
             have A56 := aa A560
             clear A560
             have H' := aa H
             clear H
             have hnb57 := NB125_113.out
             have hnc57 := NB113_125.out
             have hcz58_0 : w54.cell? ⟨gb125, 0, none⟩ = some (.int .i64 t120) := (blk_cell BK125.out 0).trans rfl
             have hcz58_1 : w54.cell? ⟨gb125, 1, none⟩ = some (.string t121) := (blk_cell BK125.out 1).trans rfl
             have hcz58_2 : w54.cell? ⟨gb125, 2, none⟩ = some (.slice Ao33 t122.length co33) := (blk_cell BK125.out 2).trans rfl
             have hfz58_0 := blk_frozen BK125.out 0
             have hfz58_1 := blk_frozen BK125.out 1
             have hfz58_2 := blk_frozen BK125.out 2
             have hcz59_0 : w54.cell? ⟨gb113, 0, none⟩ = some (.int .i64 t108) := (blk_cell BK113.out 0).trans rfl
             have hcz59_1 : w54.cell? ⟨gb113, 1, none⟩ = some (.string t109) := (blk_cell BK113.out 1).trans rfl
             have hcz59_2 : w54.cell? ⟨gb113, 2, none⟩ = some (.slice Ao24 t110.length co24) := (blk_cell BK113.out 2).trans rfl
             have hfz59_0 := blk_frozen BK113.out 0
             have hfz59_1 := blk_frozen BK113.out 1
             have hfz59_2 := blk_frozen BK113.out 2
             go_wp2_with (first | (go_at_call 10; (with_reducible refine (laws_eqZResult.calls kj45 t120 t121 _ _ t122 t108 t109 _ _ t110 t139 _ ?side1 ?side2 ?side3 ?side4 A56.out).mono ?_); (case side1 => exact zpmfmp); (case side2 => exact zgienl); (case side3 => exact zficko); (case side4 => exact znoaai); rintro e w60 ⟨rfl, hb⟩; have n0_ := aa (Kd.R_below (zcaken HO_7.out) hb); have n1_ := aa (Kd.R_below (zcaken HO_8.out) hb); have n2_ := aa (Kd.R_below (zcaken HO_114002.out) hb); have n3_ := aa (Kd.R_below (zcaken HO_126002.out) hb); have n4_ := aa (blk_below (g := gb113) (o := .cells #[.int .i64 t108, .string t109, .slice Ao24 t110.length co24] 27 (0, 0)) (zkjhpm BK113.out) hb); have n5_ := aa (blk_below (g := gb125) (o := .cells #[.int .i64 t120, .string t121, .slice Ao33 t122.length co33] 27 (0, 0)) (zkjhpm BK125.out) hb); have n6_ := aa (below_step zmccdk hb); clear HO_7; clear HO_8; clear HO_114002; clear HO_126002; clear BK113; clear BK125; clear HB; have HO_7 := n0_; have HO_8 := n1_; have HO_114002 := n2_; have HO_126002 := n3_; have BK113 := n4_; have BK125 := n5_; have HB := n6_; clear n0_ n1_ n2_ n3_ n4_ n5_ n6_; (try clear hb); (try clear hb2); (try clear hk); (try clear hi)))
             go_meet
             case rel => exact ⟨_, (!t139), zagbkp, H', ⟨by have := HJ2.out; have := HJ5.out; have := HJ15.out; have := HJ38.out; have := HJ45.out; first | omega | exact Nat.le_refl _⟩, ⟨by (with_reducible repeat (first | apply Kd.R_alloc | apply Kd.R_drewN | apply Kd.R_drew)); exact Kd.R_mono HO_114002.out (fun _ hk => hk.2)⟩, ⟨by (with_reducible repeat (first | apply Kd.R_alloc | apply Kd.R_drewN | apply Kd.R_drew)); exact Kd.R_mono HO_126002.out (fun _ hk => hk.2)⟩, ⟨by (with_reducible repeat (first | refine blk_drewN ?_ _ | refine blk_drew ?_ | refine blk_alloc ?_ _)); exact BK113.out⟩, ⟨by (with_reducible repeat (first | refine blk_drewN ?_ _ | refine blk_drew ?_ | refine blk_alloc ?_ _)); exact BK125.out⟩, ⟨by repeat (first | (with_reducible first | exact HB.out | apply below_alloc | apply pw_below_drewN | apply below_drew1 | refine below_set ?_ GE113.out | refine below_set ?_ GE125.out) | exact HB.out)⟩⟩
           case rest =>
            clear HC52
            try clear c1
            try clear p2
            try clear c3
            try clear c4
            try clear c4b0
            try clear c4b1
            try clear c4b2
            try clear c5
            try clear c6
            try clear c7
            try clear c8
            try clear c8b0
            try clear c8b2
            try clear c9
            try clear c10
            try clear c11
            try clear c12
            try clear c13
            try clear c14
            try clear c31
            try clear c36
            try clear c43
            try clear c49
            try clear c55
            try clear c55b0
            try clear c55b2
            try clear c57
            try clear hcz23_0
            try clear hcz23_1
            try clear hcz23_2
            try clear hcz32_0
            try clear hcz32_1
            try clear hcz32_2
            try clear hcz34_0
            try clear hcz34_1
            try clear hcz34_2
            try clear hcz58_0
            try clear hcz58_1
            try clear hcz58_2
            try clear hcz59_0
            try clear hcz59_1
            try clear hcz59_2
            try clear hfz23_0
            try clear hfz23_1
            try clear hfz23_2
            try clear hfz32_0
            try clear hfz32_1
            try clear hfz32_2
            try clear hfz34_0
            try clear hfz34_1
            try clear hfz34_2
            try clear hfz58_0
            try clear hfz58_1
            try clear hfz58_2
            try clear hfz59_0
            try clear hfz59_1
            try clear hfz59_2
            try clear p2
            obtain ⟨kq, x61_51, rfl, HA, HJ51, HO_114002, HO_126002, BK113, BK125, HB⟩ := hcut
            cases kq with
            | zero => exact absurd HA.out (by simp [laws_FnExactDropOwned.j5])
            | succ kj51 =>
             have H := HA.out
             clear HA
             simp only [laws_FnExactDropOwned.j5] at H
             have HC61 := aa H
             clear H
             go_upto_if 61 with (fail)
             go_cut [] (fun wc => ∃ (kq : Nat), Aside0 (laws_FnExactDropOwned.j6 kq l0 l1 t108 t109 t110 t120 t121 t122 = some r) ∧ Aside0 (kq ≤ kj51) ∧ Aside0 (Kd.R k44 44 wc w.heap.size (fun k_ => some k_ ≠ ((.slice Ao33 t122.length co33) : Value).ownBlock) (.slice Ao24 t110.length co24) t110) ∧ Aside0 (Kd.R k44 44 wc w.heap.size (fun k_ => some k_ ≠ ((.slice Ao24 t110.length co24) : Value).ownBlock) (.slice Ao33 t122.length co33) t122) ∧ Aside0 (wc.heap[gb113]? = some (.cells #[.int .i64 t108, .string t109, (.slice Ao24 t110.length co24)] 27 (0, 0))) ∧ Aside0 (wc.heap[gb125]? = some (.cells #[.int .i64 t120, .string t121, (.slice Ao33 t122.length co33)] 27 (0, 0))) ∧ Aside0 (Below w.heap.size w wc))
             case first =>
              have H := HC61.out
              clear HC61
              by_cases c62 : x61_51 = true
              ·
               subst c62
               have H1 : (some false) = some r := by rw [if_pos rfl] at H; exact H
               clear H
               have H := H1
               clear H1
               obtain rfl := Option.some.inj H
               go_wp2
               go_ret
               exact ⟨by first | rfl | (simp [errW_none, errW_some] <;> rfl) | (simp [*, errW_none, errW_some] <;> rfl), by repeat (first | (with_reducible first | exact HB.out | apply below_alloc | apply pw_below_drewN | apply below_drew1 | refine below_set ?_ GE113.out | refine below_set ?_ GE125.out) | exact HB.out)⟩
              ·
               replace c62 := Bool.eq_false_iff.mpr c62
               subst c62
               have H1 : (laws_FnExactDropOwned.j6 kj51 l0 l1 t108 t109 t110 t120 t121 t122) = some r := by rw [if_neg (show ¬ (false = true) by decide)] at H; exact H
               clear H
               have H := H1
               clear H1
               have H' := aa H
               clear H
               go_wp2
               go_meet
               case rel => exact ⟨_, H', ⟨by have := HJ2.out; have := HJ5.out; have := HJ15.out; have := HJ38.out; have := HJ45.out; have := HJ51.out; first | omega | exact Nat.le_refl _⟩, ⟨by (with_reducible repeat (first | apply Kd.R_alloc | apply Kd.R_drewN | apply Kd.R_drew)); exact HO_114002.out⟩, ⟨by (with_reducible repeat (first | apply Kd.R_alloc | apply Kd.R_drewN | apply Kd.R_drew)); exact HO_126002.out⟩, ⟨by (with_reducible repeat (first | refine blk_drewN ?_ _ | refine blk_drew ?_ | refine blk_alloc ?_ _)); exact BK113.out⟩, ⟨by (with_reducible repeat (first | refine blk_drewN ?_ _ | refine blk_drew ?_ | refine blk_alloc ?_ _)); exact BK125.out⟩, ⟨by repeat (first | (with_reducible first | exact HB.out | apply below_alloc | apply pw_below_drewN | apply below_drew1 | refine below_set ?_ GE113.out | refine below_set ?_ GE125.out) | exact HB.out)⟩⟩
             case rest =>
              clear HC61
              try clear c1
              try clear p2
              try clear c3
              try clear c4
              try clear c4b0
              try clear c4b1
              try clear c4b2
              try clear c5
              try clear c6
              try clear c7
              try clear c8
              try clear c8b0
              try clear c8b2
              try clear c9
              try clear c10
              try clear c11
              try clear c12
              try clear c13
              try clear c14
              try clear c31
              try clear c36
              try clear c43
              try clear c49
              try clear c55
              try clear c55b0
              try clear c55b2
              try clear c57
              try clear c62
              try clear hcz23_0
              try clear hcz23_1
              try clear hcz23_2
              try clear hcz32_0
              try clear hcz32_1
              try clear hcz32_2
              try clear hcz34_0
              try clear hcz34_1
              try clear hcz34_2
              try clear hcz58_0
              try clear hcz58_1
              try clear hcz58_2
              try clear hcz59_0
              try clear hcz59_1
              try clear hcz59_2
              try clear hfz23_0
              try clear hfz23_1
              try clear hfz23_2
              try clear hfz32_0
              try clear hfz32_1
              try clear hfz32_2
              try clear hfz34_0
              try clear hfz34_1
              try clear hfz34_2
              try clear hfz58_0
              try clear hfz58_1
              try clear hfz58_2
              try clear hfz59_0
              try clear hfz59_1
              try clear hfz59_2
              try clear p2
              obtain ⟨kq, HA, HJ60, HO_114002, HO_126002, BK113, BK125, HB⟩ := hcut
              cases kq with
              | zero => exact absurd HA.out (by simp [laws_FnExactDropOwned.j6])
              | succ kj60 =>
               have H := HA.out
               clear HA
               simp only [laws_FnExactDropOwned.j6] at H
               replace H := Option.bind_eq_some_iff.mp H
               obtain ⟨⟨t140, t141⟩, A630, H⟩ := H
               replace H : ((laws_heldZResult.f kj60 t120 t121 t141 1).bind fun t142 => (if t142 < 0 then (some false) else (laws_FnExactDropOwned.j7 kj60 l0 l1 t140 t142 t108 t109 t110 t120 t121 t141))) = some r := H
               have A63 := aa A630
               clear A630
               replace H := Option.bind_eq_some_iff.mp H
               obtain ⟨t142, A640, H⟩ := H
               replace H : (if t142 < 0 then (some false) else (laws_FnExactDropOwned.j7 kj60 l0 l1 t140 t142 t108 t109 t110 t120 t121 t141)) = some r := H
               have A64 := aa A640
               clear A640
               have HC65 := aa H
               clear H
               have hnb66 := NB125_113.out
               have hnc66 := NB113_125.out
               have hcz67_0 : wc.cell? ⟨gb125, 0, none⟩ = some (.int .i64 t120) := (blk_cell BK125.out 0).trans rfl
               have hcz67_1 : wc.cell? ⟨gb125, 1, none⟩ = some (.string t121) := (blk_cell BK125.out 1).trans rfl
               have hcz67_2 : wc.cell? ⟨gb125, 2, none⟩ = some (.slice Ao33 t122.length co33) := (blk_cell BK125.out 2).trans rfl
               have hfz67_0 := blk_frozen BK125.out 0
               have hfz67_1 := blk_frozen BK125.out 1
               have hfz67_2 := blk_frozen BK125.out 2
               go_upto_if 69 with (first | ((with_reducible refine gate_callee (f := 15) rfl ?_); refine goesL_ (some 64) rfl rfl Tryd.func15 (by kernel_rfl) rfl #[.agg #[.int .i64 t120, .string t121, .slice Ao33 t122.length co33], .int .i64 1] rfl zjnmae ?_; (with_reducible refine (laws_markZResult.calls kj60 t120 t121 (fun k_ => some k_ = (.slice Ao33 t122.length co33 : Value).ownBlock) (.slice Ao33 t122.length co33) t122 1 t140 t141 w _ ?side1 ?side2 A63.out).mono ?_); (case side1 => exact zmccdk); (case side2 => exact Kd.R_tight rfl HO_126002.out); rintro e w68 ⟨rfl, hy0, hb, hkp⟩; refine ⟨_, rfl, ?_⟩; have n0_ := aa (Kd.R_mono (ok' := fun k_ => some k_ ≠ (.slice Ao33 t122.length co33 : Value).ownBlock) (Kd.R_keptB (HO_114002.out) hkp (fun k_ hk_ hs_ => (hk_) hs_)) (fun k_ hk_ => hk_.1)); have n1_ := aa (Kd.R_reok rfl hy0 (fun k_ e_ => HO_126002.out.1 k_ e_)); have n2_ := aa (blk_kept (zkjhpm BK113.out) hkp (fun hs_ => (fun e_ => (Kd.R_ne HO_126002.out BK113.out (by decide)) e_) hs_)); have n3_ := aa (blk_kept (zkjhpm BK125.out) hkp (fun hs_ => (fun e_ => (Kd.R_ne HO_126002.out BK125.out (by decide)) e_) hs_)); have n4_ := aa (hb); clear HO_114002; clear HO_126002; clear BK113; clear BK125; clear HB; have HO_114002 := n0_; have HO_126002 := n1_; have BK113 := n2_; have BK125 := n3_; have HB := n4_; clear n0_ n1_ n2_ n3_ n4_; (try clear hb); (try clear hkp); (try clear hy0); have hcz69_0 : w68.cell? ⟨gb125, 0, none⟩ = some (.int .i64 t120) := (blk_cell BK125.out 0).trans rfl; have hcz69_1 : w68.cell? ⟨gb125, 1, none⟩ = some (.string t121) := (blk_cell BK125.out 1).trans rfl; have hcz69_2 : w68.cell? ⟨gb125, 2, none⟩ = some (.slice Ao33 t122.length co33) := (blk_cell BK125.out 2).trans rfl; have hfz69_0 := blk_frozen BK125.out 0; have hfz69_1 := blk_frozen BK125.out 1; have hfz69_2 := blk_frozen BK125.out 2) | ((with_reducible refine gate_callee (f := 16) rfl ?_); refine goesL_ (some 67) rfl rfl Tryd.func16 (by kernel_rfl) rfl #[.agg #[.int .i64 t120, .string t121, .slice Ao33 t141.length co33], .int .i64 1] rfl (by (try simp only [List.map_toArray, List.map_cons, List.map_nil]); first | done | (rw [show t141.length = t122.length from (Kd.R_reads' HO_126002.out).1.symm] <;> rfl) | rfl | (simp only [List.length_drop, List.length_take]; rfl)) ?_; (with_reducible refine (laws_heldZResult.calls kj60 t120 t121 _ _ t141 1 t142 _ ?side1 ?side2 A64.out).mono ?_); (case side1 => exact zpmfmp); (case side2 => rw [show t141.length = t122.length from (Kd.R_reads' HO_126002.out).1.symm]; exact (Kd.R_reads' HO_126002.out).2.1); rintro e w70 ⟨rfl, hb⟩; refine ⟨_, rfl, ?_⟩; have n0_ := aa (Kd.R_below (zcaken HO_114002.out) hb); have n1_ := aa (Kd.R_below (zcaken HO_126002.out) hb); have n2_ := aa (blk_below (g := gb113) (o := .cells #[.int .i64 t108, .string t109, .slice Ao24 t110.length co24] 27 (0, 0)) (zkjhpm BK113.out) hb); have n3_ := aa (blk_below (g := gb125) (o := .cells #[.int .i64 t120, .string t121, .slice Ao33 t122.length co33] 27 (0, 0)) (zkjhpm BK125.out) hb); have n4_ := aa (below_step zmccdk hb); clear HO_114002; clear HO_126002; clear BK113; clear BK125; clear HB; have HO_114002 := n0_; have HO_126002 := n1_; have BK113 := n2_; have BK125 := n3_; have HB := n4_; clear n0_ n1_ n2_ n3_ n4_; (try clear hb); (try clear hb2); (try clear hk); (try clear hi)))
               (try simp only [Act.put, List.setIfInBounds_toArray, List.set_cons_zero, List.set_cons_succ])
               go_cut [] (fun wc => ∃ (kq : Nat), Aside0 (laws_FnExactDropOwned.j7 kq l0 l1 t140 t142 t108 t109 t110 t120 t121 t141 = some r) ∧ Aside0 (kq ≤ kj60) ∧ Aside0 (Kd.R k44 44 wc w.heap.size (fun k_ => some k_ ≠ ((.slice Ao33 t122.length co33) : Value).ownBlock) (.slice Ao24 t110.length co24) t110) ∧ Aside0 (Kd.R k44 44 wc w.heap.size (fun k_ => some k_ ≠ ((.slice Ao24 t110.length co24) : Value).ownBlock) (.slice Ao33 t122.length co33) t141) ∧ Aside0 (wc.heap[gb113]? = some (.cells #[.int .i64 t108, .string t109, (.slice Ao24 t110.length co24)] 27 (0, 0))) ∧ Aside0 (wc.heap[gb125]? = some (.cells #[.int .i64 t120, .string t121, (.slice Ao33 t122.length co33)] 27 (0, 0))) ∧ Aside0 (Below w.heap.size w wc))
               case first =>
                have H := HC65.out
                clear HC65
                by_cases c71 : t142 < 0
                ·
                 rw [if_pos c71] at H
                 have c71b0 : decide (t142 < 0) = true := decide_eq_true c71
                 clear c71
                 (first | rw [c71b0] | (simp only [i64_w, i32_w]; rw [c71b0]) | (simp only [c71b2, Bool.not_false, Bool.not_true]) | skip)
                 obtain rfl := Option.some.inj H
                 go_wp2
                 go_ret
                 exact ⟨by first | rfl | (simp [errW_none, errW_some] <;> rfl) | (simp [*, errW_none, errW_some] <;> rfl), by repeat (first | (with_reducible first | exact HB.out | apply below_alloc | apply pw_below_drewN | apply below_drew1 | refine below_set ?_ GE113.out | refine below_set ?_ GE125.out) | exact HB.out)⟩
                ·
                 rw [if_neg c71] at H
                 have c71b0 : decide (t142 < 0) = false := decide_eq_false c71
                 clear c71
                 (first | rw [c71b0] | (simp only [i64_w, i32_w]; rw [c71b0]) | (simp only [c71b2, Bool.not_false, Bool.not_true]) | skip)
                 have H' := aa H
                 clear H
                 go_wp2
                 go_meet
                 case rel => exact ⟨_, H', ⟨by have := HJ2.out; have := HJ5.out; have := HJ15.out; have := HJ38.out; have := HJ45.out; have := HJ51.out; have := HJ60.out; first | omega | exact Nat.le_refl _⟩, ⟨by (with_reducible repeat (first | apply Kd.R_alloc | apply Kd.R_drewN | apply Kd.R_drew)); exact HO_114002.out⟩, ⟨by (with_reducible repeat (first | apply Kd.R_alloc | apply Kd.R_drewN | apply Kd.R_drew)); exact HO_126002.out⟩, ⟨by (with_reducible repeat (first | refine blk_drewN ?_ _ | refine blk_drew ?_ | refine blk_alloc ?_ _)); exact BK113.out⟩, ⟨by (with_reducible repeat (first | refine blk_drewN ?_ _ | refine blk_drew ?_ | refine blk_alloc ?_ _)); exact BK125.out⟩, ⟨by repeat (first | (with_reducible first | exact HB.out | apply below_alloc | apply pw_below_drewN | apply below_drew1 | refine below_set ?_ GE113.out | refine below_set ?_ GE125.out) | exact HB.out)⟩⟩
               case rest =>
                clear HC65
                try clear c1
                try clear p2
                try clear c3
                try clear c4
                try clear c4b0
                try clear c4b1
                try clear c4b2
                try clear c5
                try clear c6
                try clear c7
                try clear c8
                try clear c8b0
                try clear c8b2
                try clear c9
                try clear c10
                try clear c11
                try clear c12
                try clear c13
                try clear c14
                try clear c15
                try clear c16
                try clear c31
                try clear c36
                try clear c43
                try clear c49
                try clear c55
                try clear c55b0
                try clear c55b2
                try clear c57
                try clear c62
                try clear c66
                try clear c71
                try clear c71b0
                try clear c71b2
                try clear hcz23_0
                try clear hcz23_1
                try clear hcz23_2
                try clear hcz32_0
                try clear hcz32_1
                try clear hcz32_2
                try clear hcz34_0
                try clear hcz34_1
                try clear hcz34_2
                try clear hcz58_0
                try clear hcz58_1
                try clear hcz58_2
                try clear hcz59_0
                try clear hcz59_1
                try clear hcz59_2
                try clear hcz67_0
                try clear hcz67_1
                try clear hcz67_2
                try clear hcz69_0
                try clear hcz69_1
                try clear hcz69_2
                try clear hfz23_0
                try clear hfz23_1
                try clear hfz23_2
                try clear hfz32_0
                try clear hfz32_1
                try clear hfz32_2
                try clear hfz34_0
                try clear hfz34_1
                try clear hfz34_2
                try clear hfz58_0
                try clear hfz58_1
                try clear hfz58_2
                try clear hfz59_0
                try clear hfz59_1
                try clear hfz59_2
                try clear hfz67_0
                try clear hfz67_1
                try clear hfz67_2
                try clear hfz69_0
                try clear hfz69_1
                try clear hfz69_2
                try clear p2
                obtain ⟨kq, HA, HJ64, HO_114002, HO_126002, BK113, BK125, HB⟩ := hcut
                have hl126002_64 := (Kd.R_reads' HO_126002.out).1
                rw [hl126002_64] at HO_126002
                (try simp only [hl126002_64])
                (try simp only [hl126002_64] at BK113)
                (try simp only [hl126002_64] at BK125)
                (try simp only [hl126002_64] at HO_114002)
                cases kq with
                | zero => exact absurd HA.out (by simp [laws_FnExactDropOwned.j7])
                | succ kj64 =>
                 have H := HA.out
                 clear HA
                 simp only [laws_FnExactDropOwned.j7] at H
                 have HC72 := aa H
                 clear H
                 go_upto_if 72 with (fail)
                 go_cut [] (fun wc => ∃ (kq : Nat), Aside0 (laws_FnExactDropOwned.j8 kq l0 l1 t140 t108 t109 t110 t120 t121 t141 = some r) ∧ Aside0 (kq ≤ kj64) ∧ Aside0 (Kd.R k44 44 wc w.heap.size (fun k_ => some k_ ≠ ((.slice Ao33 t141.length co33) : Value).ownBlock) (.slice Ao24 t110.length co24) t110) ∧ Aside0 (Kd.R k44 44 wc w.heap.size (fun k_ => some k_ ≠ ((.slice Ao24 t110.length co24) : Value).ownBlock) (.slice Ao33 t141.length co33) t141) ∧ Aside0 (wc.heap[gb113]? = some (.cells #[.int .i64 t108, .string t109, (.slice Ao24 t110.length co24)] 27 (0, 0))) ∧ Aside0 (wc.heap[gb125]? = some (.cells #[.int .i64 t120, .string t121, (.slice Ao33 t141.length co33)] 27 (0, 0))) ∧ Aside0 (Below w.heap.size w wc))
                 case first =>
                  have H := HC72.out
                  clear HC72
                  by_cases c73 : t142 = t140
                  ·
                   rw [if_pos c73] at H
                   have c73b0 : (t142 == t140) = true := beq_iff_eq.mpr c73
                   have c73b1 : (t142 != t140) = false := bne_eq_false_iff_eq.mpr c73
                   clear c73
                   (first | rw [c73b0] | (simp only [i64_w, i32_w]; rw [c73b0]) | (simp only [c73b2, Bool.not_false, Bool.not_true]) | skip)
                   have H' := aa H
                   clear H
                   go_wp2
                   go_meet
                   case rel => exact ⟨_, H', ⟨by have := HJ2.out; have := HJ5.out; have := HJ15.out; have := HJ38.out; have := HJ45.out; have := HJ51.out; have := HJ60.out; have := HJ64.out; first | omega | exact Nat.le_refl _⟩, ⟨by (try simp only [hl126002_64]); (with_reducible repeat (first | apply Kd.R_alloc | apply Kd.R_drewN | apply Kd.R_drew)); exact HO_114002.out⟩, ⟨by (try simp only [hl126002_64]); (with_reducible repeat (first | apply Kd.R_alloc | apply Kd.R_drewN | apply Kd.R_drew)); exact HO_126002.out⟩, ⟨by (try simp only [hl126002_64]); (with_reducible repeat (first | refine blk_drewN ?_ _ | refine blk_drew ?_ | refine blk_alloc ?_ _)); exact BK113.out⟩, ⟨by (try simp only [hl126002_64]); (with_reducible repeat (first | refine blk_drewN ?_ _ | refine blk_drew ?_ | refine blk_alloc ?_ _)); exact BK125.out⟩, ⟨by repeat (first | (with_reducible first | exact HB.out | apply below_alloc | apply pw_below_drewN | apply below_drew1 | refine below_set ?_ GE113.out | refine below_set ?_ GE125.out) | exact HB.out)⟩⟩
                  ·
                   rw [if_neg c73] at H
                   have c73b0 : (t142 == t140) = false := beq_eq_false_iff_ne.mpr c73
                   have c73b1 : (t142 != t140) = true := bne_iff_ne.mpr c73
                   (first | rw [c73b0] | (simp only [i64_w, i32_w]; rw [c73b0]) | (simp only [c73b2, Bool.not_false, Bool.not_true]) | skip)
                   obtain rfl := Option.some.inj H
                   go_wp2
                   go_ret
                   exact ⟨by first | rfl | (simp [errW_none, errW_some] <;> rfl) | (simp [*, errW_none, errW_some] <;> rfl), by repeat (first | (with_reducible first | exact HB.out | apply below_alloc | apply pw_below_drewN | apply below_drew1 | refine below_set ?_ GE113.out | refine below_set ?_ GE125.out) | exact HB.out)⟩
                 case rest =>
                  clear HC72
                  try clear c1
                  try clear p2
                  try clear c3
                  try clear c4
                  try clear c4b0
                  try clear c4b1
                  try clear c4b2
                  try clear c5
                  try clear c6
                  try clear c7
                  try clear c8
                  try clear c8b0
                  try clear c8b2
                  try clear c9
                  try clear c10
                  try clear c11
                  try clear c12
                  try clear c13
                  try clear c14
                  try clear c15
                  try clear c16
                  try clear c31
                  try clear c36
                  try clear c43
                  try clear c49
                  try clear c55
                  try clear c55b0
                  try clear c55b2
                  try clear c57
                  try clear c62
                  try clear c66
                  try clear c71
                  try clear c71b0
                  try clear c71b2
                  try clear c73
                  try clear c73b0
                  try clear c73b1
                  try clear c73b2
                  try clear hcz23_0
                  try clear hcz23_1
                  try clear hcz23_2
                  try clear hcz32_0
                  try clear hcz32_1
                  try clear hcz32_2
                  try clear hcz34_0
                  try clear hcz34_1
                  try clear hcz34_2
                  try clear hcz58_0
                  try clear hcz58_1
                  try clear hcz58_2
                  try clear hcz59_0
                  try clear hcz59_1
                  try clear hcz59_2
                  try clear hcz67_0
                  try clear hcz67_1
                  try clear hcz67_2
                  try clear hcz69_0
                  try clear hcz69_1
                  try clear hcz69_2
                  try clear hfz23_0
                  try clear hfz23_1
                  try clear hfz23_2
                  try clear hfz32_0
                  try clear hfz32_1
                  try clear hfz32_2
                  try clear hfz34_0
                  try clear hfz34_1
                  try clear hfz34_2
                  try clear hfz58_0
                  try clear hfz58_1
                  try clear hfz58_2
                  try clear hfz59_0
                  try clear hfz59_1
                  try clear hfz59_2
                  try clear hfz67_0
                  try clear hfz67_1
                  try clear hfz67_2
                  try clear hfz69_0
                  try clear hfz69_1
                  try clear hfz69_2
                  try clear p2
                  obtain ⟨kq, HA, HJ71, HO_114002, HO_126002, BK113, BK125, HB⟩ := hcut
                  cases kq with
                  | zero => exact absurd HA.out (by simp [laws_FnExactDropOwned.j8])
                  | succ kj71 =>
                   have H := HA.out
                   clear HA
                   simp only [laws_FnExactDropOwned.j8] at H
                   replace H := Option.bind_eq_some_iff.mp H
                   obtain ⟨t143, A740, H⟩ := H
                   replace H : ((laws_toInt64S.f kj71 l1).bind fun t146 => ((impl_DropOwned.f kj71 t143 t146).bind fun bt149 => ((laws_eqZResult.f kj71 bt149.1 bt149.2.1 bt149.2.2 t108 t109 t110).bind fun t155 => (if t155 = true then (laws_FnExactDropOwned.j9 kj71 t140 t120 t121 t141) else (some false))))) = some r := H
                   have A74 := aa A740
                   clear A740
                   replace H := Option.bind_eq_some_iff.mp H
                   obtain ⟨t146, A750, H⟩ := H
                   replace H : ((impl_DropOwned.f kj71 t143 t146).bind fun bt149 => ((laws_eqZResult.f kj71 bt149.1 bt149.2.1 bt149.2.2 t108 t109 t110).bind fun t155 => (if t155 = true then (laws_FnExactDropOwned.j9 kj71 t140 t120 t121 t141) else (some false)))) = some r := H
                   have A75 := aa A750
                   clear A750
                   replace H := Option.bind_eq_some_iff.mp H
                   obtain ⟨⟨t149, t150, t151⟩, A760, H⟩ := H
                   replace H : ((laws_eqZResult.f kj71 t149 t150 t151 t108 t109 t110).bind fun t155 => (if t155 = true then (laws_FnExactDropOwned.j9 kj71 t140 t120 t121 t141) else (some false))) = some r := H
                   have A76 := aa A760
                   clear A760
                   replace H := Option.bind_eq_some_iff.mp H
                   obtain ⟨t155, A770, H⟩ := H
                   replace H : (if t155 = true then (laws_FnExactDropOwned.j9 kj71 t140 t120 t121 t141) else (some false)) = some r := H
                   have A77 := aa A770
                   clear A770
                   have HC78 := aa H
                   clear H
                   go_upto_if 81 with (first | ((with_reducible refine gate_callee (f := 7) rfl ?_); refine goesL_ (some 74) rfl rfl Tryd.func7 (by kernel_rfl) rfl #[.slice A0 l0.length c0] rfl zjnmae ?_; (with_reducible refine (laws_toZnodeS.calls kj71 _ _ l0 t143 _ ?side1 ?side2 A74.out).mono ?_); (case side1 => exact zfmbgg); (case side2 => exact HC0.out); rintro e w79 ⟨v144, rfl, ho0, hb⟩; refine ⟨_, rfl, ?_⟩; have n0_ := aa (Kd.R_elder' (zcaken HO_114002.out) (Kd.R_base ho0) hb); have n1_ := aa (Kd.R_elder' (zcaken HO_126002.out) (Kd.R_base ho0) hb); have n2_ := aa (Kd.R_lower (Kd.R_new' (Kd.R_new' ho0 (Kd.R_lt (zcaken HO_114002.out))) (Kd.R_lt (zcaken HO_126002.out))) (below_size zmccdk)); have n3_ := aa (blk_below (g := gb113) (o := .cells #[.int .i64 t108, .string t109, .slice Ao24 t110.length co24] 27 (0, 0)) (zkjhpm BK113.out) hb); have n4_ := aa (blk_below (g := gb125) (o := .cells #[.int .i64 t120, .string t121, .slice Ao33 t141.length co33] 27 (0, 0)) (zkjhpm BK125.out) hb); have n5_ := aa (below_step zmccdk hb); clear HO_114002; clear HO_126002; clear BK113; clear BK125; clear HB; have HO_114002 := n0_; have HO_126002 := n1_; have HO145 := n2_; have BK113 := n3_; have BK125 := n4_; have HB := n5_; clear n0_ n1_ n2_ n3_ n4_ n5_; (try clear hb); (try clear hb2); (try clear hk); (try clear hi); (try clear ho0)) | ((with_reducible refine gate_callee (f := 8) rfl ?_); refine goesL_ (some 76) rfl rfl Tryd.func8 (by kernel_rfl) rfl #[.slice A1 l1.length c1] rfl zjnmae ?_; (with_reducible refine (laws_toInt64S.calls kj71 _ _ l1 t146 _ ?side1 ?side2 A75.out).mono ?_); (case side1 => exact znmdka); (case side2 => exact HC1.out); rintro e w80 ⟨v147, rfl, ho0, hb⟩; refine ⟨_, rfl, ?_⟩; have n0_ := aa (Kd.R_below (zcaken HO_114002.out) hb); have n1_ := aa (Kd.R_below (zcaken HO_126002.out) hb); have n2_ := aa (Kd.R_below (zcaken HO145.out) hb); have n3_ := aa (Kd.R_lower ho0 (below_size zmccdk)); have n4_ := aa (blk_below (g := gb113) (o := .cells #[.int .i64 t108, .string t109, .slice Ao24 t110.length co24] 27 (0, 0)) (zkjhpm BK113.out) hb); have n5_ := aa (blk_below (g := gb125) (o := .cells #[.int .i64 t120, .string t121, .slice Ao33 t141.length co33] 27 (0, 0)) (zkjhpm BK125.out) hb); have n6_ := aa (below_step zmccdk hb); clear HO_114002; clear HO_126002; clear HO145; clear BK113; clear BK125; clear HB; have HO_114002 := n0_; have HO_126002 := n1_; have HO145 := n2_; have HO148 := n3_; have BK113 := n4_; have BK125 := n5_; have HB := n6_; clear n0_ n1_ n2_ n3_ n4_ n5_ n6_; (try clear hb); (try clear hb2); (try clear hk); (try clear hi); (try clear ho0); obtain ⟨Ao81, co81, eo81⟩ := Kd.R_slice HO145.out; subst eo81; obtain ⟨Ao82, co82, eo82⟩ := Kd.R_slice HO148.out; subst eo82) | ((with_reducible refine gate_callee (f := 9) rfl ?_); refine goesL_ (some 77) rfl rfl Tryd.func9 (by kernel_rfl) rfl #[.slice Ao81 t143.length co81, .slice Ao82 t146.length co82] rfl zjnmae ?_; (with_reducible refine (impl_DropOwned.calls kj71 _ _ t143 _ _ t146 t149 t150 t151 _ ?side1 ?side2 ?side3 ?side4 A76.out).mono ?_); (case side1 => repeat (first | exact (Kd.R_reads' HO145.out).2.2 | (with_reducible refine Kd.C_alloc ?_ _) | (with_reducible refine Kd.C_drewN ?_ _) | (with_reducible refine Kd.C_drew ?_))); (case side2 => exact (Kd.R_reads' HO145.out).2.1); (case side3 => repeat (first | exact (Kd.R_reads' HO148.out).2.2 | (with_reducible refine Kd.C_alloc ?_ _) | (with_reducible refine Kd.C_drewN ?_ _) | (with_reducible refine Kd.C_drew ?_))); (case side4 => exact (Kd.R_reads' HO148.out).2.1); rintro e w83 ⟨v152, rfl, ho0, hb⟩; refine ⟨_, rfl, ?_⟩; have n0_ := aa (Kd.R_elder' (zcaken HO_114002.out) (Kd.R_base ho0) hb); have n1_ := aa (Kd.R_elder' (zcaken HO_126002.out) (Kd.R_base ho0) hb); have n2_ := aa (Kd.R_elder' (zcaken HO145.out) (Kd.R_base ho0) hb); have n3_ := aa (Kd.R_below (zcaken HO148.out) hb); have n4_ := aa (Kd.R_lower (Kd.R_new' (Kd.R_new' (Kd.R_new' ho0 (Kd.R_lt (zcaken HO_114002.out))) (Kd.R_lt (zcaken HO_126002.out))) (Kd.R_lt (zcaken HO145.out))) (below_size zmccdk)); have n5_ := aa (blk_below (g := gb113) (o := .cells #[.int .i64 t108, .string t109, .slice Ao24 t110.length co24] 27 (0, 0)) (zkjhpm BK113.out) hb); have n6_ := aa (blk_below (g := gb125) (o := .cells #[.int .i64 t120, .string t121, .slice Ao33 t141.length co33] 27 (0, 0)) (zkjhpm BK125.out) hb); have n7_ := aa (below_step zmccdk hb); clear HO_114002; clear HO_126002; clear HO145; clear HO148; clear BK113; clear BK125; clear HB; have HO_114002 := n0_; have HO_126002 := n1_; have HO145 := n2_; have HO148 := n3_; have HO153 := n4_; have BK113 := n5_; have BK125 := n6_; have HB := n7_; clear n0_ n1_ n2_ n3_ n4_ n5_ n6_ n7_; (try clear hb); (try clear hb2); (try clear hk); (try clear hi); (try clear ho0)) | ((with_reducible refine gate_dst (N := 13) rfl ?_); refine box_event ?hg (N := 13) ?hd (cs := #[.int .i64 0, .string (⟨#[]⟩ : ByteArray), .slice none 0 0]) (t := 27) ?hr ?_; (case hd => rfl); (case hg => rfl); (case hr => exact zhlgcp); intro gb154 hg w84 hbox hb; have n0_ := aa (Kd.R_below (zcaken HO_114002.out) hb); have n1_ := aa (Kd.R_below (zcaken HO_126002.out) hb); have n2_ := aa (Kd.R_below (zcaken HO145.out) hb); have n3_ := aa (Kd.R_below (zcaken HO148.out) hb); have n4_ := aa (Kd.R_below (zcaken HO153.out) hb); have n5_ := aa (blk_below (g := gb113) (o := .cells #[.int .i64 t108, .string t109, .slice Ao24 t110.length co24] 27 (0, 0)) (zkjhpm BK113.out) hb); have n6_ := aa (blk_below (g := gb125) (o := .cells #[.int .i64 t120, .string t121, .slice Ao33 t141.length co33] 27 (0, 0)) (zkjhpm BK125.out) hb); have n7_ := aa (below_step zmccdk hb); have n8_ := aa (hbox); have n9_ := aa ((by rw [hg]; exact (below_size zmccdk) : w.heap.size ≤ gb154)); have n10_ := aa ((by rw [hg]; exact (below_size zmccdk) : w.heap.size ≤ gb154)); have n11_ := aa ((zlokod : gb113 ≠ gb154)); have n12_ := aa ((zephnk : gb154 ≠ gb113)); have n13_ := aa ((by rw [hg]; exact Nat.ne_of_lt (blk_lt (g := gb125) (o := .cells #[.int .i64 t120, .string t121, .slice Ao33 t141.length co33] 27 (0, 0)) (zkjhpm BK125.out)) : gb125 ≠ gb154)); have n14_ := aa ((by rw [hg]; exact Nat.ne_of_gt (blk_lt (g := gb125) (o := .cells #[.int .i64 t120, .string t121, .slice Ao33 t141.length co33] 27 (0, 0)) (zkjhpm BK125.out)) : gb154 ≠ gb125)); clear HO_114002; clear HO_126002; clear HO145; clear HO148; clear HO153; clear BK113; clear BK125; clear HB; have HO_114002 := n0_; have HO_126002 := n1_; have HO145 := n2_; have HO148 := n3_; have HO153 := n4_; have BK113 := n5_; have BK125 := n6_; have HB := n7_; have BK154 := n8_; have GW154 := n9_; have GE154 := n10_; have NB113_154 := n11_; have NB154_113 := n12_; have NB125_154 := n13_; have NB154_125 := n14_; clear n0_ n1_ n2_ n3_ n4_ n5_ n6_ n7_ n8_ n9_ n10_ n11_ n12_ n13_ n14_; clear hb hbox hg; have hnb85 := NB154_113.out; have hnc85 := NB113_154.out; have hnb86 := NB154_125.out; have hnc86 := NB125_154.out; have hcz87_0 : w84.cell? ⟨gb154, 0, none⟩ = some (.int .i64 0) := (blk_cell BK154.out 0).trans rfl; have hcz87_1 : w84.cell? ⟨gb154, 1, none⟩ = some (.string (⟨#[]⟩ : ByteArray)) := (blk_cell BK154.out 1).trans rfl; have hcz87_2 : w84.cell? ⟨gb154, 2, none⟩ = some (.slice none 0 0) := (blk_cell BK154.out 2).trans rfl; have hfz87_0 := blk_frozen BK154.out 0; have hfz87_1 := blk_frozen BK154.out 1; have hfz87_2 := blk_frozen BK154.out 2; obtain ⟨Ao88, co88, eo88⟩ := Kd.R_slice HO153.out; subst eo88; have hnb89 := NB113_125.out; have hnc89 := NB125_113.out; have hcz90_0 : w84.cell? ⟨gb113, 0, none⟩ = some (.int .i64 t108) := (blk_cell BK113.out 0).trans rfl; have hcz90_1 : w84.cell? ⟨gb113, 1, none⟩ = some (.string t109) := (blk_cell BK113.out 1).trans rfl; have hcz90_2 : w84.cell? ⟨gb113, 2, none⟩ = some (.slice Ao24 t110.length co24) := (blk_cell BK113.out 2).trans rfl; have hfz90_0 := blk_frozen BK113.out 0; have hfz90_1 := blk_frozen BK113.out 1; have hfz90_2 := blk_frozen BK113.out 2) | ((with_reducible refine gate_callee (f := 10) rfl ?_); refine goesL_ (some 80) rfl rfl Tryd.func10 (by kernel_rfl) rfl #[.agg #[.int .i64 t149, .string t150, .slice Ao88 t151.length co88], .agg #[.int .i64 t108, .string t109, .slice Ao24 t110.length co24]] rfl zjnmae ?_; (with_reducible refine (laws_eqZResult.calls kj71 t149 t150 _ _ t151 t108 t109 _ _ t110 t155 _ ?side1 ?side2 ?side3 ?side4 A77.out).mono ?_); (case side1 => refine (Kd.R_reads' (e := 44) (base := w.heap.size) (ok := fun k_ => (((True ∧ some k_ ≠ (.slice Ao24 t110.length co24 : Value).ownBlock) ∧ some k_ ≠ (.slice Ao33 t141.length co33 : Value).ownBlock) ∧ some k_ ≠ (.slice Ao81 t143.length co81 : Value).ownBlock)) (n := t151.length) (c := co88) ?_).2.2; exact (by (with_reducible repeat (first | apply Kd.R_alloc | apply Kd.R_drewN | apply Kd.R_drew)); exact (Kd.R_mono (Kd.R_far (p := ⟨gb154, 2, none⟩) (Kd.R_far (p := ⟨gb154, 1, none⟩) (Kd.R_far (p := ⟨gb154, 0, none⟩) (Kd.R_types HO153.out BK154.out (by decide)) (fun _ hk => hk.2) (.int .i64 t149)) (fun _ hk => hk.2) (.string t150)) (fun _ hk => hk.2) (.slice Ao88 t151.length co88)) (fun _ h_ => h_.1)))); (case side2 => exact (Kd.R_reads' HO153.out).2.1); (case side3 => refine (Kd.R_reads' (e := 44) (base := w.heap.size) (ok := fun k_ => ((some k_ ≠ (.slice Ao33 t141.length co33 : Value).ownBlock ∧ some k_ ≠ (.slice Ao81 t143.length co81 : Value).ownBlock) ∧ some k_ ≠ (.slice Ao88 t151.length co88 : Value).ownBlock)) (n := t110.length) (c := co24) ?_).2.2; exact (by (with_reducible repeat (first | apply Kd.R_alloc | apply Kd.R_drewN | apply Kd.R_drew)); exact (Kd.R_mono (Kd.R_far (p := ⟨gb154, 2, none⟩) (Kd.R_far (p := ⟨gb154, 1, none⟩) (Kd.R_far (p := ⟨gb154, 0, none⟩) (Kd.R_types HO_114002.out BK154.out (by decide)) (fun _ hk => hk.2) (.int .i64 t149)) (fun _ hk => hk.2) (.string t150)) (fun _ hk => hk.2) (.slice Ao88 t151.length co88)) (fun _ h_ => h_.1)))); (case side4 => exact znoaai); rintro e w91 ⟨rfl, hb⟩; refine ⟨_, rfl, ?_⟩; have n0_ := aa (Kd.R_below (by (with_reducible repeat (first | apply Kd.R_alloc | apply Kd.R_drewN | apply Kd.R_drew)); exact (Kd.R_mono (Kd.R_far (p := ⟨gb154, 2, none⟩) (Kd.R_far (p := ⟨gb154, 1, none⟩) (Kd.R_far (p := ⟨gb154, 0, none⟩) (Kd.R_types HO_114002.out BK154.out (by decide)) (fun _ hk => hk.2) (.int .i64 t149)) (fun _ hk => hk.2) (.string t150)) (fun _ hk => hk.2) (.slice Ao88 t151.length co88)) (fun _ h_ => h_.1))) hb); have n1_ := aa (Kd.R_below (by (with_reducible repeat (first | apply Kd.R_alloc | apply Kd.R_drewN | apply Kd.R_drew)); exact (Kd.R_mono (Kd.R_far (p := ⟨gb154, 2, none⟩) (Kd.R_far (p := ⟨gb154, 1, none⟩) (Kd.R_far (p := ⟨gb154, 0, none⟩) (Kd.R_types HO_126002.out BK154.out (by decide)) (fun _ hk => hk.2) (.int .i64 t149)) (fun _ hk => hk.2) (.string t150)) (fun _ hk => hk.2) (.slice Ao88 t151.length co88)) (fun _ h_ => h_.1))) hb); have n2_ := aa (Kd.R_below (by (with_reducible repeat (first | apply Kd.R_alloc | apply Kd.R_drewN | apply Kd.R_drew)); exact (Kd.R_mono (Kd.R_far (p := ⟨gb154, 2, none⟩) (Kd.R_far (p := ⟨gb154, 1, none⟩) (Kd.R_far (p := ⟨gb154, 0, none⟩) (Kd.R_types HO145.out BK154.out (by decide)) (fun _ hk => hk.2) (.int .i64 t149)) (fun _ hk => hk.2) (.string t150)) (fun _ hk => hk.2) (.slice Ao88 t151.length co88)) (fun _ h_ => h_.1))) hb); have n3_ := aa (Kd.R_below (by (with_reducible repeat (first | apply Kd.R_alloc | apply Kd.R_drewN | apply Kd.R_drew)); exact (Kd.R_mono (Kd.R_far (p := ⟨gb154, 2, none⟩) (Kd.R_far (p := ⟨gb154, 1, none⟩) (Kd.R_far (p := ⟨gb154, 0, none⟩) (Kd.R_types HO148.out BK154.out (by decide)) (fun _ hk => hk.2) (.int .i64 t149)) (fun _ hk => hk.2) (.string t150)) (fun _ hk => hk.2) (.slice Ao88 t151.length co88)) (fun _ h_ => h_.1))) hb); have n4_ := aa (Kd.R_below (by (with_reducible repeat (first | apply Kd.R_alloc | apply Kd.R_drewN | apply Kd.R_drew)); exact (Kd.R_mono (Kd.R_far (p := ⟨gb154, 2, none⟩) (Kd.R_far (p := ⟨gb154, 1, none⟩) (Kd.R_far (p := ⟨gb154, 0, none⟩) (Kd.R_types HO153.out BK154.out (by decide)) (fun _ hk => hk.2) (.int .i64 t149)) (fun _ hk => hk.2) (.string t150)) (fun _ hk => hk.2) (.slice Ao88 t151.length co88)) (fun _ h_ => h_.1))) hb); have n5_ := aa (blk_below (g := gb113) (o := .cells #[.int .i64 t108, .string t109, .slice Ao24 t110.length co24] 27 (0, 0)) (by (with_reducible repeat (first | refine blk_drewN ?_ _ | refine blk_drew ?_ | refine blk_alloc ?_ _)); refine blk_far ?_ NB113_154.out _; (with_reducible repeat (first | refine blk_drewN ?_ _ | refine blk_drew ?_ | refine blk_alloc ?_ _)); refine blk_far ?_ NB113_154.out _; (with_reducible repeat (first | refine blk_drewN ?_ _ | refine blk_drew ?_ | refine blk_alloc ?_ _)); refine blk_far ?_ NB113_154.out _; (with_reducible repeat (first | refine blk_drewN ?_ _ | refine blk_drew ?_ | refine blk_alloc ?_ _)); exact BK113.out) hb); have n6_ := aa (blk_below (g := gb125) (o := .cells #[.int .i64 t120, .string t121, .slice Ao33 t141.length co33] 27 (0, 0)) (by (with_reducible repeat (first | refine blk_drewN ?_ _ | refine blk_drew ?_ | refine blk_alloc ?_ _)); refine blk_far ?_ NB125_154.out _; (with_reducible repeat (first | refine blk_drewN ?_ _ | refine blk_drew ?_ | refine blk_alloc ?_ _)); refine blk_far ?_ NB125_154.out _; (with_reducible repeat (first | refine blk_drewN ?_ _ | refine blk_drew ?_ | refine blk_alloc ?_ _)); refine blk_far ?_ NB125_154.out _; (with_reducible repeat (first | refine blk_drewN ?_ _ | refine blk_drew ?_ | refine blk_alloc ?_ _)); exact BK125.out) hb); have n7_ := aa (blk_below (g := gb154) (o := .cells #[.int .i64 t149, .string t150, .slice Ao88 t151.length co88] 27 (0, 0)) (by (with_reducible repeat (first | refine blk_drewN ?_ _ | refine blk_drew ?_ | refine blk_alloc ?_ _)); refine blk_put (cs := #[.int .i64 t149, .string t150, .slice none 0 0]) ?_ 2 _ rfl; (with_reducible repeat (first | refine blk_drewN ?_ _ | refine blk_drew ?_ | refine blk_alloc ?_ _)); refine blk_put (cs := #[.int .i64 t149, .string (⟨#[]⟩ : ByteArray), .slice none 0 0]) ?_ 1 _ rfl; (with_reducible repeat (first | refine blk_drewN ?_ _ | refine blk_drew ?_ | refine blk_alloc ?_ _)); refine blk_put (cs := #[.int .i64 0, .string (⟨#[]⟩ : ByteArray), .slice none 0 0]) ?_ 0 _ rfl; (with_reducible repeat (first | refine blk_drewN ?_ _ | refine blk_drew ?_ | refine blk_alloc ?_ _)); exact BK154.out) hb); have n8_ := aa (below_step zdhmgd hb); clear HO_114002; clear HO_126002; clear HO145; clear HO148; clear HO153; clear BK113; clear BK125; clear BK154; clear HB; have HO_114002 := n0_; have HO_126002 := n1_; have HO145 := n2_; have HO148 := n3_; have HO153 := n4_; have BK113 := n5_; have BK125 := n6_; have BK154 := n7_; have HB := n8_; clear n0_ n1_ n2_ n3_ n4_ n5_ n6_ n7_ n8_; (try clear hb); (try clear hb2); (try clear hk); (try clear hi)))
                   (try simp only [Act.put, List.setIfInBounds_toArray, List.set_cons_zero, List.set_cons_succ])
                   go_cut [] (fun wc => ∃ (kq : Nat), Aside0 (laws_FnExactDropOwned.j9 kq t140 t120 t121 t141 = some r) ∧ Aside0 (kq ≤ kj71) ∧ Aside0 (Kd.R k44 44 wc w.heap.size (fun k_ => some k_ ≠ ((.slice Ao33 t141.length co33) : Value).ownBlock ∧ some k_ ≠ ((.slice Ao88 t151.length co88) : Value).ownBlock) (.slice Ao24 t110.length co24) t110) ∧ Aside0 (Kd.R k44 44 wc w.heap.size (fun k_ => some k_ ≠ ((.slice Ao24 t110.length co24) : Value).ownBlock ∧ some k_ ≠ ((.slice Ao88 t151.length co88) : Value).ownBlock) (.slice Ao33 t141.length co33) t141) ∧ Aside0 (Kd.R k44 44 wc w.heap.size (fun k_ => some k_ ≠ ((.slice Ao24 t110.length co24) : Value).ownBlock ∧ some k_ ≠ ((.slice Ao33 t141.length co33) : Value).ownBlock) (.slice Ao88 t151.length co88) t151) ∧ Aside0 (wc.heap[gb113]? = some (.cells #[.int .i64 t108, .string t109, (.slice Ao24 t110.length co24)] 27 (0, 0))) ∧ Aside0 (wc.heap[gb125]? = some (.cells #[.int .i64 t120, .string t121, (.slice Ao33 t141.length co33)] 27 (0, 0))) ∧ Aside0 (wc.heap[gb154]? = some (.cells #[.int .i64 t149, .string t150, (.slice Ao88 t151.length co88)] 27 (0, 0))) ∧ Aside0 (Below w.heap.size w wc))
                   case first =>
                    have H := HC78.out
                    clear HC78
                    by_cases c92 : t155 = true
                    ·
                     subst c92
                     have H1 : (laws_FnExactDropOwned.j9 kj71 t140 t120 t121 t141) = some r := by rw [if_pos rfl] at H; exact H
                     clear H
                     have H := H1
                     clear H1
                     have H' := aa H
                     clear H
                     go_wp2
                     go_meet
                     case rel => exact ⟨_, H', ⟨by have := HJ2.out; have := HJ5.out; have := HJ15.out; have := HJ38.out; have := HJ45.out; have := HJ51.out; have := HJ60.out; have := HJ64.out; have := HJ71.out; first | omega | exact Nat.le_refl _⟩, ⟨by (try simp only [hl126002_64]); (with_reducible repeat (first | apply Kd.R_alloc | apply Kd.R_drewN | apply Kd.R_drew)); exact Kd.R_mono HO_114002.out (fun _ hk => ⟨hk.1.1, hk.2⟩)⟩, ⟨by (try simp only [hl126002_64]); (with_reducible repeat (first | apply Kd.R_alloc | apply Kd.R_drewN | apply Kd.R_drew)); exact Kd.R_mono HO_126002.out (fun _ hk => ⟨hk.1.1, hk.2⟩)⟩, ⟨by (try simp only [hl126002_64]); (with_reducible repeat (first | apply Kd.R_alloc | apply Kd.R_drewN | apply Kd.R_drew)); exact Kd.R_mono HO153.out (fun _ hk => ⟨hk.1.1.2, hk.1.2⟩)⟩, ⟨by (try simp only [hl126002_64]); (with_reducible repeat (first | refine blk_drewN ?_ _ | refine blk_drew ?_ | refine blk_alloc ?_ _)); exact BK113.out⟩, ⟨by (try simp only [hl126002_64]); (with_reducible repeat (first | refine blk_drewN ?_ _ | refine blk_drew ?_ | refine blk_alloc ?_ _)); exact BK125.out⟩, ⟨by (try simp only [hl126002_64]); (with_reducible repeat (first | refine blk_drewN ?_ _ | refine blk_drew ?_ | refine blk_alloc ?_ _)); exact BK154.out⟩, ⟨by repeat (first | (with_reducible first | exact HB.out | apply below_alloc | apply pw_below_drewN | apply below_drew1 | refine below_set ?_ GE113.out | refine below_set ?_ GE125.out | refine below_set ?_ GE154.out) | exact HB.out)⟩⟩
                    ·
                     replace c92 := Bool.eq_false_iff.mpr c92
                     subst c92
                     have H1 : (some false) = some r := by rw [if_neg (show ¬ (false = true) by decide)] at H; exact H
                     clear H
                     have H := H1
                     clear H1
                     obtain rfl := Option.some.inj H
                     go_wp2
                     go_ret
                     exact ⟨by first | rfl | (simp [errW_none, errW_some] <;> rfl) | (simp [*, errW_none, errW_some] <;> rfl), by repeat (first | (with_reducible first | exact HB.out | apply below_alloc | apply pw_below_drewN | apply below_drew1 | refine below_set ?_ GE113.out | refine below_set ?_ GE125.out | refine below_set ?_ GE154.out) | exact HB.out)⟩
                   case rest =>
                    clear HC78
                    try clear c1
                    try clear p2
                    try clear c3
                    try clear c4
                    try clear c4b0
                    try clear c4b1
                    try clear c4b2
                    try clear c5
                    try clear c6
                    try clear c7
                    try clear c8
                    try clear c8b0
                    try clear c8b2
                    try clear c9
                    try clear c10
                    try clear c11
                    try clear c12
                    try clear c13
                    try clear c14
                    try clear c15
                    try clear c16
                    try clear c31
                    try clear c36
                    try clear c43
                    try clear c49
                    try clear c55
                    try clear c55b0
                    try clear c55b2
                    try clear c57
                    try clear c62
                    try clear c66
                    try clear c71
                    try clear c71b0
                    try clear c71b2
                    try clear c73
                    try clear c73b0
                    try clear c73b1
                    try clear c73b2
                    try clear c85
                    try clear c86
                    try clear c89
                    try clear c92
                    try clear hcz23_0
                    try clear hcz23_1
                    try clear hcz23_2
                    try clear hcz32_0
                    try clear hcz32_1
                    try clear hcz32_2
                    try clear hcz34_0
                    try clear hcz34_1
                    try clear hcz34_2
                    try clear hcz58_0
                    try clear hcz58_1
                    try clear hcz58_2
                    try clear hcz59_0
                    try clear hcz59_1
                    try clear hcz59_2
                    try clear hcz67_0
                    try clear hcz67_1
                    try clear hcz67_2
                    try clear hcz69_0
                    try clear hcz69_1
                    try clear hcz69_2
                    try clear hcz87_0
                    try clear hcz87_1
                    try clear hcz87_2
                    try clear hcz90_0
                    try clear hcz90_1
                    try clear hcz90_2
                    try clear hfz23_0
                    try clear hfz23_1
                    try clear hfz23_2
                    try clear hfz32_0
                    try clear hfz32_1
                    try clear hfz32_2
                    try clear hfz34_0
                    try clear hfz34_1
                    try clear hfz34_2
                    try clear hfz58_0
                    try clear hfz58_1
                    try clear hfz58_2
                    try clear hfz59_0
                    try clear hfz59_1
                    try clear hfz59_2
                    try clear hfz67_0
                    try clear hfz67_1
                    try clear hfz67_2
                    try clear hfz69_0
                    try clear hfz69_1
                    try clear hfz69_2
                    try clear hfz87_0
                    try clear hfz87_1
                    try clear hfz87_2
                    try clear hfz90_0
                    try clear hfz90_1
                    try clear hfz90_2
                    try clear p2
                    obtain ⟨kq, HA, HJ77, HO_114002, HO_126002, HO_155002, BK113, BK125, BK154, HB⟩ := hcut
                    cases kq with
                    | zero => exact absurd HA.out (by simp [laws_FnExactDropOwned.j9])
                    | succ kj77 =>
                     have H := HA.out
                     clear HA
                     simp only [laws_FnExactDropOwned.j9] at H
                     replace H := Option.bind_eq_some_iff.mp H
                     obtain ⟨t156, A930, H⟩ := H
                     replace H : (if t156 < 0 then (some false) else (if t156 = t140 then (some true) else (some false))) = some r := H
                     have A93 := aa A930
                     clear A930
                     by_cases c94 : t156 < 0
                     ·
                      rw [if_pos c94] at H
                      have c94b0 : decide (t156 < 0) = true := decide_eq_true c94
                      clear c94
                      obtain rfl := Option.some.inj H
                      have hnb95 := NB125_113.out
                      have hnc95 := NB113_125.out
                      have hnb96 := NB125_154.out
                      have hnc96 := NB154_125.out
                      have hcz97_0 : wc.cell? ⟨gb125, 0, none⟩ = some (.int .i64 t120) := (blk_cell BK125.out 0).trans rfl
                      have hcz97_1 : wc.cell? ⟨gb125, 1, none⟩ = some (.string t121) := (blk_cell BK125.out 1).trans rfl
                      have hcz97_2 : wc.cell? ⟨gb125, 2, none⟩ = some (.slice Ao33 t141.length co33) := (blk_cell BK125.out 2).trans rfl
                      have hfz97_0 := blk_frozen BK125.out 0
                      have hfz97_1 := blk_frozen BK125.out 1
                      have hfz97_2 := blk_frozen BK125.out 2
                      go_wp2_with (first | ((with_reducible refine gate_callee (f := 16) rfl ?_); refine goesL_ (some 84) rfl rfl Tryd.func16 (by kernel_rfl) rfl #[.agg #[.int .i64 t120, .string t121, .slice Ao33 t141.length co33], .int .i64 1] rfl zjnmae ?_; (with_reducible refine (laws_heldZResult.calls kj77 t120 t121 _ _ t141 1 t156 _ ?side1 ?side2 A93.out).mono ?_); (case side1 => exact zpmfmp); (case side2 => exact zgienl); rintro e w98 ⟨rfl, hb⟩; refine ⟨_, rfl, ?_⟩; have n0_ := aa (Kd.R_below (zcaken HO_114002.out) hb); have n1_ := aa (Kd.R_below (zcaken HO_126002.out) hb); have n2_ := aa (Kd.R_below (zcaken HO_155002.out) hb); have n3_ := aa (blk_below (g := gb113) (o := .cells #[.int .i64 t108, .string t109, .slice Ao24 t110.length co24] 27 (0, 0)) (zkjhpm BK113.out) hb); have n4_ := aa (blk_below (g := gb125) (o := .cells #[.int .i64 t120, .string t121, .slice Ao33 t141.length co33] 27 (0, 0)) (zkjhpm BK125.out) hb); have n5_ := aa (blk_below (g := gb154) (o := .cells #[.int .i64 t149, .string t150, .slice Ao88 t151.length co88] 27 (0, 0)) (zkjhpm BK154.out) hb); have n6_ := aa (below_step zdhmgd hb); clear HO_114002; clear HO_126002; clear HO_155002; clear BK113; clear BK125; clear BK154; clear HB; have HO_114002 := n0_; have HO_126002 := n1_; have HO_155002 := n2_; have BK113 := n3_; have BK125 := n4_; have BK154 := n5_; have HB := n6_; clear n0_ n1_ n2_ n3_ n4_ n5_ n6_; (try clear hb); (try clear hb2); (try clear hk); (try clear hi)))
                      go_ret
                      exact ⟨by first | rfl | (simp [errW_none, errW_some] <;> rfl) | (simp [*, errW_none, errW_some] <;> rfl), by repeat (first | (with_reducible first | exact HB.out | apply below_alloc | apply pw_below_drewN | apply below_drew1 | refine below_set ?_ GE113.out | refine below_set ?_ GE125.out | refine below_set ?_ GE154.out) | exact HB.out)⟩
                     ·
                      rw [if_neg c94] at H
                      have c94b0 : decide (t156 < 0) = false := decide_eq_false c94
                      clear c94
                      by_cases c99 : t156 = t140
                      ·
                       rw [if_pos c99] at H
                       have c99b0 : (t156 == t140) = true := beq_iff_eq.mpr c99
                       have c99b1 : (t156 != t140) = false := bne_eq_false_iff_eq.mpr c99
                       clear c99
                       obtain rfl := Option.some.inj H
                       have hnb100 := NB125_113.out
                       have hnc100 := NB113_125.out
                       have hnb101 := NB125_154.out
                       have hnc101 := NB154_125.out
                       have hcz102_0 : wc.cell? ⟨gb125, 0, none⟩ = some (.int .i64 t120) := (blk_cell BK125.out 0).trans rfl
                       have hcz102_1 : wc.cell? ⟨gb125, 1, none⟩ = some (.string t121) := (blk_cell BK125.out 1).trans rfl
                       have hcz102_2 : wc.cell? ⟨gb125, 2, none⟩ = some (.slice Ao33 t141.length co33) := (blk_cell BK125.out 2).trans rfl
                       have hfz102_0 := blk_frozen BK125.out 0
                       have hfz102_1 := blk_frozen BK125.out 1
                       have hfz102_2 := blk_frozen BK125.out 2
                       go_wp2_with (first | ((with_reducible refine gate_callee (f := 16) rfl ?_); refine goesL_ (some 84) rfl rfl Tryd.func16 (by kernel_rfl) rfl #[.agg #[.int .i64 t120, .string t121, .slice Ao33 t141.length co33], .int .i64 1] rfl zjnmae ?_; (with_reducible refine (laws_heldZResult.calls kj77 t120 t121 _ _ t141 1 t156 _ ?side1 ?side2 A93.out).mono ?_); (case side1 => exact zpmfmp); (case side2 => exact zgienl); rintro e w103 ⟨rfl, hb⟩; refine ⟨_, rfl, ?_⟩; have n0_ := aa (Kd.R_below (zcaken HO_114002.out) hb); have n1_ := aa (Kd.R_below (zcaken HO_126002.out) hb); have n2_ := aa (Kd.R_below (zcaken HO_155002.out) hb); have n3_ := aa (blk_below (g := gb113) (o := .cells #[.int .i64 t108, .string t109, .slice Ao24 t110.length co24] 27 (0, 0)) (zkjhpm BK113.out) hb); have n4_ := aa (blk_below (g := gb125) (o := .cells #[.int .i64 t120, .string t121, .slice Ao33 t141.length co33] 27 (0, 0)) (zkjhpm BK125.out) hb); have n5_ := aa (blk_below (g := gb154) (o := .cells #[.int .i64 t149, .string t150, .slice Ao88 t151.length co88] 27 (0, 0)) (zkjhpm BK154.out) hb); have n6_ := aa (below_step zdhmgd hb); clear HO_114002; clear HO_126002; clear HO_155002; clear BK113; clear BK125; clear BK154; clear HB; have HO_114002 := n0_; have HO_126002 := n1_; have HO_155002 := n2_; have BK113 := n3_; have BK125 := n4_; have BK154 := n5_; have HB := n6_; clear n0_ n1_ n2_ n3_ n4_ n5_ n6_; (try clear hb); (try clear hb2); (try clear hk); (try clear hi)))
                       go_ret
                       exact ⟨by first | rfl | (simp [errW_none, errW_some] <;> rfl) | (simp [*, errW_none, errW_some] <;> rfl), by repeat (first | (with_reducible first | exact HB.out | apply below_alloc | apply pw_below_drewN | apply below_drew1 | refine below_set ?_ GE113.out | refine below_set ?_ GE125.out | refine below_set ?_ GE154.out) | exact HB.out)⟩
                      ·
                       rw [if_neg c99] at H
                       have c99b0 : (t156 == t140) = false := beq_eq_false_iff_ne.mpr c99
                       have c99b1 : (t156 != t140) = true := bne_iff_ne.mpr c99
                       obtain rfl := Option.some.inj H
                       have hnb104 := NB125_113.out
                       have hnc104 := NB113_125.out
                       have hnb105 := NB125_154.out
                       have hnc105 := NB154_125.out
                       have hcz106_0 : wc.cell? ⟨gb125, 0, none⟩ = some (.int .i64 t120) := (blk_cell BK125.out 0).trans rfl
                       have hcz106_1 : wc.cell? ⟨gb125, 1, none⟩ = some (.string t121) := (blk_cell BK125.out 1).trans rfl
                       have hcz106_2 : wc.cell? ⟨gb125, 2, none⟩ = some (.slice Ao33 t141.length co33) := (blk_cell BK125.out 2).trans rfl
                       have hfz106_0 := blk_frozen BK125.out 0
                       have hfz106_1 := blk_frozen BK125.out 1
                       have hfz106_2 := blk_frozen BK125.out 2
                       go_wp2_with (first | ((with_reducible refine gate_callee (f := 16) rfl ?_); refine goesL_ (some 84) rfl rfl Tryd.func16 (by kernel_rfl) rfl #[.agg #[.int .i64 t120, .string t121, .slice Ao33 t141.length co33], .int .i64 1] rfl zjnmae ?_; (with_reducible refine (laws_heldZResult.calls kj77 t120 t121 _ _ t141 1 t156 _ ?side1 ?side2 A93.out).mono ?_); (case side1 => exact zpmfmp); (case side2 => exact zgienl); rintro e w107 ⟨rfl, hb⟩; refine ⟨_, rfl, ?_⟩; have n0_ := aa (Kd.R_below (zcaken HO_114002.out) hb); have n1_ := aa (Kd.R_below (zcaken HO_126002.out) hb); have n2_ := aa (Kd.R_below (zcaken HO_155002.out) hb); have n3_ := aa (blk_below (g := gb113) (o := .cells #[.int .i64 t108, .string t109, .slice Ao24 t110.length co24] 27 (0, 0)) (zkjhpm BK113.out) hb); have n4_ := aa (blk_below (g := gb125) (o := .cells #[.int .i64 t120, .string t121, .slice Ao33 t141.length co33] 27 (0, 0)) (zkjhpm BK125.out) hb); have n5_ := aa (blk_below (g := gb154) (o := .cells #[.int .i64 t149, .string t150, .slice Ao88 t151.length co88] 27 (0, 0)) (zkjhpm BK154.out) hb); have n6_ := aa (below_step zdhmgd hb); clear HO_114002; clear HO_126002; clear HO_155002; clear BK113; clear BK125; clear BK154; clear HB; have HO_114002 := n0_; have HO_126002 := n1_; have HO_155002 := n2_; have BK113 := n3_; have BK125 := n4_; have BK154 := n5_; have HB := n6_; clear n0_ n1_ n2_ n3_ n4_ n5_ n6_; (try clear hb); (try clear hb2); (try clear hk); (try clear hi)))
                       go_ret
                       exact ⟨by first | rfl | (simp [errW_none, errW_some] <;> rfl) | (simp [*, errW_none, errW_some] <;> rfl), by repeat (first | (with_reducible first | exact HB.out | apply below_alloc | apply pw_below_drewN | apply below_drew1 | refine below_set ?_ GE113.out | refine below_set ?_ GE125.out | refine below_set ?_ GE154.out) | exact HB.out)⟩

end Go.Proofs.YtajlnffefoeppaaDoor.Qa

/- Arguments laid open: what a value of a type holds in memory, by the print's kinds; for every type that is met here. -/
namespace Go.Proofs.YtajlnffefoeppaaDoor.Tro
open Go.ChangeShapes Go.WideShapes Go.RowKit Go.Deep Go.Proofs.YtajlnffefoeppaaDoorW.PrintWords

/-- What can be read as data of type T holds a value of this kind, of which 'good' is so. -/
def Tr {α : Type} (P : Program) (k : Kd α) (T : TypeId) (good : α → Prop) : Prop :=
  ∀ {H : Type} (enc : TypeId × Value → H) (w : World) (fuel : Nat) (cs : List Value) (x : DataW H × List MemPlace), DataW.trod enc P w 0 (fun _ => true) true fuel T cs = some x → ∃ a : α, k.K w a cs ∧ good a
theorem tr_int {P : Program} {T : TypeId} {k : IntKind} (h : P.underlying T = some (.int k)) : Tr P (Kd.int k) T (fun a => (Lit.int k a).wf = true) := by
  intro H enc w fuel cs x hx
  obtain ⟨n, rfl, _, hw⟩ := DataW.trod_int h hx
  exact ⟨n, rfl, hw⟩
theorem tr_bool {P : Program} {T : TypeId} (h : P.underlying T = some .bool) : Tr P Kd.bool T (fun _ => True) := by
  intro H enc w fuel cs x hx
  obtain ⟨b, rfl, _⟩ := DataW.trod_bool h hx
  exact ⟨b, rfl, trivial⟩
theorem tr_string {P : Program} {T : TypeId} (h : P.underlying T = some .string) : Tr P Kd.string T (fun s => s.size ≤ 9223372036854775807) := by
  intro H enc w fuel cs x hx
  obtain ⟨s, rfl, _, hs⟩ := DataW.trod_string h hx
  exact ⟨s, rfl, hs⟩
theorem choose_list {α : Type} {p : Nat → α → Prop} : ∀ n : Nat, (∀ i, i < n → ∃ a, p i a) → ∃ xs : List α, xs.length = n ∧ ∀ i a, xs[i]? = some a → p i a
  | 0, _ => ⟨[], rfl, fun i a h => by simp at h⟩
  | n + 1, h => by
    obtain ⟨xs, hl, hx⟩ := choose_list n (fun i hi => h i (by omega))
    obtain ⟨a, ha⟩ := h n (by omega)
    refine ⟨xs ++ [a], by simp [hl], fun i b hb => ?_⟩
    rcases Nat.lt_or_ge i xs.length with hi | hi
    · rw [List.getElem?_append_left hi] at hb
      exact hx i b hb
    · rw [List.getElem?_append_right hi] at hb
      have hi' : i = xs.length := by
        rcases Nat.eq_or_lt_of_le hi with e | e
        · exact e.symm
        · rw [List.getElem?_eq_none (by simp; omega)] at hb
          cases hb
      subst hi'
      rw [Nat.sub_self] at hb
      cases hb
      rw [hl]
      exact ha
theorem tr_slice {α : Type} {P : Program} {T e : TypeId} {d : Kd α} {good : α → Prop} (h : P.underlying T = some (.slice e)) (hz : d.sz = P.cellsOf e) (he : Tr P d e good) :
    Tr P (Kd.slice e d) T (fun xs => xs.length ≤ 9223372036854775807 ∧ ∀ x ∈ xs, good x) := by
  intro H enc w fuel cs x hx
  rcases open_slice h hx with ⟨rfl, _⟩ | ⟨a, len, cap, m, n, D, Pl, rfl, _, hl, hm, hmm, _, hi⟩
  · exact ⟨[], ⟨none, 0, rfl, Nat.le_refl _, rfl, Nat.zero_le _, fun h0 => absurd h0 (Nat.lt_irrefl 0)⟩, Nat.zero_le _, fun x hx => by simp at hx⟩
  · have hmc : m = cap := by simpa using hmm
    have hcap : cap ≤ 9223372036854775807 := hm
    obtain ⟨xs, hxl, hxs⟩ := choose_list (p := fun i b => (∃ c, c.length = d.sz ∧ d.K w b c ∧ ∀ j u, c[j]? = some u → w.cell? (a.add (i * d.sz + j)) = some u) ∧ good b) len (fun i hil => by
      obtain ⟨cs', hc, ht⟩ := hi i (by omega)
      obtain ⟨b, hb, hg⟩ := he enc w n cs' _ ht
      refine ⟨b, ⟨cs', d.K_len hb, hb, fun j u hu => ?_⟩, hg⟩
      obtain ⟨_, hcl, hat⟩ := World.cells?_some hc
      have hj : j < P.cellsOf e := by rw [← hcl]; exact (List.getElem?_eq_some_iff.1 hu).1
      have := hat j hj
      rw [hz, ← Go.Deep.add_add, this, hu])
    refine ⟨xs, ⟨some a, cap, by rw [hxl], by omega, rfl, by omega, fun _ => ⟨a, rfl, fun j p hp => (hxs j p hp).1⟩⟩, by omega, fun b hb => ?_⟩
    obtain ⟨i, hil, he⟩ := List.getElem_of_mem hb
    exact (hxs i b (by rw [← he]; exact List.getElem?_eq_getElem hil)).2
end Go.Proofs.YtajlnffefoeppaaDoor.Tro

-- By gp.py (wip/gen of the work's repo), a program of this workplace over the kit's print: Lean checks it.
namespace Go.Proofs.YtajlnffefoeppaaDoor.Qa
open Go.RowKit Go.Proofs.YtajlnffefoeppaaDoorW.PrintWords Go.Proofs.YtajlnffefoeppaaDoorW.PrintLast Go.Proofs.YtajlnffefoeppaaDoorW.PrintMore Go.ChangeShapes Go.WideShapes Go.Proofs.YtajlnffefoeppaaDoor.Tro
attribute [local go_sem] max2_int min2_int max_two min_two max_three min_three max_four min_four   -- for this text's walks alone
set_option linter.unusedVariables false
set_option linter.unusedSimpArgs false

def g48 (x_ : S48) : Prop := (x_.f0.size ≤ 9223372036854775807) ∧ ((Lit.int .i64 x_.f1).wf = true) ∧ ((Lit.int .i64 x_.f2).wf = true) ∧ ((Lit.int .i64 x_.f3).wf = true) ∧ ((Lit.int .i64 x_.f4).wf = true)
set_option maxRecDepth 100000 in
theorem tr48 : Tr Tryd.prog k48 48 g48 := by
  intro H enc w fuel cs x hx
  obtain ⟨ys, n, _, _, hlen, hyl, hf⟩ := DataW.trod_struct Tryd.underlying48 hx
  have hl : cs.length = 5 := hlen.trans (by kernel_rfl)
  have hy : ys.length = 5 := hyl
  clear hlen hyl hx
  match cs, hl with
  | [c0, c1, c2, c3, c4], _ =>
    have q0 : DataW.trod enc Tryd.prog w 0 (fun _ => true) true n 9 ((([c0, c1, c2, c3, c4] : List Value).drop 0).take (Tryd.prog.cellsOf 9)) = ys[0]? := hf 0 _ rfl
    rw [show Tryd.prog.cellsOf 9 = 1 from by kernel_rfl] at q0
    rw [List.getElem?_eq_getElem (show 0 < ys.length by omega)] at q0
    obtain ⟨a0, h0, g0⟩ := (tr_string Tryd.underlying9) enc w n [c0] _ q0
    have q1 : DataW.trod enc Tryd.prog w 0 (fun _ => true) true n 2 ((([c0, c1, c2, c3, c4] : List Value).drop 1).take (Tryd.prog.cellsOf 2)) = ys[1]? := hf 1 _ rfl
    rw [show Tryd.prog.cellsOf 2 = 1 from by kernel_rfl] at q1
    rw [List.getElem?_eq_getElem (show 1 < ys.length by omega)] at q1
    obtain ⟨a1, h1, g1⟩ := (tr_int Tryd.underlying2) enc w n [c1] _ q1
    have q2 : DataW.trod enc Tryd.prog w 0 (fun _ => true) true n 2 ((([c0, c1, c2, c3, c4] : List Value).drop 2).take (Tryd.prog.cellsOf 2)) = ys[2]? := hf 2 _ rfl
    rw [show Tryd.prog.cellsOf 2 = 1 from by kernel_rfl] at q2
    rw [List.getElem?_eq_getElem (show 2 < ys.length by omega)] at q2
    obtain ⟨a2, h2, g2⟩ := (tr_int Tryd.underlying2) enc w n [c2] _ q2
    have q3 : DataW.trod enc Tryd.prog w 0 (fun _ => true) true n 2 ((([c0, c1, c2, c3, c4] : List Value).drop 3).take (Tryd.prog.cellsOf 2)) = ys[3]? := hf 3 _ rfl
    rw [show Tryd.prog.cellsOf 2 = 1 from by kernel_rfl] at q3
    rw [List.getElem?_eq_getElem (show 3 < ys.length by omega)] at q3
    obtain ⟨a3, h3, g3⟩ := (tr_int Tryd.underlying2) enc w n [c3] _ q3
    have q4 : DataW.trod enc Tryd.prog w 0 (fun _ => true) true n 2 ((([c0, c1, c2, c3, c4] : List Value).drop 4).take (Tryd.prog.cellsOf 2)) = ys[4]? := hf 4 _ rfl
    rw [show Tryd.prog.cellsOf 2 = 1 from by kernel_rfl] at q4
    rw [List.getElem?_eq_getElem (show 4 < ys.length by omega)] at q4
    obtain ⟨a4, h4, g4⟩ := (tr_int Tryd.underlying2) enc w n [c4] _ q4
    exact ⟨⟨a0, a1, a2, a3, a4⟩, ⟨[c0], [c1, c2, c3, c4], rfl, h0, ⟨[c1], [c2, c3, c4], rfl, h1, ⟨[c2], [c3, c4], rfl, h2, ⟨[c3], [c4], rfl, h3, h4⟩⟩⟩⟩, ⟨g0, g1, g2, g3, g4⟩⟩
end Go.Proofs.YtajlnffefoeppaaDoor.Qa

/- Small laws of the pure side: what ends, step by step; whole numbers; lists by places. -/
namespace Go.Proofs.YtajlnffefoeppaaDoor.Aid
open Go.RowKit Go.Proofs.YtajlnffefoeppaaDoorW.PrintWords

theorem wrap_id {x : Int} (h0 : -9223372036854775808 ≤ x) (h1 : x ≤ 9223372036854775807) : wrap64 x = x := by
  unfold wrap64
  omega
theorem wrap_up {i n : Nat} (h : i < n) (hn : n ≤ 4611686018427387904) : wrap64 ((i : Int) + 1) = ((i + 1 : Nat) : Int) := by
  rw [wrap_id (by omega) (by omega)]
  omega
theorem wf_lo {x : Int} (h : (Lit.int .i64 x).wf = true) : -9223372036854775808 ≤ x ∧ x ≤ 9223372036854775807 := by
  have h' : (decide (IntKind.i64.min ≤ x) && decide (x ≤ IntKind.i64.max)) = true := h
  simp only [Bool.and_eq_true, decide_eq_true_eq] at h'
  exact h'
/-- One round, then what is known of the rest. -/
theorem ev_step {α : Type} {g : Nat → Option α} (f : Nat → Option α) {r : α} (h : ∀ k, g (k + 1) = f k) (k : Ev f r) : Ev g r := Ev.step h k
theorem ev_done {α : Type} {g : Nat → Option α} {r : α} (h : ∀ k, g (k + 1) = some r) : Ev g r := Ev.step h (Ev.now r)
theorem ev_is {α : Type} {g : Nat → Option α} {r : α} (h : ∀ k, g k = some r) : Ev g r := ⟨0, fun k _ => h k⟩
/-- A call whose answer is known, then the rest. -/
theorem ev_call {α β : Type} {g : Nat → Option α} {f : Nat → α → Option β} {a : α} {r : β} (h : Ev g a) (k : Ev (fun n => f n a) r) : Ev (fun n => (g n).bind (f n)) r := Ev.bind h k
theorem ev_cong {α : Type} {g f : Nat → Option α} {r : α} (h : ∀ k, g k = f k) (k : Ev f r) : Ev g r := Ev.congr h k
theorem rd_at {l : List Int} {i : Nat} (h : i < l.length) : rd l (i : Int) = l[i] := by
  unfold rd
  rw [Int.toNat_natCast, List.getD_eq_getElem?_getD, List.getElem?_eq_getElem h]
  rfl
theorem drop_at {α : Type} {l : List α} {i : Nat} (h : i < l.length) : l.drop i = l[i] :: l.drop (i + 1) := List.drop_eq_getElem_cons h
theorem drop_end {α : Type} {l : List α} {i : Nat} (h : l.length ≤ i) : l.drop i = [] := List.drop_eq_nil_of_le h
theorem rd_set_at {l : List Int} {i : Nat} {v : Int} (h : i < l.length) : rd (l.set i v) (i : Int) = v := by
  rw [rd_at (by simpa using h)]
  simp
theorem rdOf_at {α : Type} {z : α} {l : List α} {i : Nat} (h : i < l.length) : rdOf z l (i : Int) = l[i] := by
  unfold rdOf
  rw [Int.toNat_natCast, List.getD_eq_getElem?_getD, List.getElem?_eq_getElem h]
  rfl
theorem rdOf_set_at {α : Type} {z : α} {l : List α} {i : Nat} {v : α} (h : i < l.length) : rdOf z (l.set i v) (i : Int) = v := by
  rw [rdOf_at (by simpa using h)]
  simp
theorem take_set_snoc {α : Type} {l : List α} {i : Nat} {v : α} (h : i < l.length) : (l.set i v).take (i + 1) = l.take i ++ [v] := by
  rw [List.take_succ_eq_append_getElem (by simpa using h), List.take_set_of_le (Nat.le_refl i)]
  simp
theorem take_set_next {α : Type} {m L : List α} {i : Nat} {v : α} (h : i < m.length) (h' : i < L.length) (ht : m.take i = L.take i) (hv : L[i] = v) : (m.set i v).take (i + 1) = L.take (i + 1) := by
  rw [take_set_snoc h, List.take_succ_eq_append_getElem h', ht, hv]
theorem wr1_ (m : Int) (h0 : -9223372036854775808 ≤ m + 1) (h1 : m + 1 ≤ 9223372036854775807) : wrap64 (m + 1) = m + 1 := wrap_id h0 h1
theorem wrn_ (m j j1 : Int) (e : j + 1 = j1) (h0 : -9223372036854775808 ≤ m + j + 1) (h1 : m + j + 1 ≤ 9223372036854775807) : wrap64 (m + j + 1) = m + j1 := by
  rw [wrap_id h0 h1]
  omega
theorem size_strOfNums (xs : List Int) : (strOfNums xs).size = xs.length := by
  simp [strOfNums, ByteArray.size]
theorem tdiv_lt {x : Int} (h : 0 < x) : 0 ≤ Int.tdiv x 10 ∧ Int.tdiv x 10 + 1 ≤ x := by
  have : Int.tdiv x 10 = x / 10 := Int.tdiv_eq_ediv_of_nonneg (by omega)
  rw [this]
  omega
/-- Where what is so stands ahead of what is not: how many are so is the place. -/
theorem take_pos {α : Type} (p : α → Bool) (l : List α) (hm : l.Pairwise (fun x y => p y = true → p x = true)) : ∀ j (hj : j < l.length), p l[j] = true ↔ j < (l.takeWhile p).length := by
  induction l with
  | nil => intro j hj; simp at hj
  | cons x l ih =>
    intro j hj
    obtain ⟨h1, h2⟩ := List.pairwise_cons.1 hm
    cases hx : p x with
    | true =>
      rw [List.takeWhile_cons_of_pos hx]
      cases j with
      | zero => simp [hx]
      | succ j => simpa using ih h2 j (by simpa using hj)
    | false =>
      rw [List.takeWhile_cons_of_neg (by simp [hx])]
      cases j with
      | zero => simp [hx]
      | succ j =>
        have hj' : j < l.length := by simpa using hj
        have : p l[j] = true → False := fun h => by
          have := h1 l[j] (List.getElem_mem hj') h
          rw [hx] at this
          cases this
        simp
        exact Bool.eq_false_iff.2 this
theorem take_pos_le {α : Type} (p : α → Bool) (l : List α) : (l.takeWhile p).length ≤ l.length := (List.takeWhile_prefix p).length_le
theorem mid_eq {a b : Nat} (h : a + b ≤ 4611686018427387904) : wrap64 ((IntKind.u64.wrap (wrap64 ((a : Int) + (b : Int)))) / 2) = ((((a + b) / 2 : Nat)) : Int) := by
  have e : wrap64 ((a : Int) + (b : Int)) = ((a + b : Nat) : Int) := by rw [wrap_id (by omega) (by omega)]; omega
  have e2 : IntKind.u64.wrap (((a + b : Nat)) : Int) = ((a + b : Nat) : Int) := by
    have : IntKind.u64.wrap (((a + b : Nat)) : Int) = (((a + b : Nat)) : Int) % 18446744073709551616 := rfl
    rw [this]
    omega
  rw [e, e2, wrap_id (by omega) (by omega)]
  omega
end Go.Proofs.YtajlnffefoeppaaDoor.Aid

-- By gp.py (wip/gen of the work's repo), a program of this workplace over the kit's print: Lean checks it.
namespace Go.Proofs.YtajlnffefoeppaaDoor.Qa
open Go.RowKit Go.Proofs.YtajlnffefoeppaaDoorW.PrintWords Go.Proofs.YtajlnffefoeppaaDoorW.PrintLast Go.Proofs.YtajlnffefoeppaaDoor.Aid
set_option linter.unusedVariables false
set_option linter.unusedSimpArgs false

theorem rd_T48_at {l : List (S48)} {i : Nat} (h : i < l.length) : rd_T48 l (i : Int) = l[i] := by
  unfold rd_T48
  rw [Int.toNat_natCast, List.getD_eq_getElem?_getD, List.getElem?_eq_getElem h]
  rfl
theorem rd_T48_set {l : List (S48)} {i : Nat} {v : S48} (h : i < l.length) : rd_T48 (l.set i v) (i : Int) = v := by
  rw [rd_T48_at (by simpa using h)]
  simp
theorem rd_T44_at {l : List (S44)} {i : Nat} (h : i < l.length) : rd_T44 l (i : Int) = l[i] := by
  unfold rd_T44
  rw [Int.toNat_natCast, List.getD_eq_getElem?_getD, List.getElem?_eq_getElem h]
  rfl
theorem rd_T44_set {l : List (S44)} {i : Nat} {v : S44} (h : i < l.length) : rd_T44 (l.set i v) (i : Int) = v := by
  rw [rd_T44_at (by simpa using h)]
  simp
end Go.Proofs.YtajlnffefoeppaaDoor.Qa

-- By gp.py (wip/gen of the work's repo), a program of this workplace over the kit's print: Lean checks it.
namespace Go.Proofs.YtajlnffefoeppaaDoor.Qa
open Go.RowKit Go.Proofs.YtajlnffefoeppaaDoorW.PrintWords Go.Proofs.YtajlnffefoeppaaDoorW.PrintLast Go.Proofs.YtajlnffefoeppaaDoor.Aid
set_option linter.unusedVariables false
set_option linter.unusedSimpArgs false

theorem laws_toInt64S.l0_ev (l : List Int) (hl : l.length ≤ 4611686018427387904) (d : Nat) : ∀ (i : Nat) (m : List Int), i + d = l.length → m.length = l.length → m.take i = l.take i → Ev (fun k => laws_toInt64S.l0 k l m (i : Int)) l := by
  induction d with
  | zero =>
    intro i m h hm ht
    have e : m = l := by rw [List.take_of_length_le (by omega), List.take_of_length_le (by omega)] at ht; exact ht
    exact ev_done fun k => by simp only [laws_toInt64S.l0]; rw [if_neg (by omega), e]
  | succ d ih =>
    intro i m h hm ht
    have hi : i < l.length := by omega
    have hi' : i < l.length := by omega
    have hv : l[i] = l[i] := by rfl
    refine ev_step (fun k => laws_toInt64S.l0 k l (m.set i l[i]) ((i + 1 : Nat) : Int)) (fun k => ?_) (ih (i + 1) (m.set i l[i]) (by omega) (by rw [List.length_set]; exact hm) ?_)
    · simp only [laws_toInt64S.l0]; rw [if_pos (by omega), if_pos (by omega), rd_at hi]; rw [if_pos (by omega), wrap_up hi hl, Int.toNat_natCast]
    · exact take_set_next (by omega) hi' ht hv
theorem laws_toInt64S.ev (l : List Int) (hl : l.length ≤ 1048576) : Ev (fun k => laws_toInt64S.f k l) l := by
  unfold laws_toInt64S.f
  refine ev_cong (f := fun k => laws_toInt64S.l0 k l (List.replicate l.length 0) ((0 : Nat) : Int)) (fun k => ?_) (laws_toInt64S.l0_ev l (by omega) l.length 0 _ (by omega) (by simp) (by simp))
  rw [if_pos (by omega), if_pos (by rw [Int.toNat_natCast]; omega), Int.toNat_natCast]; rfl
theorem laws_eqInt64S.l0_ev (l : List Int) (hl : l.length ≤ 4611686018427387904) (d : Nat) : ∀ (i : Nat), i + d = l.length → Ev (fun k => laws_eqInt64S.l0 k l l (i : Int)) true := by
  induction d with
  | zero => exact fun i h => ev_done fun k => by simp only [laws_eqInt64S.l0]; rw [if_neg (by omega)]
  | succ d ih =>
    intro i h
    have hi : i < l.length := by omega
    refine ev_step (fun k => laws_eqInt64S.l0 k l l ((i + 1 : Nat) : Int)) (fun k => ?_) (ih (i + 1) (by omega))
    simp only [laws_eqInt64S.l0]; rw [if_pos (by omega), if_pos (by omega), if_pos (by omega), if_pos trivial, wrap_up hi hl]
theorem laws_eqInt64S.ev (l : List Int) (hl : l.length ≤ 4611686018427387904) : Ev (fun k => laws_eqInt64S.f k l l) true := by
  unfold laws_eqInt64S.f
  exact ev_cong (fun k => if_pos rfl) (laws_eqInt64S.l0_ev l hl l.length 0 (by omega))
end Go.Proofs.YtajlnffefoeppaaDoor.Qa

-- By gp.py (wip/gen of the work's repo), a program of this workplace over the kit's print: Lean checks it.
namespace Go.Proofs.YtajlnffefoeppaaDoor.Qa
open Go.RowKit Go.Proofs.YtajlnffefoeppaaDoorW.PrintWords Go.Proofs.YtajlnffefoeppaaDoorW.PrintLast Go.Proofs.YtajlnffefoeppaaDoor.Aid
set_option linter.unusedVariables false
set_option linter.unusedSimpArgs false

def cvZnode (x : S48) : S44 := (⟨x.f0, x.f1, x.f2, x.f3, x.f4⟩ : S44)
theorem laws_toZnode.is (x : S48) : laws_toZnode.f x.f0 x.f1 x.f2 x.f3 x.f4 = some (x.f0, x.f1, x.f2, x.f3, x.f4) := by
  rfl
theorem laws_eqZnode.is (x : S44) : laws_eqZnode.f x.f0 x.f1 x.f2 x.f3 x.f4 x.f0 x.f1 x.f2 x.f3 x.f4 = some true := by
  simp [laws_eqZnode.f]
theorem laws_szZnode.is (x : S48) (a : Int) (hx : x.f0.size ≤ 9223372036854775807) (h0 : 0 ≤ a) (h1 : a ≤ 1048576) : laws_szZnode.f x.f0 x.f1 x.f2 x.f3 x.f4 a = some (if a - (x.f0.size : Int) < 0 then -1 else a - (x.f0.size : Int)) := by
  unfold laws_szZnode.f
  rw [wrap_id (by omega) (by omega)]
  by_cases h : a - (x.f0.size : Int) < 0
  · rw [if_pos h, if_pos h]
  · rw [if_neg h, if_neg h]
theorem laws_szZnodeS.l0_ev (l : List (S48)) (hl : l.length ≤ 4611686018427387904) (hx : ∀ x ∈ l, x.f0.size ≤ 9223372036854775807) (d : Nat) : ∀ (i : Nat) (a : Int), i + d = l.length → 0 ≤ a → a ≤ 1048576 → ∃ r : Int, Ev (fun k => laws_szZnodeS.l0 k l a (i : Int)) r ∧ (0 ≤ r → r ≤ a ∧ ∀ x ∈ l.drop i, (x.f0.size : Int) ≤ a) := by
  induction d with
  | zero =>
    intro i a h h0 h1
    refine ⟨a, ev_done fun k => ?_, fun _ => ⟨Int.le_refl _, ?_⟩⟩
    · simp only [laws_szZnodeS.l0]; rw [if_neg (by omega)]
    · rw [drop_end (by omega)]; intro x hx; cases hx
  | succ d ih =>
    intro i a h h0 h1
    have hi : i < l.length := by omega
    have hxi := hx l[i] (List.getElem_mem hi)
    by_cases hn : a - (l[i].f0.size : Int) < 0
    · refine ⟨-1, ev_done fun k => ?_, by omega⟩
      simp only [laws_szZnodeS.l0]; rw [if_pos (by omega), if_pos (by omega), rd_T48_at hi, laws_szZnode.is _ _ hxi h0 h1, if_pos hn]; simp only [Option.bind_some]; rw [if_pos (by omega)]
    · obtain ⟨r, hr, hq⟩ := ih (i + 1) (a - (l[i].f0.size : Int)) (by omega) (by omega) (by omega)
      refine ⟨r, ev_step (fun k => laws_szZnodeS.l0 k l (a - (l[i].f0.size : Int)) ((i + 1 : Nat) : Int)) (fun k => ?_) hr, fun hr0 => ?_⟩
      · simp only [laws_szZnodeS.l0]; rw [if_pos (by omega), if_pos (by omega), rd_T48_at hi, laws_szZnode.is _ _ hxi h0 h1, if_neg hn]; simp only [Option.bind_some]; rw [if_neg (by omega), wrap_up hi hl]
      · obtain ⟨h2, h3⟩ := hq hr0
        refine ⟨by omega, fun x hx' => ?_⟩
        rw [drop_at hi] at hx'
        rcases List.mem_cons.1 hx' with rfl | hx'
        · omega
        · have := h3 x hx'; omega
theorem laws_szZnodeS.ev (l : List (S48)) (a : Int) (hl : l.length ≤ 9223372036854775807) (hx : ∀ x ∈ l, x.f0.size ≤ 9223372036854775807) (h0 : 0 ≤ a) (h1 : a ≤ 1048576) : ∃ r : Int, Ev (fun k => laws_szZnodeS.f k l a) r ∧ (0 ≤ r → r ≤ a ∧ (l.length : Int) ≤ a ∧ ∀ x ∈ l, (x.f0.size : Int) ≤ a) := by
  unfold laws_szZnodeS.f
  by_cases h : a - (l.length : Int) < 0
  · refine ⟨-1, ev_is fun k => ?_, by omega⟩
    rw [wrap_id (by omega) (by omega), if_pos h]
  · obtain ⟨r, hr, hq⟩ := laws_szZnodeS.l0_ev l (by omega) hx l.length 0 (a - (l.length : Int)) (by omega) (by omega) (by omega)
    refine ⟨r, ev_cong (fun k => ?_) hr, fun hr0 => ?_⟩
    · rw [wrap_id (by omega) (by omega), if_neg h]; rfl
    · obtain ⟨h2, h3⟩ := hq hr0
      rw [List.drop_zero] at h3
      exact ⟨by omega, by omega, fun x hx' => by have := h3 x hx'; omega⟩
theorem laws_toZnodeS.l0_ev (l : List (S48)) (hl : l.length ≤ 4611686018427387904) (d : Nat) : ∀ (i : Nat) (m : List (S44)), i + d = l.length → m.length = l.length → m.take i = (l.map cvZnode).take i → Ev (fun k => laws_toZnodeS.l0 k l m (i : Int)) (l.map cvZnode) := by
  induction d with
  | zero =>
    intro i m h hm ht
    have e : m = (l.map cvZnode) := by rw [List.take_of_length_le (by omega), List.take_of_length_le (by rw [List.length_map]; omega)] at ht; exact ht
    exact ev_done fun k => by simp only [laws_toZnodeS.l0]; rw [if_neg (by omega), e]
  | succ d ih =>
    intro i m h hm ht
    have hi : i < l.length := by omega
    have hi' : i < (l.map cvZnode).length := by rw [List.length_map]; omega
    have hv : (l.map cvZnode)[i] = (cvZnode l[i]) := by rw [List.getElem_map]
    refine ev_step (fun k => laws_toZnodeS.l0 k l (m.set i (cvZnode l[i])) ((i + 1 : Nat) : Int)) (fun k => ?_) (ih (i + 1) (m.set i (cvZnode l[i])) (by omega) (by rw [List.length_set]; exact hm) ?_)
    · simp only [laws_toZnodeS.l0]; rw [if_pos (by omega), if_pos (by omega), rd_T48_at hi, laws_toZnode.is]; simp only [Option.bind_some]; rw [if_pos (by omega), wrap_up hi hl, Int.toNat_natCast]; rfl
    · exact take_set_next (by omega) hi' ht hv
theorem laws_toZnodeS.ev (l : List (S48)) (hl : l.length ≤ 1048576) : Ev (fun k => laws_toZnodeS.f k l) (l.map cvZnode) := by
  unfold laws_toZnodeS.f
  refine ev_cong (f := fun k => laws_toZnodeS.l0 k l (List.replicate l.length z44) ((0 : Nat) : Int)) (fun k => ?_) (laws_toZnodeS.l0_ev l (by omega) l.length 0 _ (by omega) (by simp) (by simp))
  rw [if_pos (by omega), if_pos (by rw [Int.toNat_natCast]; omega), Int.toNat_natCast]; rfl
theorem laws_eqZnodeS.l0_ev (l : List (S44)) (hl : l.length ≤ 4611686018427387904) (d : Nat) : ∀ (i : Nat), i + d = l.length → Ev (fun k => laws_eqZnodeS.l0 k l l (i : Int)) true := by
  induction d with
  | zero => exact fun i h => ev_done fun k => by simp only [laws_eqZnodeS.l0]; rw [if_neg (by omega)]
  | succ d ih =>
    intro i h
    have hi : i < l.length := by omega
    refine ev_step (fun k => laws_eqZnodeS.l0 k l l ((i + 1 : Nat) : Int)) (fun k => ?_) (ih (i + 1) (by omega))
    simp only [laws_eqZnodeS.l0]; rw [if_pos (by omega), if_pos (by omega), if_pos (by omega), laws_eqZnode.is, Option.bind_some, if_pos rfl, wrap_up hi hl]
theorem laws_eqZnodeS.ev (l : List (S44)) (hl : l.length ≤ 4611686018427387904) : Ev (fun k => laws_eqZnodeS.f k l l) true := by
  unfold laws_eqZnodeS.f
  exact ev_cong (fun k => if_pos rfl) (laws_eqZnodeS.l0_ev l hl l.length 0 (by omega))
end Go.Proofs.YtajlnffefoeppaaDoor.Qa

-- By gp.py (wip/gen of the work's repo), a program of this workplace over the kit's print: Lean checks it.
namespace Go.Proofs.YtajlnffefoeppaaDoor.Qa
open Go.RowKit Go.Proofs.YtajlnffefoeppaaDoorW.PrintWords Go.Proofs.YtajlnffefoeppaaDoorW.PrintLast Go.Proofs.YtajlnffefoeppaaDoor.Aid
set_option linter.unusedVariables false
set_option linter.unusedSimpArgs false

theorem markText_l0 (d : Nat) : ∀ (x : Int) (s : ByteArray), 0 ≤ x → x ≤ d → (s.size : Int) + x ≤ 1152921504606846976 → ∃ t, Ev (fun k => laws_markText.l0 k x s) t := by
  induction d with
  | zero =>
    intro x s h0 h1 hs
    refine ⟨(⟨#[109]⟩ : ByteArray) ++ s, ev_done fun k => ?_⟩
    simp only [laws_markText.l0]; rw [if_neg (by omega), if_pos (by omega)]
  | succ d ih =>
    intro x s h0 h1 hs
    by_cases hx : x > 0
    · have hd := tdiv_lt hx
      obtain ⟨t, ht⟩ := ih (Int.tdiv x 10) (strOfNums [(wrap64 (48 + (Int.tmod x 10))) % 256] ++ s) hd.1 (by omega) (by rw [ByteArray.size_append, size_strOfNums]; simp; omega)
      refine ⟨t, ev_step (fun k => laws_markText.l0 k (Int.tdiv x 10) (strOfNums [(wrap64 (48 + (Int.tmod x 10))) % 256] ++ s)) (fun k => ?_) ht⟩
      simp only [laws_markText.l0]; rw [if_pos hx]; simp only [Option.bind_some]; rw [if_pos (by rw [size_strOfNums]; simp; omega), wrap_id (by omega) (by omega)]
    · refine ⟨(⟨#[109]⟩ : ByteArray) ++ s, ev_done fun k => ?_⟩
      simp only [laws_markText.l0]; rw [if_neg hx, if_pos (by omega)]
theorem markText_ex (m : Int) (h0 : 0 ≤ m) (h1 : m ≤ 1152921504606846976) : ∃ t, Ev (fun k => laws_markText.f k m) t := by
  unfold laws_markText.f
  by_cases h : m ≤ 0
  · exact ⟨_, ev_is fun k => if_pos h⟩
  · obtain ⟨t, ht⟩ := markText_l0 m.toNat m (⟨#[]⟩ : ByteArray) h0 (by omega) (by simp [ByteArray.size]; omega)
    exact ⟨t, ev_cong (fun k => if_neg h) ht⟩
open Classical in
/-- The text of a count. -/
noncomputable def mkText (m : Int) : ByteArray := if h : ∃ t, Ev (fun k => laws_markText.f k m) t then h.choose else ⟨#[]⟩
theorem mkText_ev (m : Int) (h0 : 0 ≤ m) (h1 : m ≤ 1152921504606846976) : Ev (fun k => laws_markText.f k m) (mkText m) := by
  have h := markText_ex m h0 h1
  unfold mkText
  rw [dif_pos h]
  exact h.choose_spec
end Go.Proofs.YtajlnffefoeppaaDoor.Qa

-- By gp.py (wip/gen of the work's repo), a program of this workplace over the kit's print: Lean checks it.
namespace Go.Proofs.YtajlnffefoeppaaDoor.Qa
open Go.RowKit Go.Proofs.YtajlnffefoeppaaDoorW.PrintWords Go.Proofs.YtajlnffefoeppaaDoorW.PrintLast Go.Proofs.YtajlnffefoeppaaDoor.Aid
set_option linter.unusedVariables false
set_option linter.unusedSimpArgs false

noncomputable def mkZnodeS (m : Int) : S44 := (⟨(mkText m), (m + 1), (m + 2), (m + 3), (m + 4)⟩ : S44)
noncomputable def rowZnodeS : Nat → Int → List (S44)
  | 0, _ => []
  | d + 1, m => mkZnodeS m :: rowZnodeS d (m + 5)
theorem laws_markZnodeS.l0_ev (d : Nat) : ∀ (i : Nat) (l : List (S44)) (m : Int), i + d = l.length → l.length ≤ 1048576000 → 0 ≤ m → m + 5 * d ≤ 1152921504606846976 → Ev (fun k => laws_markZnodeS.l0 k l m (i : Int)) (m + 5 * d, l.take i ++ rowZnodeS d m) := by
  induction d with
  | zero =>
    intro i l m h hl h0 hb
    refine ev_done fun k => ?_
    simp only [laws_markZnodeS.l0]; rw [if_neg (by omega), List.take_of_length_le (by omega)]; simp [rowZnodeS]
  | succ d ih =>
    intro i l m h hl h0 hb
    have hi : i < l.length := by omega
    have e1 : m + 5 * ((d + 1 : Nat) : Int) = (m + 5) + 5 * (d : Int) := by omega
    have e2 : l.take i ++ rowZnodeS (d + 1) m = (l.set i (mkZnodeS m)).take (i + 1) ++ rowZnodeS d (m + 5) := by
      rw [take_set_snoc hi, List.append_assoc]; rfl
    rw [e1, e2]
    have IH := ih (i + 1) (l.set i (mkZnodeS m)) (m + 5) (by rw [List.length_set]; omega) (by rw [List.length_set]; exact hl) (by omega) (by omega)
    have hil : (i : Int) < (l.length : Int) := by omega
    have h0i : 0 ≤ (i : Int) := Int.natCast_nonneg i
    refine ev_step (fun k => (laws_markText.f k m).bind fun t => laws_markZnodeS.l0 k (l.set i ((⟨t, (m + 1), (m + 2), (m + 3), (m + 4)⟩ : S44))) (m + 5) ((i + 1 : Nat) : Int)) (fun k => ?_) (ev_call (mkText_ev m (by omega) (by omega)) IH)
    simp only [laws_markZnodeS.l0, wr1_ m (by omega) (by omega), wrn_ m 1 2 rfl (by omega) (by omega), wrn_ m 2 3 rfl (by omega) (by omega), wrn_ m 3 4 rfl (by omega) (by omega), wrn_ m 4 5 rfl (by omega) (by omega), Int.toNat_natCast, Option.bind_some, if_pos hil, if_pos h0i, wrap_up hi (show l.length ≤ 4611686018427387904 by omega), List.set_set, rd_T44_set hi]
theorem laws_markZnodeS.ev (l : List (S44)) (m : Int) (hl : l.length ≤ 1048576000) (h0 : 0 ≤ m) (hb : m ≤ 1000000000000) : Ev (fun k => laws_markZnodeS.f k l m) (m + 5 * l.length, rowZnodeS l.length m) := by
  have h := laws_markZnodeS.l0_ev l.length 0 l m (by omega) hl h0 (by omega)
  rw [List.take_zero, List.nil_append] at h
  exact h
theorem laws_heldZnodeS.l0_ev (d : Nat) : ∀ (i : Nat) (l : List (S44)) (m : Int), i + d = l.length → l.length ≤ 1048576000 → l.drop i = rowZnodeS d m → 0 ≤ m → m + 5 * d ≤ 1152921504606846976 → Ev (fun k => laws_heldZnodeS.l0 k l m (i : Int)) (m + 5 * d) := by
  induction d with
  | zero =>
    intro i l m h hl hr h0 hb
    refine ev_done fun k => ?_
    simp only [laws_heldZnodeS.l0]; rw [if_neg (by omega)]; simp
  | succ d ih =>
    intro i l m h hl hr h0 hb
    have hi : i < l.length := by omega
    have e1 : m + 5 * ((d + 1 : Nat) : Int) = (m + 5) + 5 * (d : Int) := by omega
    rw [drop_at hi] at hr
    obtain ⟨hx, hr⟩ := List.cons.inj hr
    rw [e1]
    have IH := ih (i + 1) l (m + 5) (by omega) hl hr (by omega) (by omega)
    have hil : (i : Int) < (l.length : Int) := by omega
    have h0i : 0 ≤ (i : Int) := Int.natCast_nonneg i
    refine ev_step (fun k => (laws_markText.f k m).bind fun t => if (mkText m).toList = t.toList then laws_heldZnodeS.l0 k l (m + 5) ((i + 1 : Nat) : Int) else some (-1)) (fun k => ?_) (ev_call (mkText_ev m (by omega) (by omega)) (ev_cong (fun k => if_pos rfl) IH))
    simp only [laws_heldZnodeS.l0, wr1_ m (by omega) (by omega), wrn_ m 1 2 rfl (by omega) (by omega), wrn_ m 2 3 rfl (by omega) (by omega), wrn_ m 3 4 rfl (by omega) (by omega), wrn_ m 4 5 rfl (by omega) (by omega), Int.toNat_natCast, Option.bind_some, if_pos hil, if_pos h0i, wrap_up hi (show l.length ≤ 4611686018427387904 by omega), rd_T44_at hi, hx, mkZnodeS]; simp
theorem laws_heldZnodeS.ev (n : Nat) (m : Int) (hl : n ≤ 1048576000) (h0 : 0 ≤ m) (hb : m ≤ 1000000000000) : Ev (fun k => laws_heldZnodeS.f k (rowZnodeS n m) m) (m + 5 * n) := by
  have hn : ∀ (n : Nat) (m : Int), (rowZnodeS n m).length = n := by
    intro n
    induction n with
    | zero => intro m; rfl
    | succ n ih => intro m; simp [rowZnodeS, ih]
  exact laws_heldZnodeS.l0_ev n 0 (rowZnodeS n m) m (by rw [hn]; omega) (by rw [hn]; exact hl) (by rw [List.drop_zero]) h0 (by omega)
end Go.Proofs.YtajlnffefoeppaaDoor.Qa

/- A number within bounds, by the program and by the reference. -/
namespace Go.Proofs.YtajlnffefoeppaaDoor.Pure
open Go.RowKit Go.Proofs.YtajlnffefoeppaaDoor.Qa Go.Proofs.YtajlnffefoeppaaDoorW.PrintWords Go.Proofs.YtajlnffefoeppaaDoorW.PrintLast Go.Proofs.YtajlnffefoeppaaDoor.Aid
theorem spec_l1In_is (a lo hi : Int) : spec_l1In.f a lo hi = some (decide (lo ≤ a ∧ a ≤ hi)) := by
  unfold spec_l1In.f
  by_cases h : lo ≤ a
  · rw [if_pos h]; simp [h]
  · rw [if_neg h]; simp [h]
theorem impl_within_is (a lo hi : Int) : impl_within.f a lo hi = some (decide (lo ≤ a ∧ a ≤ hi)) := by
  unfold impl_within.f
  by_cases h : lo ≤ a
  · rw [if_pos h]; simp [h]
  · rw [if_neg h]; simp [h]
end Go.Proofs.YtajlnffefoeppaaDoor.Pure

/- Names: what is one, by the program and by the reference: the same, for every text. -/
namespace Go.Proofs.YtajlnffefoeppaaDoor.Pure
open Go.RowKit Go.Proofs.YtajlnffefoeppaaDoor.Qa Go.Proofs.YtajlnffefoeppaaDoorW.PrintWords Go.Proofs.YtajlnffefoeppaaDoorW.PrintLast Go.Proofs.YtajlnffefoeppaaDoor.Aid

theorem bt_at {s : ByteArray} {i : Nat} (h : i < s.data.toList.length) : bt s (i : Int) = ((s.data.toList[i]).toNat : Int) := by
  have h' : (i : Int).toNat < s.size := by rw [Int.toNat_natCast]; exact h
  unfold bt
  rw [dif_pos h']
  rfl
theorem size_list (s : ByteArray) : s.size = s.data.toList.length := rfl
/-- A sign of a name. -/
def okU (c : UInt8) : Bool := (decide (97 ≤ c.toNat) && decide (c.toNat ≤ 122)) || (decide (48 ≤ c.toNat) && decide (c.toNat ≤ 57))
def nameB (s : ByteArray) : Bool := s.data.toList.all okU && decide (1 ≤ (s.size : Int) ∧ (s.size : Int) ≤ 8)
theorem okU_true {c : UInt8} (h : okU c = true) : (97 ≤ (c.toNat : Int) ∧ (c.toNat : Int) ≤ 122) ∨ (48 ≤ (c.toNat : Int) ∧ (c.toNat : Int) ≤ 57) := by
  unfold okU at h
  simp only [Bool.or_eq_true, Bool.and_eq_true, decide_eq_true_eq] at h
  omega
theorem okU_false {c : UInt8} (h : okU c = false) : ¬ ((97 ≤ (c.toNat : Int) ∧ (c.toNat : Int) ≤ 122) ∨ (48 ≤ (c.toNat : Int) ∧ (c.toNat : Int) ≤ 57)) := by
  intro g
  have : okU c = true := by
    unfold okU
    simp only [Bool.or_eq_true, Bool.and_eq_true, decide_eq_true_eq]
    omega
  rw [h] at this
  cases this
theorem name_spec_l0 (s : ByteArray) (hl : s.size ≤ 4611686018427387904) (d : Nat) : ∀ (i : Nat), i + d = s.size → Ev (fun k => spec_l1Name.l0 k s (i : Int)) ((s.data.toList.drop i).all okU && decide (1 ≤ (s.size : Int) ∧ (s.size : Int) ≤ 8)) := by
  have hs := size_list s
  induction d with
  | zero =>
    intro i h
    rw [drop_end (by omega)]
    exact ev_done fun k => by simp only [spec_l1Name.l0]; rw [if_neg (by omega), spec_l1In_is]; rfl
  | succ d ih =>
    intro i h
    have hi : i < s.data.toList.length := by omega
    rw [drop_at hi, List.all_cons]
    cases c : okU s.data.toList[i] with
    | true =>
      have hc := okU_true c
      rw [Bool.true_and]
      refine ev_step (fun k => spec_l1Name.l0 k s ((i + 1 : Nat) : Int)) (fun k => ?_) (ih (i + 1) (by omega))
      simp only [spec_l1Name.l0]; rw [if_pos (by omega), if_pos (by omega), bt_at hi, wrap_up hi (by omega)]
      by_cases h1 : ((s.data.toList[i]).toNat : Int) < 97
      · rw [if_pos h1, if_neg (by omega), if_neg (by omega)]
      · rw [if_neg h1, if_neg (by omega)]
    | false =>
      have hc := okU_false c
      rw [Bool.false_and, Bool.false_and]
      refine ev_done fun k => ?_
      simp only [spec_l1Name.l0]; rw [if_pos (by omega), if_pos (by omega), bt_at hi]
      by_cases h1 : ((s.data.toList[i]).toNat : Int) < 97
      · rw [if_pos h1]
        by_cases h2 : ((s.data.toList[i]).toNat : Int) < 48
        · rw [if_pos h2]
        · rw [if_neg h2, if_pos (by omega)]
      · rw [if_neg h1, if_pos (by omega), if_neg (by omega), if_pos (by omega)]
theorem name_spec (s : ByteArray) (hl : s.size ≤ 4611686018427387904) : Ev (fun k => spec_l1Name.f k s) (nameB s) := by
  have h := name_spec_l0 s hl s.size 0 (by omega)
  rw [List.drop_zero] at h
  exact h
theorem name_impl_l0 (s : ByteArray) (hl : s.size ≤ 4611686018427387904) (d : Nat) : ∀ (i : Nat), i + d = s.size → Ev (fun k => impl_isName.l0 k s (s.size : Int) (i : Int)) ((s.data.toList.drop i).all okU && decide (1 ≤ (s.size : Int) ∧ (s.size : Int) ≤ 8)) := by
  have hs := size_list s
  induction d with
  | zero =>
    intro i h
    rw [drop_end (by omega)]
    exact ev_done fun k => by simp only [impl_isName.l0]; rw [if_neg (by omega), impl_within_is]; rfl
  | succ d ih =>
    intro i h
    have hi : i < s.data.toList.length := by omega
    rw [drop_at hi, List.all_cons]
    cases c : okU s.data.toList[i] with
    | true =>
      have hc := okU_true c
      rw [Bool.true_and]
      refine ev_step (fun k => impl_isName.l0 k s (s.size : Int) ((i + 1 : Nat) : Int)) (fun k => ?_) (ih (i + 1) (by omega))
      simp only [impl_isName.l0]; rw [if_pos (by omega), if_pos (by omega), if_pos (by omega), bt_at hi, wrap_up hi (by omega)]
      by_cases h1 : ((s.data.toList[i]).toNat : Int) < 97
      · rw [if_pos h1, if_neg (by omega), if_neg (by omega)]
      · rw [if_neg h1, if_neg (by omega)]
    | false =>
      have hc := okU_false c
      rw [Bool.false_and, Bool.false_and]
      refine ev_done fun k => ?_
      simp only [impl_isName.l0]; rw [if_pos (by omega), if_pos (by omega), if_pos (by omega), bt_at hi]
      by_cases h1 : ((s.data.toList[i]).toNat : Int) < 97
      · rw [if_pos h1]
        by_cases h2 : ((s.data.toList[i]).toNat : Int) < 48
        · rw [if_pos h2]
        · rw [if_neg h2, if_pos (by omega)]
      · rw [if_neg h1, if_pos (by omega), if_neg (by omega), if_pos (by omega)]
theorem name_impl (s : ByteArray) (hl : s.size ≤ 4611686018427387904) : Ev (fun k => impl_isName.f k s) (nameB s) := by
  have h := name_impl_l0 s hl s.size 0 (by omega)
  rw [List.drop_zero] at h
  exact h
end Go.Proofs.YtajlnffefoeppaaDoor.Pure

/- Paths: a text cut at the marks, by the program (strings.Split) and by the reference: the same; what is wrong with a path: the same, for every text. -/
namespace Go.Proofs.YtajlnffefoeppaaDoor.Pure
open Go.RowKit Go.Proofs.YtajlnffefoeppaaDoor.Qa Go.Proofs.YtajlnffefoeppaaDoorW.PrintWords Go.Proofs.YtajlnffefoeppaaDoorW.PrintLast Go.Proofs.YtajlnffefoeppaaDoor.Aid

def mkB (l : List UInt8) : ByteArray := ⟨⟨l⟩⟩
theorem eq_mk {t : ByteArray} {l : List UInt8} (h : t.data.toList = l) : t = mkB l := by subst h; rfl
theorem ext_list (s : ByteArray) (a b : Nat) : (s.extract a b).data.toList = (s.data.toList.drop a).take (b - a) := by
  rw [ByteArray.data_extract, Array.toList_extract]
theorem ext_mk (s : ByteArray) (a b : Nat) : s.extract a b = mkB ((s.data.toList.drop a).take (b - a)) := eq_mk (ext_list s a b)
theorem tl (s : ByteArray) : s.toList = s.data.toList := ByteArray.toList_eq s
/-- The pieces of a text between the marks; what stands ahead goes into the first one. -/
def splF : List UInt8 → List UInt8 → List (List UInt8)
  | P, [] => [P]
  | P, c :: l => if c = 47 then P :: splF [] l else splF (P ++ [c]) l
theorem splF_len (l : List UInt8) : ∀ P, (splF P l).length = l.count 47 + 1 := by
  induction l with
  | nil => intro P; rfl
  | cons c l ih =>
    intro P
    unfold splF
    by_cases h : c = 47
    · rw [if_pos h, List.length_cons, ih, h, List.count_cons_self]
    · rw [if_neg h, ih, List.count_cons_of_ne (by simpa using h)]
theorem splF_none (l : List UInt8) : ∀ P, l.count 47 = 0 → splF P l = [P ++ l] := by
  induction l with
  | nil => intro P _; simp [splF]
  | cons c l ih =>
    intro P h
    have hc : c ≠ 47 := fun e => by rw [e, List.count_cons_self] at h; omega
    rw [List.count_cons_of_ne (by simpa using hc)] at h
    unfold splF
    rw [if_neg hc, ih _ h, List.append_assoc]
    rfl
theorem splF_some (l : List UInt8) (h : 0 < l.count 47) : ∃ p, p < l.length ∧ Lib.indexByte l 47 = (p : Int) ∧ (∀ P, splF P l = (P ++ l.take p) :: splF [] (l.drop (p + 1))) ∧ (l.drop (p + 1)).count 47 + 1 = l.count 47 := by
  induction l with
  | nil => simp at h
  | cons c l ih =>
    by_cases hc : c = 47
    · subst hc
      refine ⟨0, by simp, by unfold Lib.indexByte; rfl, fun P => ?_, by simp⟩
      rw [show splF P (47 :: l) = P :: splF [] l from if_pos rfl]
      simp
    · rw [List.count_cons_of_ne (by simpa using hc)] at h ⊢
      obtain ⟨p, h1, h2, h3, h4⟩ := ih h
      refine ⟨p + 1, by simpa using h1, ?_, fun P => ?_, by simpa using h4⟩
      · unfold Lib.indexByte
        rw [if_neg (by simpa using hc), h2, if_neg (by simp)]
        omega
      · rw [show splF P (c :: l) = splF (P ++ [c]) l from if_neg hc, h3]
        simp
/-- The reference's cut. -/
theorem cut_l0 (s : ByteArray) (hs : s.size ≤ 4398046511104) (d : Nat) : ∀ (i f : Nat) (out : List ByteArray), i + d = s.size → f ≤ i → out.length ≤ i → Ev (fun k => spec_l1Cut.l0 k s 47 out (f : Int) (i : Int)) (out ++ (splF ((s.data.toList.drop f).take (i - f)) (s.data.toList.drop i)).map mkB) := by
  have hl := size_list s
  have fin : ∀ (n f : Nat) (out : List ByteArray), s.size < n → Ev (fun k => spec_l1Cut.l0 k s 47 out (f : Int) (n : Int)) out := fun n f out hn => ev_done fun k => by simp only [spec_l1Cut.l0]; rw [if_neg (by omega)]
  induction d with
  | zero =>
    intro i f out h hf ho
    have e : s.data.toList.drop i = [] := drop_end (by omega)
    rw [e]
    have hx := ext_mk s f i
    refine ev_step (fun k => spec_l1Cut.l0 k s 47 (out ++ [s.extract f i]) ((i + 1 : Nat) : Int) ((i + 1 : Nat) : Int)) (fun k => ?_) ?_
    · simp only [spec_l1Cut.l0]; rw [if_pos (by omega), if_pos (by omega), if_pos (by omega), if_pos (by omega), if_pos (by omega), wrap_id (by omega) (by omega)]; rfl
    · rw [hx]
      exact fin _ _ _ (by omega)
  | succ d ih =>
    intro i f out h hf ho
    have hi : i < s.data.toList.length := by omega
    rw [drop_at hi]
    by_cases c : s.data.toList[i] = 47
    · rw [splF, if_pos c]
      have IH := ih (i + 1) (i + 1) (out ++ [s.extract f i]) (by omega) (by omega) (by simp; omega)
      rw [Nat.sub_self, List.take_zero] at IH
      have e : out ++ (((s.data.toList.drop f).take (i - f)) :: splF [] (s.data.toList.drop (i + 1))).map mkB = (out ++ [s.extract f i]) ++ (splF [] (s.data.toList.drop (i + 1))).map mkB := by rw [ext_mk, List.map_cons, List.append_assoc]; rfl
      rw [e]
      refine ev_step (fun k => spec_l1Cut.l0 k s 47 (out ++ [s.extract f i]) ((i + 1 : Nat) : Int) ((i + 1 : Nat) : Int)) (fun k => ?_) IH
      simp only [spec_l1Cut.l0]; rw [if_pos (by omega), if_neg (by omega), if_pos (by omega), if_pos (by omega), bt_at hi, c, if_pos (show ((UInt8.toNat 47 : Nat) : Int) = 47 from rfl), if_pos (by omega), if_pos (by omega), if_pos (by omega), wrap_up hi (by omega)]; rfl
    · rw [splF, if_neg c]
      have e : (s.data.toList.drop f).take (i - f) ++ [s.data.toList[i]] = (s.data.toList.drop f).take (i + 1 - f) := by
        rw [show i + 1 - f = (i - f) + 1 by omega, List.take_succ_eq_append_getElem (by rw [List.length_drop]; omega)]
        congr 2
        rw [List.getElem_drop]
        congr 1
        omega
      rw [e]
      refine ev_step (fun k => spec_l1Cut.l0 k s 47 out (f : Int) ((i + 1 : Nat) : Int)) (fun k => ?_) (ih (i + 1) f out (by omega) (by omega) (by omega))
      have hne : ¬ (((s.data.toList[i]).toNat : Int) = 47) := fun e => c (by
        have e2 : (s.data.toList[i]).toNat = 47 := by omega
        exact UInt8.toNat_inj.1 e2)
      simp only [spec_l1Cut.l0]; rw [if_pos (by omega), if_neg (by omega), if_pos (by omega), if_pos (by omega), bt_at hi, if_neg hne, wrap_up hi (by omega)]
def pieces (s : ByteArray) : List ByteArray := (splF [] s.data.toList).map mkB
theorem pieces_len (s : ByteArray) : (pieces s).length = s.data.toList.count 47 + 1 := by unfold pieces; rw [List.length_map, splF_len]
theorem cut_spec (s : ByteArray) (hs : s.size ≤ 4398046511104) : Ev (fun k => spec_l1Cut.f k s 47) (pieces s) := by
  have h := cut_l0 s hs s.size 0 0 [] (by omega) (by omega) (by simp)
  rw [List.nil_append, Nat.sub_self, List.take_zero, List.drop_zero] at h
  exact h
theorem w_up (p : Nat) (h : p ≤ 4611686018427387904) : wrap64 ((p : Int) + 1) = ((p + 1 : Nat) : Int) := by rw [wrap_id (by omega) (by omega)]; omega
theorem w_one (p : Nat) (h : p ≤ 4611686018427387904) : wrap64 ((p : Int) + ((⟨#[47]⟩ : ByteArray).size : Int)) = ((p + 1 : Nat) : Int) := w_up p h
theorem w_zero (p : Nat) (h : p ≤ 4611686018427387904) : wrap64 ((p : Int) + 0) = (p : Int) := by rw [Int.add_zero]; exact wrap_id (by omega) (by omega)
/-- The program's cut. -/
theorem split_l0 (n : Nat) (hn : n ≤ 4398046511104) (d : Nat) : ∀ (i : Nat) (x : ByteArray) (a : List ByteArray), x.data.toList.count 47 = d → i + d = n → a.length = n + 1 → x.size ≤ 4398046511104 → Ev (fun k => strings_genSplit.l0 k x (⟨#[47]⟩ : ByteArray) 0 (n : Int) a (i : Int)) (a.take i ++ (splF [] x.data.toList).map mkB) := by
  have ix : ∀ x : ByteArray, strings_Index.f x (⟨#[47]⟩ : ByteArray) = some (Lib.indexByte x.data.toList 47) := fun x => if_pos rfl
  induction d with
  | zero =>
    intro i x a hc h ha hx
    have e : a.take i ++ (splF [] x.data.toList).map mkB = (a.set i x).take (i + 1) := by
      rw [splF_none _ _ hc, take_set_snoc (by omega)]
      rfl
    rw [e]
    refine ev_done fun k => ?_
    have q0 : ¬ ((i : Int) < (n : Int)) := by omega
    have q1 : (0 : Int) ≤ (i : Int) := by omega
    have q2 : (i : Int) < (a.length : Int) := by omega
    have q3 : (0 : Int) ≤ ((i + 1 : Nat) : Int) := by omega
    have q4 : ((i + 1 : Nat) : Int) ≤ (a.length : Int) := by omega
    have wi := w_up i (by omega)
    simp only [strings_genSplit.l0, wi, q0, q1, q2, q3, q4, if_true, if_false, Int.toNat_natCast]
  | succ d ih =>
    intro i x a hc h ha hx
    obtain ⟨p, h1, h2, h3, h4⟩ := splF_some x.data.toList (by omega)
    have hl := size_list x
    have e1 : x.extract 0 p = mkB (x.data.toList.take p) := by rw [ext_mk]; rfl
    have e2 : (x.extract (p + 1) x.size).data.toList = x.data.toList.drop (p + 1) := by rw [ext_list, List.take_of_length_le (by rw [List.length_drop]; omega)]
    have IH := ih (i + 1) (x.extract (p + 1) x.size) (a.set i (x.extract 0 p)) (by rw [e2]; omega) (by omega) (by rw [List.length_set]; exact ha) (by rw [size_list, e2, List.length_drop]; omega)
    have e : a.take i ++ (splF [] x.data.toList).map mkB = (a.set i (x.extract 0 p)).take (i + 1) ++ (splF [] (x.extract (p + 1) x.size).data.toList).map mkB := by
      rw [e2, h3, take_set_snoc (by omega), List.append_assoc, e1]
      rfl
    rw [e]
    refine ev_step (fun k => strings_genSplit.l0 k (x.extract (p + 1) x.size) (⟨#[47]⟩ : ByteArray) 0 (n : Int) (a.set i (x.extract 0 p)) ((i + 1 : Nat) : Int)) (fun k => ?_) IH
    have q0 : (i : Int) < (n : Int) := by omega
    have q1 : (0 : Int) ≤ (i : Int) := by omega
    have q2 : (i : Int) < (a.length : Int) := by omega
    have q3 : (0 : Int) ≤ ((p + 1 : Nat) : Int) := by omega
    have q4 : ((p + 1 : Nat) : Int) ≤ (x.size : Int) := by omega
    have q5 : (0 : Int) ≤ (p : Int) := by omega
    have q6 : (p : Int) ≤ (x.size : Int) := by omega
    have q7 : ¬ ((p : Int) < 0) := by omega
    have hp_ : p ≤ 4611686018427387904 := by omega
    have hi_ : i ≤ 4611686018427387904 := by omega
    have wi := w_up i hi_
    have w1 := w_one p hp_
    have w0 := w_zero p hp_
    simp only [strings_genSplit.l0]
    rw [if_pos q0, ix, Option.bind_some, h2, if_neg q7, w0, if_pos q5, if_pos q6, if_pos q1, if_pos q2, w1, if_pos q3, if_pos q4, wi, Int.toNat_natCast, Int.toNat_natCast, Int.toNat_natCast]
theorem split_impl (s : ByteArray) (hs : s.size ≤ 1099511627776) : Ev (fun k => strings_Split.f k s (⟨#[47]⟩ : ByteArray)) (pieces s) := by
  have hl := size_list s
  have hle : s.data.toList.count 47 ≤ s.size := by rw [hl]; exact List.count_le_length
  have h := split_l0 (s.data.toList.count 47) (by omega) (s.data.toList.count 47) 0 s (List.replicate (s.data.toList.count 47 + 1) (⟨#[]⟩ : ByteArray)) rfl (by omega) (by simp) (by omega)
  have ct : strings_Count.f s (⟨#[47]⟩ : ByteArray) = some ((s.data.toList.count 47 : Nat) : Int) := if_pos rfl
  have en : wrap64 (((s.data.toList.count 47 : Nat) : Int) + 1) = ((s.data.toList.count 47 + 1 : Nat) : Int) := by rw [wrap_id (by omega) (by omega)]; omega
  have hm : mn ((s.data.toList.count 47 + 1 : Nat) : Int) (wrap64 ((s.size : Int) + 1)) = ((s.data.toList.count 47 + 1 : Nat) : Int) := by
    rw [wrap_id (by omega) (by omega)]
    unfold mn
    by_cases h : (s.size : Int) + 1 < ((s.data.toList.count 47 + 1 : Nat) : Int)
    · omega
    · rw [if_neg h]
  have hm1 : wrap64 (((s.data.toList.count 47 + 1 : Nat) : Int) - 1) = ((s.data.toList.count 47 : Nat) : Int) := by rw [wrap_id (by omega) (by omega)]; omega
  rw [List.take_zero, List.nil_append] at h
  unfold strings_Split.f
  refine ev_call (a := pieces s) ?_ (Ev.now _)
  unfold strings_genSplit.f
  refine ev_cong (fun k => (if_neg (by omega)).trans ((if_neg (by rw [tl]; simp)).trans (if_pos (by omega)))) ?_
  simp only [ct, Option.bind_some, en]
  refine ev_step _ (fun k => ?_) h
  simp only [strings_genSplit.j0]; rw [hm, if_pos (by omega), if_pos (by omega), hm1, Int.toNat_natCast]; rfl
end Go.Proofs.YtajlnffefoeppaaDoor.Pure

/- What is wrong with a path: by the program and by the reference the same, for every text. -/
namespace Go.Proofs.YtajlnffefoeppaaDoor.Pure
open Go.RowKit Go.Proofs.YtajlnffefoeppaaDoor.Qa Go.Proofs.YtajlnffefoeppaaDoorW.PrintWords Go.Proofs.YtajlnffefoeppaaDoorW.PrintLast Go.Proofs.YtajlnffefoeppaaDoor.Aid

theorem splF_size (l : List UInt8) : ∀ P, ∀ x ∈ splF P l, x.length ≤ P.length + l.length := by
  induction l with
  | nil => intro P x hx; rw [splF, List.mem_singleton] at hx; subst hx; omega
  | cons c l ih =>
    intro P x hx
    unfold splF at hx
    by_cases h : c = 47
    · rw [if_pos h] at hx
      rcases List.mem_cons.1 hx with rfl | hx
      · omega
      · have := ih [] x hx; simp at this ⊢; omega
    · rw [if_neg h] at hx
      have := ih _ x hx
      simp at this ⊢
      omega
theorem pieces_size (s : ByteArray) : ∀ x ∈ pieces s, x.size ≤ s.size := by
  intro x hx
  obtain ⟨l, hl, rfl⟩ := List.mem_map.1 hx
  have := splF_size s.data.toList [] l hl
  have e : (mkB l).size = l.length := rfl
  rw [List.length_nil] at this
  rw [e, size_list s]
  omega
def headR (s : ByteArray) : ByteArray := rdOf ByteArray.empty (pieces s) 0
def namesR (s : ByteArray) : List ByteArray × Bool :=
  if s.data.toList = [47] then ([], true) else if (pieces s).length < 2 then ([], false) else if (headR s).data.toList = [] then (if ((pieces s).drop 1).all nameB = true then ((pieces s).drop 1, true) else ([], false)) else ([], false)
def faultR (s : ByteArray) : Int :=
  if 24 < s.size then 2 else if s.data.toList = [47] then 0 else if 5 < (pieces s).length then 2 else if (namesR s).2 = true then 0 else 5
theorem head_bne (s : ByteArray) : ((rdOf ByteArray.empty (pieces s) 0).toList != ([] : List UInt8)) = !decide ((headR s).data.toList = []) := by
  unfold headR
  rw [tl]
  by_cases h : (rdOf ByteArray.empty (pieces s) 0).data.toList = []
  · rw [h]; rfl
  · rw [decide_eq_false h]
    exact bne_iff_ne.2 h
theorem fault_l0 (W : List ByteArray) (hW : ∀ x ∈ W, x.size ≤ 1048576) (hl : W.length ≤ 1048576) (d : Nat) : ∀ (i : Nat), i + d = W.length → Ev (fun k => impl_PathFault.l0 k W (W.length : Int) (i : Int)) (if (W.drop i).all nameB = true then 0 else 5) := by
  induction d with
  | zero =>
    intro i h
    rw [drop_end (by omega)]
    exact ev_done fun k => by simp only [impl_PathFault.l0]; rw [if_neg (by omega)]; rfl
  | succ d ih =>
    intro i h
    have hi : i < W.length := by omega
    have hx := hW W[i] (List.getElem_mem hi)
    rw [drop_at hi, List.all_cons]
    refine ev_step _ (fun k => by simp only [impl_PathFault.l0]; rw [if_pos (by omega), if_pos (by omega), if_pos (by omega), rdOf_at hi, wrap_up hi (by omega)]) (ev_call (name_impl W[i] (by omega)) ?_)
    cases c : nameB W[i] with
    | true => exact ev_cong (fun k => if_pos rfl) (by rw [Bool.true_and]; exact ih (i + 1) (by omega))
    | false => exact ev_is fun k => if_neg (by simp)
theorem names_l0 (W : List ByteArray) (hW : ∀ x ∈ W, x.size ≤ 1048576) (hl : W.length ≤ 1048576) (h1 : 1 ≤ W.length) (d : Nat) : ∀ (i : Nat), i + d = W.length → Ev (fun k => spec_l1Names.l0 k W (i : Int)) (if (W.drop i).all nameB = true then (W.drop 1, true) else ([], false)) := by
  induction d with
  | zero =>
    intro i h
    rw [drop_end (by omega)]
    exact ev_done fun k => by simp only [spec_l1Names.l0]; rw [if_neg (by omega), if_pos (by omega)]; rfl
  | succ d ih =>
    intro i h
    have hi : i < W.length := by omega
    have hx := hW W[i] (List.getElem_mem hi)
    rw [drop_at hi, List.all_cons]
    refine ev_step _ (fun k => by simp only [spec_l1Names.l0]; rw [if_pos (by omega), if_pos (by omega), rdOf_at hi, wrap_up hi (by omega)]) (ev_call (name_spec W[i] (by omega)) ?_)
    cases c : nameB W[i] with
    | true => exact ev_cong (fun k => if_pos rfl) (by rw [Bool.true_and]; exact ih (i + 1) (by omega))
    | false => exact ev_is fun k => if_neg (by simp)
theorem pieces_le (s : ByteArray) : (pieces s).length ≤ s.size + 1 := by
  have : s.data.toList.count 47 ≤ s.data.toList.length := List.count_le_length
  rw [pieces_len, size_list]
  omega
theorem names_spec (s : ByteArray) (hs : s.size ≤ 24) : Ev (fun k => spec_l1Names.f k s) (namesR s) := by
  have hl := pieces_le s
  unfold spec_l1Names.f namesR
  by_cases h : s.data.toList = [47]
  · rw [if_pos h]
    exact ev_is fun k => if_pos (by rw [tl]; exact h)
  · rw [if_neg h]
    refine ev_cong (fun k => if_neg (by rw [tl]; exact h)) (ev_call (cut_spec s (by omega)) ?_)
    by_cases h2 : (pieces s).length < 2
    · rw [if_pos h2]
      exact ev_cong (fun k => if_pos (by omega)) (ev_done fun k => by simp only [spec_l1Names.j0]; exact if_pos trivial)
    · rw [if_neg h2]
      refine ev_cong (fun k => (if_neg (by omega)).trans (if_pos (by omega))) ?_
      rw [head_bne]
      by_cases h3 : (headR s).data.toList = []
      · rw [if_pos h3]
        refine ev_step _ (fun k => by simp only [spec_l1Names.j0]; rw [if_neg (by simp [h3])]) ?_
        exact names_l0 (pieces s) (fun x hx => by have := pieces_size s x hx; omega) (by omega) (by omega) ((pieces s).length - 1) 1 (by omega)
      · rw [if_neg h3]
        exact ev_done fun k => by simp only [spec_l1Names.j0]; exact if_pos (by simp [h3])
theorem fault_spec (s : ByteArray) : Ev (fun k => spec_l1Fault.f k s) (faultR s) := by
  unfold spec_l1Fault.f faultR
  by_cases h : 24 < s.size
  · rw [if_pos h]
    exact ev_cong (fun k => if_pos (by omega)) (ev_done fun k => by simp only [spec_l1Fault.j0]; exact if_pos trivial)
  · rw [if_neg h]
    have tail : Ev (fun k => spec_l1Fault.j0 k s false) (if (namesR s).2 = true then 0 else 5) := by
      refine ev_step _ (fun k => by simp only [spec_l1Fault.j0]; rw [if_neg (by simp)]) (ev_call (names_spec s (by omega)) ?_)
      exact ev_is fun k => by by_cases h4 : (namesR s).2 = true <;> simp [h4]
    refine ev_cong (fun k => if_neg (by omega)) ?_
    by_cases h47 : s.data.toList = [47]
    · rw [if_pos h47]
      refine ev_cong (fun k => if_pos (by rw [tl]; exact h47)) ?_
      have e : (namesR s).2 = true := by unfold namesR; rw [if_pos h47]
      rw [if_pos e] at tail
      exact tail
    · rw [if_neg h47]
      refine ev_cong (fun k => if_neg (by rw [tl]; exact h47)) (ev_call (cut_spec s (by omega)) ?_)
      by_cases h5 : 5 < (pieces s).length
      · rw [if_pos h5, show decide (((pieces s).length : Int) > 5) = true from decide_eq_true (by omega)]
        exact ev_done fun k => by simp only [spec_l1Fault.j0]; exact if_pos trivial
      · rw [if_neg h5, show decide (((pieces s).length : Int) > 5) = false from decide_eq_false (by omega)]
        exact tail
theorem fault_impl (s : ByteArray) : Ev (fun k => impl_PathFault.f k s) (faultR s) := by
  unfold impl_PathFault.f faultR
  by_cases h : 24 < s.size
  · rw [if_pos h]
    exact ev_cong (fun k => if_pos (by omega)) (ev_done fun k => by simp only [impl_PathFault.j0]; exact if_pos trivial)
  · rw [if_neg h]
    have ct : strings_Count.f s (⟨#[47]⟩ : ByteArray) = some ((s.data.toList.count 47 : Nat) : Int) := if_pos rfl
    have pl := pieces_len s
    have hl := pieces_le s
    refine ev_cong (fun k => (if_neg (by omega)).trans (by rw [ct, Option.bind_some])) ?_
    by_cases h47 : s.data.toList = [47]
    · rw [if_pos h47, h47]
      refine ev_done fun k => ?_
      simp only [impl_PathFault.j0]; rw [if_neg (by decide), if_pos (by rw [tl]; exact h47)]
    · rw [if_neg h47]
      by_cases h5 : 5 < (pieces s).length
      · rw [if_pos h5, show decide (((s.data.toList.count 47 : Nat) : Int) > 4) = true from decide_eq_true (by omega)]
        exact ev_done fun k => by simp only [impl_PathFault.j0]; exact if_pos trivial
      · rw [if_neg h5, show decide (((s.data.toList.count 47 : Nat) : Int) > 4) = false from decide_eq_false (by omega)]
        refine ev_step _ (fun k => by simp only [impl_PathFault.j0]; rw [if_neg (by simp), if_neg (by rw [tl]; exact h47)]) (ev_call (split_impl s (by omega)) ?_)
        unfold namesR
        rw [if_neg h47]
        by_cases h2 : (pieces s).length < 2
        · rw [if_pos h2, if_neg (by simp)]
          exact ev_cong (fun k => if_pos (by omega)) (ev_done fun k => by simp only [impl_PathFault.j1]; exact if_pos trivial)
        · rw [if_neg h2]
          refine ev_cong (fun k => (if_neg (by omega)).trans (if_pos (by omega))) ?_
          rw [head_bne]
          by_cases h3 : (headR s).data.toList = []
          · rw [if_pos h3]
            refine ev_step _ (fun k => by simp only [impl_PathFault.j1]; rw [if_neg (by simp [h3]), if_pos (by omega), Option.bind_some]) ?_
            have := fault_l0 ((pieces s).drop 1) (fun x hx => by have := pieces_size s x (List.mem_of_mem_drop hx); omega) (by rw [List.length_drop]; omega) ((pieces s).drop 1).length 0 (by omega)
            rw [List.drop_zero] at this
            by_cases h6 : ((pieces s).drop 1).all nameB = true
            · rw [if_pos h6] at this ⊢; exact this
            · rw [if_neg h6] at this ⊢; exact this
          · rw [if_neg h3, if_neg (by simp)]
            exact ev_done fun k => by simp only [impl_PathFault.j1]; exact if_pos (by simp [h3])
/-- What is known of a path that has no fault. -/
theorem fault_zero {s : ByteArray} (h : faultR s = 0) : s.size ≤ 24 ∧ (s.data.toList = [47] ∨ s.data.toList ≠ [47] ∧ namesR s = ((pieces s).drop 1, true) ∧ 0 < s.data.toList.count 47) := by
  unfold faultR at h
  by_cases h1 : 24 < s.size
  · rw [if_pos h1] at h; omega
  · rw [if_neg h1] at h
    refine ⟨by omega, ?_⟩
    by_cases h2 : s.data.toList = [47]
    · exact .inl h2
    · rw [if_neg h2] at h
      refine .inr ⟨h2, ?_⟩
      by_cases h5 : 5 < (pieces s).length
      · rw [if_pos h5] at h; omega
      · rw [if_neg h5] at h
        have pl := pieces_len s
        by_cases h6 : (namesR s).2 = true
        · have h7 := h6
          unfold namesR at h6 ⊢
          rw [if_neg h2] at h6 ⊢
          by_cases h8 : (pieces s).length < 2
          · rw [if_pos h8] at h6; cases h6
          · rw [if_neg h8] at h6 ⊢
            by_cases h9 : (headR s).data.toList = []
            · rw [if_pos h9] at h6 ⊢
              by_cases h10 : ((pieces s).drop 1).all nameB = true
              · rw [if_pos h10]; exact ⟨rfl, by omega⟩
              · rw [if_neg h10] at h6; cases h6
            · rw [if_neg h9] at h6; cases h6
        · rw [if_neg h6] at h; omega
end Go.Proofs.YtajlnffefoeppaaDoor.Pure

/- The last mark of a path: by the program (strings.LastIndex) and by the reference the same. -/
namespace Go.Proofs.YtajlnffefoeppaaDoor.Pure
open Go.RowKit Go.Proofs.YtajlnffefoeppaaDoor.Qa Go.Proofs.YtajlnffefoeppaaDoorW.PrintWords Go.Proofs.YtajlnffefoeppaaDoorW.PrintLast Go.Proofs.YtajlnffefoeppaaDoor.Aid
theorem last_exists (l : List UInt8) (h : 0 < l.count 47) : ∃ (p : Nat) (hp : p < l.length), l[p] = 47 ∧ ∀ (j : Nat) (hj : j < l.length), p < j → l[j] ≠ 47 := by
  induction l with
  | nil => simp at h
  | cons c l ih =>
    by_cases h0 : 0 < l.count 47
    · obtain ⟨p, hp, h1, h2⟩ := ih h0
      refine ⟨p + 1, by simpa using hp, by simpa using h1, fun j hj hlt => ?_⟩
      cases j with
      | zero => omega
      | succ j => simpa using h2 j (by simpa using hj) (by omega)
    · have hc : c = 47 := by
        by_cases hc : c = 47
        · exact hc
        · rw [List.count_cons_of_ne (by simpa using hc)] at h
          exact absurd h h0
      refine ⟨0, by simp, by simpa using hc, fun j hj hlt => ?_⟩
      cases j with
      | zero => omega
      | succ j =>
        intro e
        have e' : l[j]'(by simpa using hj) = 47 := by simpa using e
        exact h0 (List.count_pos_iff.2 (e' ▸ List.getElem_mem _))
theorem ne_int {c : UInt8} (h : c ≠ 47) : ¬ ((c.toNat : Int) = 47) := fun e => h (by
  have e2 : c.toNat = 47 := by omega
  exact UInt8.toNat_inj.1 e2)
theorem last_spec_l0 (s : ByteArray) (hs : s.size ≤ 24) (p : Nat) (hp : p < s.data.toList.length) (h1 : s.data.toList[p] = 47) (h2 : ∀ (j : Nat) (hj : j < s.data.toList.length), p < j → s.data.toList[j] ≠ 47) (d : Nat) : ∀ (i : Nat) (x : Int), i + d = s.size → (p < i → x = (p : Int)) → Ev (fun k => spec_l1Last.l0 k s x (i : Int)) (p : Int) := by
  have hl := size_list s
  induction d with
  | zero =>
    intro i x h hx
    rw [hx (by omega)]
    exact ev_done fun k => by simp only [spec_l1Last.l0]; rw [if_neg (by omega)]
  | succ d ih =>
    intro i x h hx
    have hi : i < s.data.toList.length := by omega
    have q0 : (i : Int) < (s.size : Int) := by omega
    have q1 : (0 : Int) ≤ (i : Int) := by omega
    have wi := w_up i (by omega)
    by_cases c : s.data.toList[i] = 47
    · have hip : ¬ p < i := fun hlt => h2 i hi hlt c
      refine ev_step (fun k => spec_l1Last.l0 k s (i : Int) ((i + 1 : Nat) : Int)) (fun k => ?_) (ih (i + 1) (i : Int) (by omega) (fun hlt => by omega))
      simp only [spec_l1Last.l0]; rw [if_pos q0, if_pos q1, bt_at hi, c, if_pos (show ((UInt8.toNat 47 : Nat) : Int) = 47 from rfl), wi]
    · have hip : i ≠ p := fun e => c (by subst e; exact h1)
      refine ev_step (fun k => spec_l1Last.l0 k s x ((i + 1 : Nat) : Int)) (fun k => ?_) (ih (i + 1) x (by omega) (fun hlt => hx (by omega)))
      simp only [spec_l1Last.l0]; rw [if_pos q0, if_pos q1, bt_at hi, if_neg (ne_int c), wi]
theorem last_impl_l0 (s : ByteArray) (hs : s.size ≤ 24) (p : Nat) (hp : p < s.data.toList.length) (h1 : s.data.toList[p] = 47) (h2 : ∀ (j : Nat) (hj : j < s.data.toList.length), p < j → s.data.toList[j] ≠ 47) (d : Nat) : p + d < s.data.toList.length → Ev (fun k => bytealg_LastIndexByteString.l0 k s 47 ((p + d : Nat) : Int)) (p : Int) := by
  have hl := size_list s
  induction d with
  | zero =>
    intro _
    have q0 : ((p + 0 : Nat) : Int) < (s.size : Int) := by omega
    have q1 : (0 : Int) ≤ ((p + 0 : Nat) : Int) := by omega
    refine ev_done fun k => ?_
    simp only [bytealg_LastIndexByteString.l0]; rw [if_pos q1, if_pos q1, if_pos q0, bt_at (show p + 0 < s.data.toList.length from hp), if_pos (by simp only [Nat.add_zero, h1]; rfl)]
    rfl
  | succ d ih =>
    intro hd
    have q0 : ((p + (d + 1) : Nat) : Int) < (s.size : Int) := by omega
    have q1 : (0 : Int) ≤ ((p + (d + 1) : Nat) : Int) := by omega
    have wi : wrap64 (((p + (d + 1) : Nat) : Int) - 1) = ((p + d : Nat) : Int) := by rw [wrap_id (by omega) (by omega)]; omega
    refine ev_step (fun k => bytealg_LastIndexByteString.l0 k s 47 ((p + d : Nat) : Int)) (fun k => ?_) (ih (by omega))
    simp only [bytealg_LastIndexByteString.l0]; rw [if_pos q1, if_pos q1, if_pos q0, bt_at hd, if_neg (ne_int (h2 _ hd (by omega))), wi]
/-- Where the last mark is. -/
theorem last_both (s : ByteArray) (hs : s.size ≤ 24) (h : 0 < s.data.toList.count 47) : ∃ (p : Nat) (hp : p < s.data.toList.length), s.data.toList[p] = 47 ∧ Ev (fun k => spec_l1Last.f k s) (p : Int) ∧ Ev (fun k => strings_LastIndex.f k s (⟨#[47]⟩ : ByteArray)) (p : Int) := by
  have hl := size_list s
  obtain ⟨p, hp, h1, h2⟩ := last_exists _ h
  refine ⟨p, hp, h1, last_spec_l0 s hs p hp h1 h2 s.size 0 0 (by omega) (fun h => by omega), ?_⟩
  have hd := last_impl_l0 s hs p hp h1 h2 (s.data.toList.length - 1 - p) (by omega)
  have e : wrap64 ((s.size : Int) - 1) = ((p + (s.data.toList.length - 1 - p) : Nat) : Int) := by rw [wrap_id (by omega) (by omega)]; omega
  have e1 : ((⟨#[47]⟩ : ByteArray).size : Int) = 1 := rfl
  have e2 : bt (⟨#[47]⟩ : ByteArray) 0 = 47 := rfl
  unfold strings_LastIndex.f
  rw [e1, e2]
  refine ev_cong (fun k => (if_neg (by omega)).trans ((if_pos rfl).trans (if_pos (by omega)))) (ev_call (a := (p : Int)) ?_ (Ev.now _))
  unfold bytealg_LastIndexByteString.f
  rw [e]
  exact hd
theorem parted_both (s : ByteArray) (hs : s.size ≤ 24) (h : 0 < s.data.toList.count 47) : ∃ (u n : ByteArray), Ev (fun k => impl_parted.f k s) (u, n) ∧ (∃ p : Nat, p < s.size ∧ n = s.extract (p + 1) s.size ∧ u = (if p = 0 then (⟨#[47]⟩ : ByteArray) else s.extract 0 p) ∧ Ev (fun k => spec_l1Last.f k s) (p : Int)) := by
  have hl := size_list s
  obtain ⟨p, hp, h1, h2, h3⟩ := last_both s hs h
  have hz : s.extract 0 1 = mkB [s.data.toList[0]] := by
    rw [ext_mk]
    congr 1
    rw [show (1 : Nat) - 0 = 0 + 1 from rfl, List.drop_zero, List.take_succ_eq_append_getElem (by omega)]
    rfl
  refine ⟨if p = 0 then (⟨#[47]⟩ : ByteArray) else s.extract 0 p, s.extract (p + 1) s.size, ?_, p, by omega, rfl, rfl, h2⟩
  unfold impl_parted.f
  refine ev_call h3 (ev_is fun k => ?_)
  have wi := w_up p (by omega)
  have q3 : (0 : Int) ≤ ((p + 1 : Nat) : Int) := by omega
  have q4 : ((p + 1 : Nat) : Int) ≤ (s.size : Int) := by omega
  by_cases c : p = 0
  · subst c
    have m : mx ((0 : Nat) : Int) 1 = 1 := rfl
    rw [m, if_pos (by omega), if_pos (by omega), wi, if_pos q3, if_pos q4, if_pos rfl, show ((1 : Int).toNat) = 1 from rfl, hz, h1, Int.toNat_natCast]
    rfl
  · have m : mx (p : Int) 1 = (p : Int) := by unfold mx; rw [if_neg (by omega)]
    rw [m, if_pos (by omega), if_pos (by omega), wi, if_pos q3, if_pos q4, if_neg c, Int.toNat_natCast, Int.toNat_natCast]
end Go.Proofs.YtajlnffefoeppaaDoor.Pure

/- Texts in order: what a comparison of two texts says of their bytes; searches in rising lists. -/
namespace Go.Proofs.YtajlnffefoeppaaDoor.Aid
open Go.RowKit Go.Proofs.YtajlnffefoeppaaDoorW.PrintWords

theorem u8_tri (a b : UInt8) (h1 : ¬ a < b) (h2 : ¬ b < a) : a = b := by
  have e1 : ¬ a.toNat < b.toNat := h1
  have e2 : ¬ b.toNat < a.toNat := h2
  exact UInt8.toNat_inj.1 (by omega)
theorem bl_lt : ∀ (x y : List UInt8), Op.bytesLess x y = decide (x < y)
  | [], [] => by simp [Op.bytesLess]
  | _ :: _, [] => by simp [Op.bytesLess]
  | [], _ :: _ => by simp [Op.bytesLess]
  | a :: x, b :: y => by
    rw [Op.bytesLess, bl_lt x y]
    rw [Bool.eq_iff_iff]
    simp [List.cons_lt_cons_iff]
theorem cmp_is : ∀ (x y : List UInt8), Lib.compareBytes x y = if x < y then -1 else if x = y then 0 else 1
  | [], [] => by simp [Lib.compareBytes]
  | _ :: _, [] => by simp [Lib.compareBytes]
  | [], _ :: _ => by simp [Lib.compareBytes]
  | a :: x, b :: y => by
    rw [Lib.compareBytes, cmp_is x y]
    by_cases h1 : a < b
    · rw [if_pos h1, if_pos (List.cons_lt_cons_iff.2 (.inl h1))]
    · rw [if_neg h1]
      by_cases h2 : b < a
      · have hne : a ≠ b := fun e => by subst e; exact h1 h2
        rw [if_pos h2, if_neg (fun h => by
          rcases List.cons_lt_cons_iff.1 h with h | ⟨h, _⟩
          · exact h1 h
          · exact hne h), if_neg (fun h => hne (List.cons.inj h).1)]
      · have e := u8_tri a b h1 h2
        subst e
        rw [if_neg h2]
        by_cases h3 : x < y
        · rw [if_pos h3, if_pos (List.cons_lt_cons_iff.2 (.inr ⟨rfl, h3⟩))]
        · have h5 : ¬ (a :: x < a :: y) := fun h => by
            rcases List.cons_lt_cons_iff.1 h with h | ⟨_, h⟩
            · exact h1 h
            · exact h3 h
          rw [if_neg h3, if_neg h5]
          by_cases h4 : x = y
          · subst h4
            rw [if_pos rfl, if_pos rfl]
          · have h6 : ¬ (a :: x = a :: y) := fun h => h4 (List.cons.inj h).2
            rw [if_neg h4, if_neg h6]
theorem lt_irr (x : List UInt8) : ¬ x < x := List.lt_irrefl x
theorem lt_tr {x y z : List UInt8} (h : x < y) (k : y < z) : x < z := List.lt_trans h k
theorem lt_tri {x y : List UInt8} (h : ¬ x < y) (k : ¬ x = y) : y < x := by
  have := cmp_is x y
  rw [if_neg h, if_neg k] at this
  rcases Decidable.em (y < x) with c | c
  · exact c
  · exact absurd (List.le_antisymm c h) k
theorem ba_ext {a b : ByteArray} (h : a.data.toList = b.data.toList) : a = b := by
  obtain ⟨⟨a⟩⟩ := a
  obtain ⟨⟨b⟩⟩ := b
  exact congrArg (fun l => (⟨⟨l⟩⟩ : ByteArray)) h
/-- The place of a key in a list that rises. -/
def posK {α : Type} (key : α → List UInt8) (l : List α) (q : List UInt8) : Nat := (l.takeWhile (fun z => decide (key z < q))).length
def hereK {α : Type} (key : α → List UInt8) (l : List α) (q : List UInt8) : Bool := match l[posK key l q]? with
  | some z => decide (key z = q)
  | none => false
def Rises {α : Type} (key : α → List UInt8) (l : List α) : Prop := l.Pairwise (fun x y => key x < key y)
theorem posK_le {α : Type} (key : α → List UInt8) (l : List α) (q : List UInt8) : posK key l q ≤ l.length := take_pos_le _ l
theorem posK_iff {α : Type} {key : α → List UInt8} {l : List α} (h : Rises key l) (q : List UInt8) (j : Nat) (hj : j < l.length) : key l[j] < q ↔ j < posK key l q := by
  have := take_pos (fun z : α => decide (key z < q)) l (h.imp (fun {x y} hxy hy => decide_eq_true (lt_tr hxy (of_decide_eq_true hy)))) j hj
  rw [decide_eq_true_eq] at this
  exact this
theorem hereK_lt {α : Type} {key : α → List UInt8} {l : List α} {q : List UInt8} (h : hereK key l q = true) : posK key l q < l.length := by
  unfold hereK at h
  cases hp : l[posK key l q]? with
  | none => rw [hp] at h; cases h
  | some s => exact (List.getElem?_eq_some_iff.1 hp).1
theorem hereK_eq {α : Type} {key : α → List UInt8} {l : List α} {q : List UInt8} (h : hereK key l q = true) : key (l[posK key l q]'(hereK_lt h)) = q := by
  have hp := hereK_lt h
  unfold hereK at h
  rw [List.getElem?_eq_getElem hp] at h
  exact of_decide_eq_true h
theorem hereK_at {α : Type} {key : α → List UInt8} {l : List α} (h : Rises key l) (j : Nat) (hj : j < l.length) : posK key l (key l[j]) = j ∧ hereK key l (key l[j]) = true := by
  have h1 := (posK_iff h (key l[j]) j hj)
  have h2 : ¬ j < posK key l (key l[j]) := fun c => lt_irr _ (h1.2 c)
  have h3 : ¬ posK key l (key l[j]) < j := fun c => by
    have hp : posK key l (key l[j]) < l.length := by omega
    have := (List.pairwise_iff_getElem.1 h) _ _ hp hj c
    have := (posK_iff h (key l[j]) _ hp).1 this
    omega
  have e : posK key l (key l[j]) = j := by omega
  refine ⟨e, ?_⟩
  unfold hereK
  rw [e, List.getElem?_eq_getElem hj]
  exact decide_eq_true rfl
theorem hereK_mem {α : Type} {key : α → List UInt8} {l : List α} (h : Rises key l) {z : α} (hz : z ∈ l) : hereK key l (key z) = true := by
  obtain ⟨j, hj, rfl⟩ := List.getElem_of_mem hz
  exact (hereK_at h j hj).2
/-- Behind its place all are greater. -/
theorem posK_gt {α : Type} {key : α → List UInt8} {l : List α} (h : Rises key l) (q : List UInt8) (hq : hereK key l q = false) (j : Nat) (hj : j < l.length) : key l[j] ≠ q := by
  intro e
  have := (hereK_at h j hj).2
  rw [e, hq] at this
  cases this
end Go.Proofs.YtajlnffefoeppaaDoor.Aid

/- What is wrong with a tree, in plain words of lists; paths' parents. -/
namespace Go.Proofs.YtajlnffefoeppaaDoor.Pure
open Go.RowKit Go.Proofs.YtajlnffefoeppaaDoor.Qa Go.Proofs.YtajlnffefoeppaaDoorW.PrintWords Go.Proofs.YtajlnffefoeppaaDoorW.PrintLast Go.Proofs.YtajlnffefoeppaaDoor.Aid

theorem splF_head : ∀ (l P : List UInt8), P ≠ [] → ∃ x r, splF P l = x :: r ∧ x ≠ []
  | [], P, h => ⟨P, [], rfl, h⟩
  | c :: l, P, h => by
    unfold splF
    by_cases hc : c = 47
    · rw [if_pos hc]; exact ⟨P, _, rfl, h⟩
    · rw [if_neg hc]; exact splF_head l _ (by simp)
/-- A path that has no fault begins with a mark. -/
theorem path_mark {s : ByteArray} (h : faultR s = 0) : s.size ≤ 24 ∧ (∃ t, s.data.toList = 47 :: t) ∧ 0 < s.data.toList.count 47 := by
  have hl := size_list s
  obtain ⟨h1, h2⟩ := fault_zero h
  refine ⟨h1, ?_⟩
  rcases h2 with h2 | ⟨h2, h3, h4⟩
  · rw [h2]; exact ⟨⟨[], rfl⟩, by decide⟩
  · refine ⟨?_, h4⟩
    have hn : (namesR s).2 = true := by rw [h3]
    unfold namesR at hn
    rw [if_neg h2] at hn
    by_cases h5 : (pieces s).length < 2
    · rw [if_pos h5] at hn; cases hn
    · rw [if_neg h5] at hn
      by_cases h6 : (headR s).data.toList = []
      · cases hs : s.data.toList with
        | nil => rw [hs] at h4; simp at h4
        | cons c t =>
          by_cases hc : c = 47
          · exact ⟨t, by rw [hc]⟩
          · exfalso
            obtain ⟨x, r, hx, hne⟩ := splF_head t [c] (by simp)
            have e : pieces s = (x :: r).map mkB := by
              unfold pieces
              rw [hs, splF, if_neg hc, List.nil_append, hx]
            unfold headR at h6
            rw [e, List.map_cons] at h6
            exact hne h6
      · rw [if_neg h6] at hn; cases hn

/-- The parent and the last name of a path. -/
theorem up_ex (s : ByteArray) (h : faultR s = 0) : ∃ un : ByteArray × ByteArray, Ev (fun k => impl_parted.f k s) un ∧ ∃ p : Nat, p < s.size ∧ un.2 = s.extract (p + 1) s.size ∧ un.1 = (if p = 0 then (⟨#[47]⟩ : ByteArray) else s.extract 0 p) ∧ Ev (fun k => spec_l1Last.f k s) (p : Int) := by
  obtain ⟨h1, _, h3⟩ := path_mark h
  obtain ⟨u, n, h4, p, h5⟩ := parted_both s h1 h3
  exact ⟨(u, n), h4, p, h5⟩
open Classical in
noncomputable def upN (s : ByteArray) : ByteArray × ByteArray := if h : faultR s = 0 then (up_ex s h).choose else (⟨#[]⟩, ⟨#[]⟩)
noncomputable def upR (s : ByteArray) : ByteArray := (upN s).1
noncomputable def nmR (s : ByteArray) : ByteArray := (upN s).2
theorem upN_spec {s : ByteArray} (h : faultR s = 0) : Ev (fun k => impl_parted.f k s) (upN s) ∧ ∃ p : Nat, p < s.size ∧ nmR s = s.extract (p + 1) s.size ∧ upR s = (if p = 0 then (⟨#[47]⟩ : ByteArray) else s.extract 0 p) ∧ Ev (fun k => spec_l1Last.f k s) (p : Int) := by
  unfold nmR upR upN
  rw [dif_pos h]
  exact (up_ex s h).choose_spec
theorem parted_is {s : ByteArray} (h : faultR s = 0) : Ev (fun k => impl_parted.f k s) (upR s, nmR s) := (upN_spec h).1
theorem parent_is {s : ByteArray} (h : faultR s = 0) : Ev (fun k => spec_l1Parent.f k s) (upR s) := by
  obtain ⟨_, p, h6, _, h8, h9⟩ := upN_spec h
  unfold spec_l1Parent.f
  refine ev_call h9 (ev_is fun k => ?_)
  rw [h8]
  by_cases c : p = 0
  · rw [if_pos (by omega), if_pos c]
  · rw [if_neg (by omega), if_pos (by omega), if_pos (by omega), if_neg c, Int.toNat_natCast]
theorem upR_size {s : ByteArray} (h : faultR s = 0) : (upR s).size ≤ 24 ∧ (nmR s).size ≤ 24 := by
  obtain ⟨_, p, h6, h7, h8, _⟩ := upN_spec h
  have := (path_mark h).1
  have sz : ∀ a b : Nat, b ≤ 24 → (s.extract a b).size ≤ 24 := fun a b hb => by
    rw [size_list, ext_list, List.length_take, List.length_drop]
    omega
  rw [h7, h8]
  refine ⟨?_, sz _ _ this⟩
  by_cases c : p = 0
  · rw [if_pos c]; decide
  · rw [if_neg c]; exact sz _ _ (by omega)
theorem top_fault : faultR (⟨#[47]⟩ : ByteArray) = 0 := by unfold faultR; decide
theorem upR_top (s : ByteArray) (hs : s.data.toList = [47]) : upR s = (⟨#[47]⟩ : ByteArray) := by
  have h : faultR s = 0 := by unfold faultR; rw [if_neg (by rw [size_list, hs]; decide), if_pos hs]
  obtain ⟨_, p, h6, _, h8, _⟩ := upN_spec h
  rw [size_list, hs] at h6
  rw [h8, if_pos (by simpa using h6)]

abbrev ZZ := S44
def pk (z : ZZ) : List UInt8 := z.f0.data.toList
def zIn (z : ZZ) : Bool := decide (0 ≤ z.f1 ∧ z.f1 ≤ 9999) && (decide (0 ≤ z.f2 ∧ z.f2 ≤ 999) && (decide (0 ≤ z.f3 ∧ z.f3 ≤ 9) && decide (0 ≤ z.f4 ∧ z.f4 ≤ 100)))
/-- What is wrong with one node. -/
def zOwn (z : ZZ) : Int := if faultR z.f0 = 0 then (if zIn z = true then 0 else 3) else faultR z.f0
def zOne (prev : Option (List UInt8)) (z : ZZ) : Int := if zOwn z = 0 then (match prev with
  | some p => if p < pk z then 0 else 1
  | none => 0) else zOwn z
def zFrom : Option (List UInt8) → List ZZ → Int
  | _, [] => 0
  | prev, z :: r => if zOne prev z = 0 then zFrom (some (pk z)) r else zOne prev z
theorem zFrom_cons {prev : Option (List UInt8)} {z : ZZ} {r : List ZZ} : zFrom prev (z :: r) = if zOne prev z = 0 then zFrom (some (pk z)) r else zOne prev z := rfl
theorem zOwn_ok {z : ZZ} (h : zOwn z = 0) : faultR z.f0 = 0 ∧ zIn z = true := by
  unfold zOwn at h
  by_cases h1 : faultR z.f0 = 0
  · rw [if_pos h1] at h
    by_cases h2 : zIn z = true
    · exact ⟨h1, h2⟩
    · rw [if_neg h2] at h; cases h
  · rw [if_neg h1] at h; exact absurd h h1
theorem zFrom_ok : ∀ (l : List ZZ) (prev : Option (List UInt8)), zFrom prev l = 0 → (∀ z ∈ l, zOwn z = 0) ∧ Rises pk l ∧ ∀ p, prev = some p → ∀ z ∈ l, p < pk z
  | [], _, _ => ⟨by simp, List.Pairwise.nil, by simp⟩
  | z :: r, prev, h => by
    rw [zFrom_cons] at h
    by_cases h1 : zOne prev z = 0
    · rw [if_pos h1] at h
      obtain ⟨g1, g2, g3⟩ := zFrom_ok r (some (pk z)) h
      have hg : zOwn z = 0 := by
        unfold zOne at h1
        by_cases c : zOwn z = 0
        · exact c
        · rw [if_neg c] at h1; exact h1
      have hp : ∀ p, prev = some p → p < pk z := by
        intro p hp
        subst hp
        unfold zOne at h1
        rw [if_pos hg] at h1
        by_cases c : p < pk z
        · exact c
        · simp [c] at h1
      refine ⟨?_, List.pairwise_cons.2 ⟨fun y hy => g3 _ rfl y hy, g2⟩, ?_⟩
      · intro x hx
        rcases List.mem_cons.1 hx with rfl | hx
        · exact hg
        · exact g1 x hx
      · intro p he x hx
        rcases List.mem_cons.1 hx with rfl | hx
        · exact hp p he
        · exact lt_tr (hp p he) (g3 _ rfl x hx)
    · rw [if_neg h1] at h; exact absurd h h1
noncomputable def upK (z : ZZ) : List UInt8 := (upR z.f0).data.toList
noncomputable def upHere (l : List ZZ) (z : ZZ) : Bool := hereK pk l (upK z)
noncomputable def upOwn (l : List ZZ) (z : ZZ) : Bool := !decide ((rd_T44 l (posK pk l (upK z) : Int)).f3 = 0)
/-- What is wrong with a tree. -/
noncomputable def treeR (l : List ZZ) : Int :=
  if l.length > 20 then 2 else if zFrom none l = 0 then
    (if hereK pk l [47] = true then (if l.all (upHere l) = true then (if l.any (upOwn l) = true then 1 else 0) else 4) else 4)
  else zFrom none l
/-- A tree that has no fault. -/
structure RightT (l : List ZZ) : Prop where
  few : l.length ≤ 20
  good : ∀ z ∈ l, zOwn z = 0
  rise : Rises pk l
  top : hereK pk l [47] = true
  ups : ∀ z ∈ l, upHere l z = true
  free : ∀ z ∈ l, upOwn l z = false
theorem right_of {l : List ZZ} (h : treeR l = 0) : RightT l := by
  unfold treeR at h
  by_cases h1 : l.length > 20
  · rw [if_pos h1] at h; cases h
  · rw [if_neg h1] at h
    by_cases h2 : zFrom none l = 0
    · rw [if_pos h2] at h
      obtain ⟨g1, g2, _⟩ := zFrom_ok l none h2
      by_cases h3 : hereK pk l [47] = true
      · rw [if_pos h3] at h
        by_cases h4 : l.all (upHere l) = true
        · rw [if_pos h4] at h
          by_cases h5 : l.any (upOwn l) = true
          · rw [if_pos h5] at h; cases h
          · refine ⟨by omega, g1, g2, h3, List.all_eq_true.1 h4, fun z hz => ?_⟩
            cases c : upOwn l z with
            | false => rfl
            | true => exact absurd (List.any_eq_true.2 ⟨z, hz, c⟩) h5
        · rw [if_neg h4] at h; cases h
      · rw [if_neg h3] at h; cases h
    · rw [if_neg h2] at h; exact absurd h h2
theorem RightT.zero {l : List ZZ} (h : RightT l) (hz : zFrom none l = 0) : treeR l = 0 := by
  unfold treeR
  rw [if_neg (by have := h.few; omega), if_pos hz, if_pos h.top, if_pos (List.all_eq_true.2 h.ups), if_neg (fun c => by
    obtain ⟨z, hz, c⟩ := List.any_eq_true.1 c
    rw [h.free z hz] at c
    cases c)]
theorem top_first {l : List ZZ} (hg : ∀ z ∈ l, zOwn z = 0) (hr : Rises pk l) (h : hereK pk l [47] = true) : posK pk l [47] = 0 := by
  have hp := hereK_lt h
  have h0 : 0 < l.length := by omega
  have hn : ¬ pk l[0] < [47] := by
    obtain ⟨_, ⟨t, ht⟩, _⟩ := path_mark (zOwn_ok (hg _ (List.getElem_mem h0))).1
    unfold pk
    rw [ht]
    intro c
    rcases List.cons_lt_cons_iff.1 c with c | ⟨_, c⟩
    · exact UInt8.lt_irrefl _ c
    · exact absurd c (by simp)
  have := (not_congr (posK_iff hr [47] 0 h0)).1 hn
  omega
end Go.Proofs.YtajlnffefoeppaaDoor.Pure

/- What is wrong with a tree: by the program (a search by halves) and by the reference (one by one) the same, for every list of nodes. -/
namespace Go.Proofs.YtajlnffefoeppaaDoor.Pure
open Go.RowKit Go.Proofs.YtajlnffefoeppaaDoor.Qa Go.Proofs.YtajlnffefoeppaaDoorW.PrintWords Go.Proofs.YtajlnffefoeppaaDoorW.PrintLast Go.Proofs.YtajlnffefoeppaaDoor.Aid

theorem bl_pk (a b : ByteArray) : (Op.bytesLess a.toList b.toList = true) = (a.data.toList < b.data.toList) := by
  rw [tl, tl, bl_lt]
  exact decide_eq_true_eq
theorem order_is (z : ZZ) (q : ByteArray) : impl_pathOrder.f z.f0 z.f1 z.f2 z.f3 z.f4 q = some (if pk z < q.data.toList then -1 else if pk z = q.data.toList then 0 else 1) := by
  unfold impl_pathOrder.f strings_Compare.f
  rw [cmp_is]
  rfl
/-- The search by halves. -/
theorem find_l0 {l : List ZZ} (h : Rises pk l) (hl : l.length ≤ 1048576000) (q : ByteArray) (d : Nat) : ∀ (lo hi : Nat), hi - lo ≤ d → lo ≤ posK pk l q.data.toList → posK pk l q.data.toList ≤ hi → hi ≤ l.length → Ev (fun k => slices_BinarySearchFunc_impl_Znode_impl_Znode_string.l0 k l q (l.length : Int) (lo : Int) (hi : Int)) ((posK pk l q.data.toList : Int), hereK pk l q.data.toList) := by
  induction d with
  | zero =>
    intro lo hi hd h1 h2 h3
    have e : lo = posK pk l q.data.toList := by omega
    subst e
    refine ev_done fun k => ?_
    simp only [slices_BinarySearchFunc_impl_Znode_impl_Znode_string.l0]
    rw [if_neg (by omega)]
    by_cases hp : posK pk l q.data.toList < l.length
    · rw [if_pos (by omega), if_pos (by omega), if_pos (by omega), rd_T44_at hp, order_is, Option.bind_some]
      have hn : ¬ pk (l[posK pk l q.data.toList]) < q.data.toList := fun c => by have := (posK_iff h q.data.toList _ hp).1 c; omega
      have e : hereK pk l q.data.toList = decide (pk (l[posK pk l q.data.toList]) = q.data.toList) := by unfold hereK; rw [List.getElem?_eq_getElem hp]
      rw [e, if_neg hn]
      by_cases c : pk (l[posK pk l q.data.toList]) = q.data.toList
      · rw [if_pos c, decide_eq_true c]; rfl
      · rw [if_neg c, decide_eq_false c]; rfl
    · rw [if_neg (by omega)]
      have e : hereK pk l q.data.toList = false := by unfold hereK; rw [List.getElem?_eq_none (by omega)]
      rw [e]
  | succ d ih =>
    intro lo hi hd h1 h2 h3
    by_cases hlt : lo < hi
    · have hm : (lo + hi) / 2 < l.length := by omega
      have hiff := posK_iff h q.data.toList _ hm
      have hmid := mid_eq (a := lo) (b := hi) (by omega)
      by_cases c : pk (l[(lo + hi) / 2]) < q.data.toList
      · refine ev_step (fun k => slices_BinarySearchFunc_impl_Znode_impl_Znode_string.l0 k l q (l.length : Int) (((lo + hi) / 2 + 1 : Nat) : Int) (hi : Int)) (fun k => ?_) (ih _ _ (by omega) (by have := hiff.1 c; omega) h2 h3)
        simp only [slices_BinarySearchFunc_impl_Znode_impl_Znode_string.l0]
        rw [hmid, if_pos (by omega), if_pos (by omega), if_pos (by omega), rd_T44_at hm, order_is, if_pos c, Option.bind_some, if_pos (by omega), wrap_up hm (by omega)]
      · refine ev_step (fun k => slices_BinarySearchFunc_impl_Znode_impl_Znode_string.l0 k l q (l.length : Int) (lo : Int) (((lo + hi) / 2 : Nat) : Int)) (fun k => ?_) (ih _ _ (by omega) h1 (by have := (not_congr hiff).1 c; omega) (by omega))
        simp only [slices_BinarySearchFunc_impl_Znode_impl_Znode_string.l0]
        rw [hmid, if_pos (by omega), if_pos (by omega), if_pos (by omega), rd_T44_at hm, order_is, if_neg c, Option.bind_some, if_neg (by split <;> omega)]
    · exact (fun e : hi - lo ≤ d => ih lo hi e h1 h2 h3) (by omega)
theorem find_is {l : List ZZ} (h : Rises pk l) (hl : l.length ≤ 1048576000) (q : ByteArray) : Ev (fun k => impl_find.f k l q) ((posK pk l q.data.toList : Int), hereK pk l q.data.toList) := by
  unfold impl_find.f slices_BinarySearchFunc_impl_Znode_impl_Znode_string.f
  exact ev_call (find_l0 h hl q l.length 0 l.length (by omega) (by omega) (posK_le pk l _) (Nat.le_refl _)) (Ev.now _)
/-- One by one. -/
theorem at_l0 {l : List ZZ} (h : Rises pk l) (hl : l.length ≤ 1048576000) (q : ByteArray) (d : Nat) : ∀ (i : Nat), i + d = l.length → (hereK pk l q.data.toList = true → i ≤ posK pk l q.data.toList) → Ev (fun k => spec_l2At.l0 k l q (i : Int)) (if hereK pk l q.data.toList then (posK pk l q.data.toList : Int) else -1) := by
  induction d with
  | zero =>
    intro i hd hi
    have e : hereK pk l q.data.toList = false := by
      cases c : hereK pk l q.data.toList with
      | false => rfl
      | true => have := hereK_lt c; have := hi c; omega
    rw [e]
    exact ev_done fun k => by simp only [spec_l2At.l0]; rw [if_neg (by omega)]; rfl
  | succ d ih =>
    intro i hd hi
    have hil : i < l.length := by omega
    by_cases c : pk l[i] = q.data.toList
    · obtain ⟨e1, e2⟩ := hereK_at h i hil
      rw [c] at e1 e2
      rw [e2, e1]
      exact ev_done fun k => by simp only [spec_l2At.l0]; rw [if_pos (by omega), if_pos (by omega), rd_T44_at hil, tl, tl, if_pos (show (l[i]).f0.data.toList = q.data.toList from c)]; rfl
    · refine ev_step (fun k => spec_l2At.l0 k l q ((i + 1 : Nat) : Int)) (fun k => ?_) (ih (i + 1) (by omega) (fun hh => ?_))
      · simp only [spec_l2At.l0]; rw [if_pos (by omega), if_pos (by omega), rd_T44_at hil, tl, tl, if_neg (show ¬ (l[i]).f0.data.toList = q.data.toList from c), wrap_up hil (by omega)]
      · have h1 := hi hh
        have h2 := hereK_eq hh
        have : i ≠ posK pk l q.data.toList := fun e => c (by
          have : ∀ (j : Nat) (hj : j < l.length), i = j → pk l[j] = q.data.toList → pk l[i] = q.data.toList := fun j hj e => by subst e; exact id
          exact this _ (hereK_lt hh) e h2)
        omega
theorem at_is {l : List ZZ} (h : Rises pk l) (hl : l.length ≤ 1048576000) (q : ByteArray) : Ev (fun k => spec_l2At.f k l q) (if hereK pk l q.data.toList then (posK pk l q.data.toList : Int) else -1) := at_l0 h hl q l.length 0 (by omega) (fun _ => Nat.zero_le _)

/-- One node, by the program. -/
theorem nodeFault_is (z : ZZ) : Ev (fun k => impl_nodeFault.f k z.f0 z.f1 z.f2 z.f3 z.f4) (zOwn z) := by
  unfold impl_nodeFault.f zOwn
  refine ev_call (fault_impl z.f0) (ev_is fun k => ?_)
  by_cases h : faultR z.f0 = 0
  · rw [if_pos h, if_pos h]
    unfold impl_isData.f impl_isOwner.f zIn
    rw [impl_within_is, impl_within_is, impl_within_is, impl_within_is]
    by_cases c1 : 0 ≤ z.f1 ∧ z.f1 ≤ 9999 <;> by_cases c2 : 0 ≤ z.f2 ∧ z.f2 ≤ 999 <;> by_cases c3 : 0 ≤ z.f3 ∧ z.f3 ≤ 9 <;> by_cases c4 : 0 ≤ z.f4 ∧ z.f4 ≤ 100 <;> simp [c1, c2, c3, c4]
  · rw [if_neg h, if_neg h]
def prevK (l : List ZZ) : Nat → Option (List UInt8)
  | 0 => none
  | i + 1 => some (pk (rd_T44 l (i : Int)))
theorem wrap_dn {i : Nat} (h : i < 4611686018427387904) : wrap64 (((i + 1 : Nat) : Int) - 1) = (i : Int) := by
  rw [wrap_id (by omega) (by omega)]
  omega
/-- What is left when the nodes one by one are right. -/
theorem impl_l0 (l : List ZZ) (hl : l.length ≤ 20) (r : Int) (hr : zFrom none l = 0 → Ev (fun k => impl_TreeFault.l0 k l l (l.length : Int) (l.length : Int)) r) (d : Nat) : ∀ (i : Nat), i + d = l.length → (zFrom none l = zFrom (prevK l i) (l.drop i)) → Ev (fun k => impl_TreeFault.l0 k l l (l.length : Int) (i : Int)) (if zFrom none l = 0 then r else zFrom none l) := by
  induction d with
  | zero =>
    intro i h he
    have e : i = l.length := by omega
    subst e
    rw [List.drop_length] at he
    have h0 : zFrom none l = 0 := he
    rw [if_pos h0]
    exact hr h0
  | succ d ih =>
    intro i h he
    have hi : i < l.length := by omega
    have hrd := rd_T44_at hi
    rw [drop_at hi, zFrom_cons] at he
    have hp : prevK l (i + 1) = some (pk l[i]) := by rw [prevK, hrd]
    refine ev_step (fun k => (impl_nodeFault.f k (l[i]).f0 (l[i]).f1 (l[i]).f2 (l[i]).f3 (l[i]).f4).bind fun t103 => (if t103 = 0 then (if (i : Int) > 0 then (if 0 ≤ (wrap64 ((i : Int) - 1)) then (if (wrap64 ((i : Int) - 1)) < (l.length : Int) then (if ((Op.bytesLess (((rd_T44 l (wrap64 ((i : Int) - 1))).f0).toList) (((l[i]).f0).toList)) = true) then (impl_TreeFault.l0 k l l (l.length : Int) ((i + 1 : Nat) : Int)) else (some 1)) else (none)) else (none)) else (impl_TreeFault.l0 k l l (l.length : Int) ((i + 1 : Nat) : Int))) else (some t103))) (fun k => ?_) (ev_call (nodeFault_is l[i]) ?_)
    · simp only [impl_TreeFault.l0]
      rw [if_pos (by omega), if_pos (by omega), if_pos (by omega), hrd, wrap_up hi (by omega)]
    · by_cases ho : zOwn l[i] = 0
      · refine ev_cong (fun k => if_pos ho) ?_
        cases i with
        | zero =>
          have e1 : zOne (prevK l 0) l[0] = 0 := by unfold zOne; rw [if_pos ho]; rfl
          rw [if_pos e1] at he
          rw [← hp] at he
          exact ev_cong (fun k => if_neg (by omega)) (ih 1 (by omega) he)
        | succ j =>
          have hj : j < l.length := by omega
          have wd := wrap_dn (i := j) (by omega)
          refine ev_cong (fun k => (if_pos (by omega)).trans ?_) (f := fun k => if ((Op.bytesLess (((rd_T44 l (j : Int)).f0).toList) (((l[j + 1]).f0).toList)) = true) then (impl_TreeFault.l0 k l l (l.length : Int) ((j + 1 + 1 : Nat) : Int)) else (some 1)) ?_
          · rw [wd, if_pos (by omega), if_pos (by omega)]
          · by_cases c : pk (rd_T44 l (j : Int)) < pk l[j + 1]
            · have e1 : zOne (prevK l (j + 1)) l[j + 1] = 0 := by unfold zOne; rw [if_pos ho]; exact if_pos c
              rw [if_pos e1, ← hp] at he
              refine ev_cong (fun k => if_pos (by rw [bl_pk]; exact c)) (ih (j + 1 + 1) (by omega) he)
            · have e1 : zOne (prevK l (j + 1)) l[j + 1] = 1 := by unfold zOne; rw [if_pos ho]; exact if_neg c
              rw [e1, if_neg (by omega)] at he
              rw [he, if_neg (by omega)]
              exact ev_is fun k => if_neg (by rw [bl_pk]; exact c)
      · have e1 : zOne (prevK l i) l[i] = zOwn l[i] := by unfold zOne; rw [if_neg ho]
        rw [e1, if_neg ho] at he
        rw [he, if_neg ho]
        exact ev_is fun k => if_neg ho
theorem spec_l0 (l : List ZZ) (hl : l.length ≤ 20) (r : Int) (hr : zFrom none l = 0 → Ev (fun k => spec_l2Fault.l0 k l (l.length : Int)) r) (d : Nat) : ∀ (i : Nat), i + d = l.length → (zFrom none l = zFrom (prevK l i) (l.drop i)) → Ev (fun k => spec_l2Fault.l0 k l (i : Int)) (if zFrom none l = 0 then r else zFrom none l) := by
  induction d with
  | zero =>
    intro i h he
    have e : i = l.length := by omega
    subst e
    rw [List.drop_length] at he
    have h0 : zFrom none l = 0 := he
    rw [if_pos h0]
    exact hr h0
  | succ d ih =>
    intro i h he
    have hi : i < l.length := by omega
    have hrd := rd_T44_at hi
    rw [drop_at hi, zFrom_cons] at he
    have hp : prevK l (i + 1) = some (pk l[i]) := by rw [prevK, hrd]
    refine ev_step (fun k => (spec_l1Fault.f k (l[i]).f0).bind fun t103 => (if t103 = 0 then spec_l2Fault.j1 k l (i : Int) (!zIn l[i]) else (some t103))) (fun k => ?_) (ev_call (fault_spec (l[i]).f0) ?_)
    · simp only [spec_l2Fault.l0]
      rw [if_pos (by omega), if_pos (by omega), hrd]
      refine congrArg (fun z => Option.bind _ z) (funext fun t => ?_)
      unfold spec_l2Data.f spec_l2Owner.f zIn
      rw [spec_l1In_is, spec_l1In_is, spec_l1In_is, spec_l1In_is]
      by_cases c0 : t = 0
      · rw [if_pos c0, if_pos c0]
        by_cases c1 : 0 ≤ (l[i]).f1 ∧ (l[i]).f1 ≤ 9999 <;> by_cases c2 : 0 ≤ (l[i]).f2 ∧ (l[i]).f2 ≤ 999 <;> by_cases c3 : 0 ≤ (l[i]).f3 ∧ (l[i]).f3 ≤ 9 <;> by_cases c4 : 0 ≤ (l[i]).f4 ∧ (l[i]).f4 ≤ 100 <;> simp [c1, c2, c3, c4]
      · rw [if_neg c0, if_neg c0]
    · by_cases hf : faultR (l[i]).f0 = 0
      · refine ev_cong (fun k => if_pos hf) ?_
        cases hz : zIn l[i] with
        | false =>
          have ho : zOwn l[i] = 3 := by unfold zOwn; rw [if_pos hf, if_neg (by simp [hz])]
          have e1 : zOne (prevK l i) l[i] = 3 := by unfold zOne; rw [if_neg (by omega), ho]
          rw [e1, if_neg (by omega)] at he
          rw [he, if_neg (by omega)]
          exact ev_done fun k => by simp only [spec_l2Fault.j1]; exact if_pos rfl
        | true =>
          have ho : zOwn l[i] = 0 := by unfold zOwn; rw [if_pos hf, if_pos hz]
          cases i with
          | zero =>
            have e1 : zOne (prevK l 0) l[0] = 0 := by unfold zOne; rw [if_pos ho]; rfl
            rw [if_pos e1, ← hp] at he
            refine ev_step (fun k => spec_l2Fault.l0 k l ((0 + 1 : Nat) : Int)) (fun k => ?_) (ih 1 (by omega) he)
            simp only [spec_l2Fault.j1]; rw [if_neg (by simp), if_neg (by omega), wrap_up hi (by omega)]
          | succ j =>
            have hj : j < l.length := by omega
            have wd := wrap_dn (i := j) (by omega)
            by_cases c : pk (rd_T44 l (j : Int)) < pk l[j + 1]
            · have e1 : zOne (prevK l (j + 1)) l[j + 1] = 0 := by unfold zOne; rw [if_pos ho]; exact if_pos c
              rw [if_pos e1, ← hp] at he
              refine ev_step (fun k => spec_l2Fault.l0 k l ((j + 1 + 1 : Nat) : Int)) (fun k => ?_) (ih (j + 1 + 1) (by omega) he)
              simp only [spec_l2Fault.j1]; rw [if_neg (by simp), if_pos (by omega), if_pos (by omega), if_pos (by omega), wd, if_pos (by omega), if_pos (by omega), if_pos (by rw [hrd, bl_pk]; exact c), wrap_up hi (by omega)]
            · have e1 : zOne (prevK l (j + 1)) l[j + 1] = 1 := by unfold zOne; rw [if_pos ho]; exact if_neg c
              rw [e1, if_neg (by omega)] at he
              rw [he, if_neg (by omega)]
              exact ev_done fun k => by simp only [spec_l2Fault.j1]; rw [if_neg (by simp), if_pos (by omega), if_pos (by omega), if_pos (by omega), wd, if_pos (by omega), if_pos (by omega), if_neg (by rw [hrd, bl_pk]; exact c)]
      · have ho : zOwn l[i] = faultR (l[i]).f0 := by unfold zOwn; rw [if_neg hf]
        have e1 : zOne (prevK l i) l[i] = zOwn l[i] := by unfold zOne; rw [if_neg (by rw [ho]; exact hf)]
        rw [e1, ho, if_neg hf] at he
        rw [he, if_neg hf]
        exact ev_is fun k => if_neg hf
/-- The parents, by the reference: they are there .. -/
theorem spec_l1_ (l : List ZZ) (hg : ∀ z ∈ l, zOwn z = 0) (hR : Rises pk l) (hl : l.length ≤ 20) (r : Int) (hr : l.all (upHere l) = true → Ev (fun k => spec_l2Fault.l2 k l 0) r) (d : Nat) : ∀ (i : Nat), i + d = l.length → (l.all (upHere l) = (l.drop i).all (upHere l)) → Ev (fun k => spec_l2Fault.l1 k l (i : Int)) (if l.all (upHere l) = true then r else 4) := by
  induction d with
  | zero =>
    intro i h he
    rw [drop_end (by omega)] at he
    have he' : l.all (upHere l) = true := he
    rw [if_pos he']
    refine ev_step _ (fun k => ?_) (hr he')
    simp only [spec_l2Fault.l1]; rw [if_neg (by omega)]
  | succ d ih =>
    intro i h he
    have hi : i < l.length := by omega
    have hrd := rd_T44_at hi
    rw [drop_at hi, List.all_cons] at he
    have hgi := zOwn_ok (hg _ (List.getElem_mem hi))
    refine ev_step (fun k => (spec_l1Parent.f k (l[i]).f0).bind fun t116 => ((spec_l2At.f k l t116).bind fun t117 => (if t117 < 0 then (some 4) else (spec_l2Fault.l1 k l ((i + 1 : Nat) : Int))))) (fun k => ?_) (ev_call (parent_is hgi.1) (ev_call (at_is hR (by omega) (upR (l[i]).f0)) ?_))
    · simp only [spec_l2Fault.l1]; rw [if_pos (by omega), if_pos (by omega), hrd, wrap_up hi (by omega)]
    · have e : hereK pk l (upR (l[i]).f0).data.toList = upHere l l[i] := rfl
      rw [e]
      cases c : upHere l l[i] with
      | true =>
        rw [c, Bool.true_and] at he
        exact ev_cong (fun k => if_neg (by rw [if_pos rfl]; omega)) (ih (i + 1) (by omega) he)
      | false =>
        rw [c, Bool.false_and] at he
        rw [he, if_neg (by simp)]
        exact ev_is fun k => if_pos (by simp)
/-- .. and nobody's. -/
theorem spec_l2_ (l : List ZZ) (hg : ∀ z ∈ l, zOwn z = 0) (hR : Rises pk l) (hl : l.length ≤ 20) (hA : l.all (upHere l) = true) (d : Nat) : ∀ (i : Nat), i + d = l.length → (l.any (upOwn l) = (l.drop i).any (upOwn l)) → Ev (fun k => spec_l2Fault.l2 k l (i : Int)) (if l.any (upOwn l) = true then 1 else 0) := by
  induction d with
  | zero =>
    intro i h he
    rw [drop_end (by omega)] at he
    have he' : l.any (upOwn l) = false := he
    rw [he', if_neg (by simp)]
    exact ev_done fun k => by simp only [spec_l2Fault.l2]; rw [if_neg (by omega)]
  | succ d ih =>
    intro i h he
    have hi : i < l.length := by omega
    have hrd := rd_T44_at hi
    rw [drop_at hi, List.any_cons] at he
    have hgi := zOwn_ok (hg _ (List.getElem_mem hi))
    have hh : hereK pk l (upR (l[i]).f0).data.toList = true := List.all_eq_true.1 hA _ (List.getElem_mem hi)
    have hp := hereK_lt hh
    have ho : upOwn l l[i] = !decide ((rd_T44 l (posK pk l (upR (l[i]).f0).data.toList : Int)).f3 = 0) := rfl
    refine ev_step (fun k => (spec_l1Parent.f k (l[i]).f0).bind fun t119 => ((spec_l2At.f k l t119).bind fun t120 => (if 0 ≤ t120 then (if t120 < (l.length : Int) then (if ((rd_T44 l t120).f3) = 0 then (spec_l2Fault.l2 k l ((i + 1 : Nat) : Int)) else (some 1)) else (none)) else (none)))) (fun k => ?_) (ev_call (parent_is hgi.1) (ev_call (at_is hR (by omega) (upR (l[i]).f0)) ?_))
    · simp only [spec_l2Fault.l2]; rw [if_pos (by omega), if_pos (by omega), hrd, wrap_up hi (by omega)]
    · rw [hh]
      generalize hP : posK pk l (upR (l[i]).f0).data.toList = P at hp ho
      refine ev_cong (f := fun k => (if ((rd_T44 l (P : Int)).f3) = 0 then (spec_l2Fault.l2 k l ((i + 1 : Nat) : Int)) else (some 1))) (fun k => ?_) ?_
      · rw [if_pos rfl, if_pos (by omega), if_pos (by omega)]
      · by_cases c : (rd_T44 l (P : Int)).f3 = 0
        · have : upOwn l l[i] = false := by rw [ho, decide_eq_true c]; rfl
          rw [this, Bool.false_or] at he
          exact ev_cong (fun k => if_pos c) (ih (i + 1) (by omega) he)
        · have : upOwn l l[i] = true := by rw [ho, decide_eq_false c]; rfl
          rw [this, Bool.true_or] at he
          rw [he, if_pos rfl]
          exact ev_is fun k => if_neg c
theorem treeR_spec (l : List ZZ) : Ev (fun k => spec_l2Fault.f k l) (treeR l) := by
  unfold spec_l2Fault.f treeR
  by_cases h : l.length > 20
  · rw [if_pos h]
    exact ev_is fun k => if_pos (by omega)
  · rw [if_neg h]
    refine ev_cong (fun k => if_neg (by omega)) (spec_l0 l (by omega) _ (fun hz => ?_) l.length 0 (by omega) rfl)
    obtain ⟨hg, hR, _⟩ := zFrom_ok l none hz
    refine ev_step (fun k => (spec_l2At.f k l (⟨#[47]⟩ : ByteArray)).bind fun t114 => (if t114 < 0 then (some 4) else (spec_l2Fault.l1 k l 0))) (fun k => ?_) (ev_call (at_is hR (by omega) (⟨#[47]⟩ : ByteArray)) ?_)
    · simp only [spec_l2Fault.l0]; rw [if_neg (by omega)]
    · have e : (⟨#[47]⟩ : ByteArray).data.toList = [47] := rfl
      rw [e]
      cases c : hereK pk l [47] with
      | false =>
        rw [if_neg (by simp)]
        exact ev_is fun k => if_pos (by simp)
      | true =>
        rw [if_pos rfl]
        refine ev_cong (fun k => if_neg (by omega)) (spec_l1_ l hg hR (by omega) _ (fun hA => ?_) l.length 0 (by omega) rfl)
        exact spec_l2_ l hg hR (by omega) hA l.length 0 (by omega) rfl
/-- The parents, by the program: all but the first node's. -/
theorem impl_l1_ (l m : List ZZ) (hm : ∀ z ∈ m, zOwn z = 0) (hR : Rises pk l) (hl : l.length ≤ 20) (hml : m.length ≤ 20) (d : Nat) : ∀ (i : Nat) (b : Bool), i + d = m.length → Ev (fun k => impl_TreeFault.l1 k l b m (m.length : Int) (i : Int)) (if (m.drop i).all (upHere l) = true then (if (b || (m.drop i).any (upOwn l)) = true then 1 else 0) else 4) := by
  induction d with
  | zero =>
    intro i b h
    rw [drop_end (by omega)]
    refine ev_done fun k => ?_
    simp only [impl_TreeFault.l1]
    rw [if_neg (by omega), List.all_nil, if_pos rfl, List.any_nil, Bool.or_false]
    cases b <;> rfl
  | succ d ih =>
    intro i b h
    have hi : i < m.length := by omega
    have hrd := rd_T44_at hi
    have hgi := zOwn_ok (hm _ (List.getElem_mem hi))
    rw [drop_at hi, List.all_cons, List.any_cons]
    refine ev_step (fun k => (impl_parted.f k (m[i]).f0).bind fun bt114 => ((impl_find.f k l bt114.1).bind fun bt116 => (if bt116.2 = true then (if b = true then (impl_TreeFault.l1 k l true m (m.length : Int) ((i + 1 : Nat) : Int)) else (if 0 ≤ bt116.1 then (if bt116.1 < (l.length : Int) then (impl_TreeFault.l1 k l (((rd_T44 l bt116.1).f3) != 0) m (m.length : Int) ((i + 1 : Nat) : Int)) else (none)) else (none))) else (some 4)))) (fun k => ?_) (ev_call (parted_is hgi.1) (ev_call (find_is hR (by omega) (upR (m[i]).f0)) ?_))
    · simp only [impl_TreeFault.l1]; rw [if_pos (by omega), if_pos (by omega), if_pos (by omega), hrd, wrap_up hi (by omega)]
    · have e : hereK pk l (upR (m[i]).f0).data.toList = upHere l m[i] := rfl
      have ho : upOwn l m[i] = !decide ((rd_T44 l (posK pk l (upR (m[i]).f0).data.toList : Int)).f3 = 0) := rfl
      have hp : upHere l m[i] = true → posK pk l (upR (m[i]).f0).data.toList < l.length := fun c => hereK_lt c
      generalize hP : posK pk l (upR (m[i]).f0).data.toList = P at ho hp
      rw [e]
      cases c : upHere l m[i] with
      | false =>
        rw [Bool.false_and, if_neg (by simp)]
        exact ev_is fun k => if_neg (by simp)
      | true =>
        have hp := hp c
        rw [Bool.true_and]
        cases b with
        | true =>
          have IH := ih (i + 1) true (by omega)
          rw [Bool.true_or] at IH ⊢
          exact ev_cong (fun k => (if_pos rfl).trans (if_pos rfl)) IH
        | false =>
          have e2 : (((rd_T44 l (P : Int)).f3) != 0) = upOwn l m[i] := by
            rw [ho]
            by_cases c2 : (rd_T44 l (P : Int)).f3 = 0
            · rw [decide_eq_true c2, c2]; rfl
            · rw [decide_eq_false c2]; exact bne_iff_ne.2 c2
          have IH := ih (i + 1) (upOwn l m[i]) (by omega)
          rw [Bool.false_or]
          refine ev_cong (fun k => ?_) IH
          rw [if_pos rfl, if_neg (by simp), if_pos (by show 0 ≤ (P : Int); omega), if_pos (by show (P : Int) < (l.length : Int); omega)]
          show impl_TreeFault.l1 k l (((rd_T44 l (P : Int)).f3) != 0) m (m.length : Int) ((i + 1 : Nat) : Int) = _
          rw [e2]
theorem treeR_impl (l : List ZZ) : Ev (fun k => impl_TreeFault.f k l) (treeR l) := by
  unfold impl_TreeFault.f treeR
  by_cases h : l.length > 20
  · rw [if_pos h]
    exact ev_is fun k => if_pos (by omega)
  · rw [if_neg h]
    refine ev_cong (fun k => if_neg (by omega)) (impl_l0 l (by omega) _ (fun hz => ?_) l.length 0 (by omega) rfl)
    obtain ⟨hg, hR, _⟩ := zFrom_ok l none hz
    refine ev_step (fun k => (impl_find.f k l (⟨#[47]⟩ : ByteArray)).bind fun bt105 => (if bt105.2 = true then (if 0 < (l.length : Int) then (if 1 ≤ (l.length : Int) then ((some (l.drop 1 : List ZZ)).bind fun y108 => (impl_TreeFault.l1 k l (((rd_T44 l 0).f3) != 0) y108 (y108.length : Int) 0)) else (none)) else (none)) else (some 4))) (fun k => ?_) (ev_call (find_is hR (by omega) (⟨#[47]⟩ : ByteArray)) ?_)
    · simp only [impl_TreeFault.l0]; rw [if_neg (by omega)]
    · have e : (⟨#[47]⟩ : ByteArray).data.toList = [47] := rfl
      rw [e]
      cases c : hereK pk l [47] with
      | false =>
        rw [if_neg (by simp)]
        exact ev_is fun k => if_neg (by simp)
      | true =>
        rw [if_pos rfl]
        have hp := hereK_lt c
        have h0 := top_first hg hR c
        have hlen : 0 < l.length := by omega
        have hk : pk l[0] = [47] := by
          have := hereK_eq c
          have g : ∀ (j : Nat) (hj : j < l.length), j = 0 → pk l[j] = [47] → pk l[0] = [47] := fun j hj e => by subst e; exact id
          exact g _ hp h0 this
        have hsplit : l = l[0] :: l.drop 1 := by
          have := drop_at hlen
          rwa [List.drop_zero] at this
        have hu : upR (l[0]).f0 = (⟨#[47]⟩ : ByteArray) := upR_top _ hk
        have hu0 : upHere l l[0] = true := by unfold upHere upK; rw [hu]; exact c
        have ho0 : upOwn l l[0] = (((rd_T44 l 0).f3) != 0) := by
          unfold upOwn upK
          rw [hu]
          have e3 : (⟨#[47]⟩ : ByteArray).data.toList = [47] := rfl
          rw [e3, h0]
          show (!decide ((rd_T44 l 0).f3 = 0)) = ((rd_T44 l 0).f3 != 0)
          by_cases c2 : (rd_T44 l 0).f3 = 0
          · rw [decide_eq_true c2, c2]; rfl
          · rw [decide_eq_false c2]; exact (bne_iff_ne.2 c2).symm
        have hall : l.all (upHere l) = (l.drop 1).all (upHere l) := by
          have g : ∀ m : List ZZ, m = l[0] :: l.drop 1 → m.all (upHere l) = (l.drop 1).all (upHere l) := fun m hm => by rw [hm, List.all_cons, hu0, Bool.true_and]
          exact g l hsplit
        have hany : l.any (upOwn l) = ((((rd_T44 l 0).f3) != 0) || (l.drop 1).any (upOwn l)) := by
          have g : ∀ m : List ZZ, m = l[0] :: l.drop 1 → m.any (upOwn l) = ((((rd_T44 l 0).f3) != 0) || (l.drop 1).any (upOwn l)) := fun m hm => by rw [hm, List.any_cons, ho0]
          exact g l hsplit
        rw [hall, hany]
        have := impl_l1_ l (l.drop 1) (fun z hz => hg z (List.mem_of_mem_drop hz)) hR (by omega) (by rw [List.length_drop]; omega) (l.drop 1).length 0 (((rd_T44 l 0).f3) != 0) (by omega)
        rw [List.drop_zero] at this
        refine ev_cong (fun k => ?_) this
        rw [if_pos rfl, if_pos (by omega), if_pos (by omega), Option.bind_some]
        rfl
end Go.Proofs.YtajlnffefoeppaaDoor.Pure

/- Nodes without those of owners: the program and the reference drop the same. -/
namespace Go.Proofs.YtajlnffefoeppaaDoor.Pure
open Go.RowKit Go.Proofs.YtajlnffefoeppaaDoor.Qa Go.Proofs.YtajlnffefoeppaaDoorW.PrintWords Go.Proofs.YtajlnffefoeppaaDoorW.PrintLast Go.Proofs.YtajlnffefoeppaaDoor.Aid
/-- Is a node one of theirs. -/
def goneB (ids : List Int) (z : ZZ) : Bool := decide (z.f3 ≠ 0) && decide (z.f3 ∈ ids)
def dropL (ids : List Int) (l : List ZZ) : List ZZ := l.filter fun z => !goneB ids z
theorem dropL_gone {ids : List Int} {z : ZZ} (l : List ZZ) (h : goneB ids z = true) : dropL ids (z :: l) = dropL ids l := by unfold dropL; rw [List.filter_cons_of_neg (by simp [h])]
theorem dropL_keep {ids : List Int} {z : ZZ} (l : List ZZ) (h : goneB ids z = false) : dropL ids (z :: l) = z :: dropL ids l := by unfold dropL; rw [List.filter_cons_of_pos (by simp [h])]
theorem dropL_len (ids : List Int) (l : List ZZ) : (dropL ids l).length ≤ l.length := List.length_filter_le _ _
theorem dropL_append (ids : List Int) (l m : List ZZ) : dropL ids (l ++ m) = dropL ids l ++ dropL ids m := List.filter_append ..
theorem own_step {x y : Int} {D : List Int} (h : ¬ x = 0) : (false || (decide (x ≠ 0) && decide (x ∈ y :: D))) = ((x == y) || (decide (x ≠ 0) && decide (x ∈ D))) := by
  by_cases e : x = y
  · subst e
    simp [h]
  · simp [e]
/-- One node asked, by the reference: the owners from one place on. -/
theorem drop_l1 {l : List ZZ} (hl : l.length ≤ 1000) (ids : List Int) (hi : ids.length ≤ 1000) (i : Nat) (hil : i < l.length) (out : List ZZ) (ho : out.length ≤ 1000) (R : List ZZ) (hg : ∀ b : Bool, b = goneB ids l[i] → Ev (fun k => spec_l4Drop.l0 k l ids (if b then out else out ++ [l[i]]) ((i + 1 : Nat) : Int)) R) (d : Nat) :
    ∀ (j : Nat) (b : Bool), j + d = ids.length → (goneB ids l[i] = (b || (decide (l[i].f3 ≠ 0) && decide (l[i].f3 ∈ ids.drop j)))) → Ev (fun k => spec_l4Drop.l1 k l ids out (i : Int) b (j : Int)) R := by
  have wi := wrap_up hil (by omega)
  have hrd := rd_T44_at hil
  induction d with
  | zero =>
    intro j b hj hb
    rw [drop_end (by omega)] at hb
    have hb' : b = goneB ids l[i] := by rw [hb]; simp
    have hR := hg b hb'
    cases b with
    | true =>
      rw [if_pos rfl] at hR
      refine ev_step (fun k => spec_l4Drop.l0 k l ids out ((i + 1 : Nat) : Int)) (fun k => ?_) hR
      simp only [spec_l4Drop.l1]
      rw [if_neg (by omega), if_pos trivial, wi]
    | false =>
      rw [if_neg (by decide)] at hR
      refine ev_step (fun k => spec_l4Drop.l0 k l ids (out ++ [l[i]]) ((i + 1 : Nat) : Int)) (fun k => ?_) hR
      simp only [spec_l4Drop.l1]
      rw [if_neg (by omega), if_neg (by decide), if_pos (by omega), if_pos (by omega), if_pos (by omega), wi, hrd]
  | succ d ih =>
    intro j b hj hb
    have hjl : j < ids.length := by omega
    have wj := wrap_up hjl (by omega)
    have hrj := rd_at hjl
    rw [drop_at hjl] at hb
    cases b with
    | true =>
      refine ev_step (fun k => spec_l4Drop.l1 k l ids out (i : Int) true ((j + 1 : Nat) : Int)) (fun k => ?_) (ih (j + 1) true (by omega) (by rw [hb]; simp))
      simp only [spec_l4Drop.l1]
      rw [if_pos (by omega), if_pos trivial, wj]
    | false =>
      by_cases h0 : l[i].f3 = 0
      · refine ev_step (fun k => spec_l4Drop.l1 k l ids out (i : Int) false ((j + 1 : Nat) : Int)) (fun k => ?_) (ih (j + 1) false (by omega) (by rw [hb]; simp [h0]))
        simp only [spec_l4Drop.l1]
        rw [if_pos (by omega), if_neg (by decide), if_pos (by omega), if_pos (by omega), hrd, if_pos h0, wj]
      · refine ev_step (fun k => spec_l4Drop.l1 k l ids out (i : Int) (l[i].f3 == ids[j]) ((j + 1 : Nat) : Int)) (fun k => ?_) (ih (j + 1) (l[i].f3 == ids[j]) (by omega) (hb.trans (own_step h0)))
        simp only [spec_l4Drop.l1]
        rw [if_pos (by omega), if_neg (by decide), if_pos (by omega), if_pos (by omega), hrd, if_neg h0, if_pos (by omega), hrj, wj]
theorem drop_l0 {l : List ZZ} (hl : l.length ≤ 1000) (ids : List Int) (hi : ids.length ≤ 1000) (d : Nat) : ∀ (i : Nat) (out : List ZZ), i + d = l.length → out.length ≤ i → Ev (fun k => spec_l4Drop.l0 k l ids out (i : Int)) (out ++ dropL ids (l.drop i)) := by
  induction d with
  | zero =>
    intro i out h ho
    rw [drop_end (by omega)]
    exact ev_done fun k => by simp only [spec_l4Drop.l0]; rw [if_neg (by omega)]; simp [dropL]
  | succ d ih =>
    intro i out h ho
    have hil : i < l.length := by omega
    refine ev_step (fun k => spec_l4Drop.l1 k l ids out (i : Int) false ((0 : Nat) : Int)) (fun k => by simp only [spec_l4Drop.l0]; rw [if_pos (by omega)]; rfl) ?_
    refine drop_l1 hl ids hi i hil out (by omega) _ (fun b hb => ?_) ids.length 0 false (by omega) (by rw [List.drop_zero]; simp [goneB])
    rw [drop_at hil]
    cases b with
    | true =>
      rw [if_pos rfl, dropL_gone _ hb.symm]
      exact ih (i + 1) out (by omega) (by omega)
    | false =>
      rw [if_neg (by decide), dropL_keep _ hb.symm]
      have := ih (i + 1) (out ++ [l[i]]) (by omega) (by simp; omega)
      rw [List.append_assoc] at this
      exact this
theorem drop_spec {l : List ZZ} (hl : l.length ≤ 1000) (ids : List Int) (hi : ids.length ≤ 1000) : Ev (fun k => spec_l4Drop.f k l ids) (dropL ids l) := by
  have := drop_l0 hl ids hi l.length 0 [] (by omega) (by simp)
  rw [List.drop_zero, List.nil_append] at this
  exact this
/-! ### the program's -/
theorem index_l0 (l : List Int) (v : Int) (hl : l.length ≤ 1000) (d : Nat) : ∀ (i : Nat), i + d = l.length → ∃ r : Int, Ev (fun k => slices_Index_int64_int64.l0 k l v (l.length : Int) (i : Int)) r ∧ (decide (r ≥ 0) = decide (v ∈ l.drop i)) := by
  induction d with
  | zero =>
    intro i h
    rw [drop_end (by omega)]
    exact ⟨-1, ev_done fun k => by simp only [slices_Index_int64_int64.l0]; rw [if_neg (by omega)], by simp⟩
  | succ d ih =>
    intro i h
    have hi : i < l.length := by omega
    rw [drop_at hi]
    by_cases e : v = l[i]
    · refine ⟨i, ev_done fun k => ?_, by rw [decide_eq_true (show v ∈ l[i] :: l.drop (i + 1) by rw [← e]; simp)]; simp⟩
      simp only [slices_Index_int64_int64.l0]
      rw [if_pos (by omega), if_pos (by omega), if_pos (by omega), rd_at hi, if_pos e]
    · obtain ⟨r, hr, q⟩ := ih (i + 1) (by omega)
      refine ⟨r, ev_step (fun k => slices_Index_int64_int64.l0 k l v (l.length : Int) ((i + 1 : Nat) : Int)) (fun k => ?_) hr, by rw [q]; exact decide_eq_decide.2 (by rw [List.mem_cons]; exact ⟨.inr, fun c => c.resolve_left e⟩)⟩
      simp only [slices_Index_int64_int64.l0]
      rw [if_pos (by omega), if_pos (by omega), if_pos (by omega), rd_at hi, if_neg e, wrap_up hi (by omega)]
theorem has_is (l : List Int) (v : Int) (hl : l.length ≤ 1000) : Ev (fun k => slices_Contains_int64_int64.f k l v) (decide (v ∈ l)) := by
  obtain ⟨r, hr, q⟩ := index_l0 l v hl l.length 0 (by omega)
  rw [List.drop_zero] at q
  unfold slices_Contains_int64_int64.f slices_Index_int64_int64.f
  rw [← q]
  exact ev_call hr (Ev.now _)
theorem gone_is (ids : List Int) (hi : ids.length ≤ 1000) (z : ZZ) : Ev (fun k => impl_dropOwned_1.f k z.f0 z.f1 z.f2 z.f3 z.f4 ids) (goneB ids z) := by
  unfold impl_dropOwned_1.f goneB
  by_cases h : z.f3 = 0
  · exact ev_is fun k => by rw [if_pos h]; simp [h]
  · refine ev_cong (fun k => if_neg h) (ev_call (has_is ids z.f3 hi) (ev_is fun k => ?_))
    simp [h]
/-- The first of theirs. -/
theorem first_l0 {l : List ZZ} (hl : l.length ≤ 1000) (ids : List Int) (hi : ids.length ≤ 1000) (d : Nat) : ∀ (i : Nat), i + d = l.length → (∀ z ∈ l.take i, goneB ids z = false) →
    ∃ r : Int, Ev (fun k => slices_IndexFunc_impl_Znode_impl_Znode.l0 k l ids (l.length : Int) (i : Int)) r ∧ ((r = -1 ∧ ∀ z ∈ l, goneB ids z = false) ∨ ∃ (j : Nat) (hj : j < l.length), r = (j : Int) ∧ goneB ids l[j] = true ∧ ∀ z ∈ l.take j, goneB ids z = false) := by
  induction d with
  | zero =>
    intro i h hk
    refine ⟨-1, ev_done fun k => by simp only [slices_IndexFunc_impl_Znode_impl_Znode.l0]; rw [if_neg (by omega)], .inl ⟨rfl, ?_⟩⟩
    rwa [List.take_of_length_le (by omega)] at hk
  | succ d ih =>
    intro i h hk
    have hil : i < l.length := by omega
    have hrd := rd_T44_at hil
    have hg := gone_is ids hi l[i]
    have st : ∀ k, slices_IndexFunc_impl_Znode_impl_Znode.l0 (k + 1) l ids (l.length : Int) (i : Int) = (impl_dropOwned_1.f k l[i].f0 l[i].f1 l[i].f2 l[i].f3 l[i].f4 ids).bind fun t => if t = true then some (i : Int) else slices_IndexFunc_impl_Znode_impl_Znode.l0 k l ids (l.length : Int) ((i + 1 : Nat) : Int) := fun k => by
      simp only [slices_IndexFunc_impl_Znode_impl_Znode.l0]
      rw [if_pos (by omega), if_pos (by omega), if_pos (by omega), hrd, wrap_up hil (by omega)]
    cases c : goneB ids l[i] with
    | true =>
      rw [c] at hg
      exact ⟨i, ev_step _ st (ev_call hg (ev_is fun k => if_pos rfl)), .inr ⟨i, hil, rfl, c, hk⟩⟩
    | false =>
      rw [c] at hg
      obtain ⟨r, hr, q⟩ := ih (i + 1) (by omega) (fun z hz => by
        rw [List.take_succ_eq_append_getElem hil] at hz
        rcases List.mem_append.1 hz with hz | hz
        · exact hk z hz
        · rw [List.mem_singleton] at hz; rw [hz]; exact c)
      exact ⟨r, ev_step _ st (ev_call hg (ev_cong (fun k => if_neg (by decide)) hr)), q⟩
theorem keep_all {ids : List Int} : ∀ {l : List ZZ}, (∀ z ∈ l, goneB ids z = false) → dropL ids l = l
  | [], _ => rfl
  | z :: l, h => by rw [dropL_keep _ (h z (by simp)), keep_all (fun x hx => h x (List.mem_cons_of_mem _ hx))]
theorem take_drop {ids : List Int} {l : List ZZ} {j : Nat} (hj : j < l.length) : dropL ids (l.take (j + 1)) = dropL ids (l.take j) ++ dropL ids [l[j]] := by
  rw [List.take_succ_eq_append_getElem hj, dropL_append]
theorem del_l0 {l : List ZZ} (hl : l.length ≤ 1000) (ids : List Int) (hi : ids.length ≤ 1000) (d : Nat) : ∀ (i j : Nat) (m : List ZZ), j + d = l.length → i < j → m.length = l.length → m.take i = dropL ids (l.take j) → m.drop j = l.drop j →
    Ev (fun k => slices_DeleteFunc_impl_Znode_impl_Znode.l0 k m ids (i : Int) (j : Int)) (dropL ids l) := by
  induction d with
  | zero =>
    intro i j m h hij hm ht hd
    rw [List.take_of_length_le (show l.length ≤ j by omega)] at ht
    refine ev_done fun k => ?_
    simp only [slices_DeleteFunc_impl_Znode_impl_Znode.l0]
    rw [if_neg (by omega), if_pos (by omega), if_pos (by omega), if_pos (by omega), Int.toNat_natCast, ht]
  | succ d ih =>
    intro i j m h hij hm ht hd
    have hjl : j < l.length := by omega
    have hjm : j < m.length := by omega
    have hmj : m[j] = l[j] := by
      rw [drop_at hjl, drop_at hjm] at hd
      exact (List.cons.inj hd).1
    have hd2 : m.drop (j + 1) = l.drop (j + 1) := by
      rw [drop_at hjl, drop_at hjm] at hd
      exact (List.cons.inj hd).2
    have hrd := rd_T44_at hjm
    have wj := wrap_up hjm (by omega)
    have hg := gone_is ids hi m[j]
    cases c : goneB ids m[j] with
    | true =>
      rw [c] at hg
      refine ev_step (fun k => (impl_dropOwned_1.f k m[j].f0 m[j].f1 m[j].f2 m[j].f3 m[j].f4 ids).bind fun t => if t = true then slices_DeleteFunc_impl_Znode_impl_Znode.l0 k m ids (i : Int) ((j + 1 : Nat) : Int) else (if 0 ≤ (i : Int) then (if (i : Int) < (m.length : Int) then slices_DeleteFunc_impl_Znode_impl_Znode.l0 k (m.set i m[j]) ids (wrap64 ((i : Int) + 1)) ((j + 1 : Nat) : Int) else none) else none)) (fun k => ?_) (ev_call hg (ev_cong (fun k => if_pos rfl) (ih i (j + 1) m (by omega) (by omega) hm ?_ hd2)))
      · simp only [slices_DeleteFunc_impl_Znode_impl_Znode.l0]
        rw [if_pos (by omega), if_pos (by omega), hrd, wj, Int.toNat_natCast]
      · rw [take_drop hjl, ← hmj, dropL_gone _ c, ht]
        simp [dropL]
    | false =>
      rw [c] at hg
      have him : i < m.length := by omega
      have wi := wrap_up him (by omega)
      refine ev_step (fun k => (impl_dropOwned_1.f k m[j].f0 m[j].f1 m[j].f2 m[j].f3 m[j].f4 ids).bind fun t => if t = true then slices_DeleteFunc_impl_Znode_impl_Znode.l0 k m ids (i : Int) ((j + 1 : Nat) : Int) else (if 0 ≤ (i : Int) then (if (i : Int) < (m.length : Int) then slices_DeleteFunc_impl_Znode_impl_Znode.l0 k (m.set i m[j]) ids (wrap64 ((i : Int) + 1)) ((j + 1 : Nat) : Int) else none) else none)) (fun k => ?_) (ev_call hg (ev_cong (fun k => (if_neg (by decide)).trans ((if_pos (by omega)).trans (if_pos (by omega)))) ?_))
      · simp only [slices_DeleteFunc_impl_Znode_impl_Znode.l0]
        rw [if_pos (by omega), if_pos (by omega), hrd, wj, Int.toNat_natCast]
      · rw [wi]
        refine ih (i + 1) (j + 1) (m.set i m[j]) (by omega) (by omega) (by rw [List.length_set]; exact hm) ?_ ?_
        · rw [take_set_snoc him, ht, take_drop hjl, ← hmj, dropL_keep _ c]
          rfl
        · rw [List.drop_set_of_lt (by omega)]
          exact hd2
theorem clone_drop (l : List ZZ) (hl : l.length ≤ 1048576000) : slices_Clone_impl_Znode_impl_Znode.f l = some l := by
  unfold slices_Clone_impl_Znode_impl_Znode.f
  simp only [Option.bind_some, List.nil_append, List.length_nil, Nat.zero_add]
  rw [if_pos (by omega)]
theorem drop_impl {l : List ZZ} (hl : l.length ≤ 1000) (ids : List Int) (hi : ids.length ≤ 1000) : Ev (fun k => impl_dropOwned.f k l ids) (dropL ids l) := by
  obtain ⟨r, hr, q⟩ := first_l0 hl ids hi l.length 0 (by omega) (by simp)
  unfold impl_dropOwned.f
  refine ev_cong (fun k => by rw [clone_drop l (by omega), Option.bind_some]) (ev_call (a := dropL ids l) ?_ (Ev.now _))
  unfold slices_DeleteFunc_impl_Znode_impl_Znode.f slices_IndexFunc_impl_Znode_impl_Znode.f
  refine ev_call hr ?_
  rcases q with ⟨rfl, hk⟩ | ⟨j, hj, rfl, hc, hk⟩
  · rw [keep_all hk]
    exact ev_is fun k => if_pos rfl
  · refine ev_cong (fun k => if_neg (by omega)) ?_
    rw [wrap_up hj (by omega)]
    refine del_l0 hl ids hi (l.length - (j + 1)) j (j + 1) l (by omega) (by omega) rfl ?_ rfl
    rw [take_drop hj, dropL_gone _ hc, keep_all hk]
    simp [dropL]
end Go.Proofs.YtajlnffefoeppaaDoor.Pure

/- Answers that hold nodes, and answers that hold texts: compared with themselves, marked, held. -/
namespace Go.Proofs.YtajlnffefoeppaaDoor.Pure
open Go.RowKit Go.Proofs.YtajlnffefoeppaaDoor.Qa Go.Proofs.YtajlnffefoeppaaDoorW.PrintWords Go.Proofs.YtajlnffefoeppaaDoorW.PrintLast Go.Proofs.YtajlnffefoeppaaDoor.Aid
theorem eqZR (c : Int) (p : ByteArray) (l : List ZZ) (hl : l.length ≤ 4611686018427387904) : Ev (fun k => laws_eqZResult.f k c p l c p l) true := by
  unfold laws_eqZResult.f
  exact ev_cong (fun k => if_pos rfl) (ev_cong (fun k => if_pos rfl) (ev_call (laws_eqZnodeS.ev l hl) (ev_is fun k => if_pos rfl)))
theorem markZR (c : Int) (p : ByteArray) (l : List ZZ) (hl : l.length ≤ 1048576000) : Ev (fun k => laws_markZResult.f k c p l 1) (1 + 5 * l.length, rowZnodeS l.length 1) := by
  unfold laws_markZResult.f
  exact ev_call (laws_markZnodeS.ev l 1 hl (by omega) (by omega)) (Ev.now _)
theorem heldZR (c : Int) (p : ByteArray) (n : Nat) (hl : n ≤ 1048576000) : Ev (fun k => laws_heldZResult.f k c p (rowZnodeS n 1) 1) (1 + 5 * (n : Int)) := by
  unfold laws_heldZResult.f
  exact ev_call (laws_heldZnodeS.ev n 1 hl (by omega) (by omega)) (ev_is fun k => if_neg (by omega))
abbrev ZR := Int × ByteArray × List ZZ
def badZ (c : Int) : ZR := (c, (⟨#[]⟩ : ByteArray), [])
end Go.Proofs.YtajlnffefoeppaaDoor.Pure

/- FnExactDropOwned: the program's DropOwned is the reference's, for all nodes and owners; it writes into no argument, and its answer owns its memory. No condition. -/
namespace Go.Proofs.YtajlnffefoeppaaDoor.Pure
open Go.RowKit Go.Proofs.YtajlnffefoeppaaDoor.Qa Go.Proofs.YtajlnffefoeppaaDoorW.PrintWords Go.Proofs.YtajlnffefoeppaaDoorW.PrintLast Go.Proofs.YtajlnffefoeppaaDoor.Aid
noncomputable def dropR (l : List ZZ) (ids : List Int) : ZR := if treeR l = 0 then (if ids.length > 9 then badZ 2 else (0, (⟨#[]⟩ : ByteArray), dropL ids l)) else badZ (treeR l)
theorem bad_is (c : Int) : spec_l2Bad.f c = some (c, (⟨#[]⟩ : ByteArray), ([] : List ZZ)) := rfl
theorem DropOwned_spec (l : List ZZ) (ids : List Int) : Ev (fun k => spec_DropOwned.f k l ids) (dropR l ids) := by
  unfold spec_DropOwned.f dropR
  refine ev_call (treeR_spec l) ?_
  by_cases h : treeR l = 0
  · rw [if_pos h]
    have hf := (right_of h).few
    by_cases h9 : ids.length > 9
    · rw [if_pos h9]
      exact ev_is fun k => (if_pos h).trans ((if_pos (by omega)).trans (by rw [bad_is]; rfl))
    · rw [if_neg h9]
      exact ev_cong (fun k => (if_pos h).trans (if_neg (by omega))) (ev_call (drop_spec (by omega) ids (by omega)) (Ev.now _))
  · rw [if_neg h]
    exact ev_is fun k => (if_neg h).trans (by rw [bad_is]; rfl)
theorem DropOwned_impl (l : List ZZ) (ids : List Int) : Ev (fun k => impl_DropOwned.f k l ids) (dropR l ids) := by
  unfold impl_DropOwned.f dropR
  refine ev_call (treeR_impl l) ?_
  by_cases h : treeR l = 0
  · rw [if_pos h]
    have hf := (right_of h).few
    by_cases h9 : ids.length > 9
    · rw [if_pos h9]
      exact ev_is fun k => (if_pos h).trans (if_pos (by omega))
    · rw [if_neg h9]
      exact ev_cong (fun k => (if_pos h).trans (if_neg (by omega))) (ev_call (drop_impl (by omega) ids (by omega)) (Ev.now _))
  · rw [if_neg h]
    exact ev_is fun k => if_neg h
theorem dropR_len (l : List ZZ) (ids : List Int) : (dropR l ids).2.2.length ≤ l.length := by
  unfold dropR badZ
  split
  · split
    · simp
    · exact dropL_len ids l
  · simp
theorem markInts (d : Nat) : ∀ (i : Nat) (l : List Int) (m : Int), i + d = l.length → l.length ≤ 1048576000 → 0 ≤ m → m + d ≤ 1152921504606846976 → ∃ r, Ev (fun k => laws_markInt64S.l0 k l m (i : Int)) (m + d, r) := by
  induction d with
  | zero =>
    intro i l m h hl h0 hb
    exact ⟨l, ev_done fun k => by simp only [laws_markInt64S.l0]; rw [if_neg (by omega)]; simp⟩
  | succ d ih =>
    intro i l m h hl h0 hb
    have hi : i < l.length := by omega
    obtain ⟨r, hr⟩ := ih (i + 1) (l.set i m) (m + 1) (by rw [List.length_set]; omega) (by rw [List.length_set]; exact hl) (by omega) (by omega)
    refine ⟨r, ?_⟩
    rw [show m + ((d + 1 : Nat) : Int) = m + 1 + (d : Int) by omega]
    refine ev_step _ (fun k => ?_) hr
    simp only [laws_markInt64S.l0]
    rw [if_pos (by omega), if_pos (by omega), Int.toNat_natCast, wr1_ m (by omega) (by omega), wrap_up hi (by omega)]
theorem FnExactDropOwned (l : List S48) (ids : List Int) (hl : l.length ≤ 9223372036854775807 ∧ ∀ y_ ∈ l, g48 y_) (_ : ids.length ≤ 9223372036854775807 ∧ ∀ y_ ∈ ids, (Lit.int .i64 y_).wf = true) : ∃ k, laws_FnExactDropOwned.f k l ids = some true := by
  refine Ev.rounds ?_
  unfold laws_FnExactDropOwned.f
  by_cases hz : (ids.length : Int) > 1048576
  · exact ev_is fun k => if_pos hz
  refine ev_cong (fun k => if_neg hz) ?_
  obtain ⟨r, hr, hq⟩ := laws_szZnodeS.ev l 1048576 hl.1 (fun x hx => (hl.2 x hx).1) (by omega) (by omega)
  refine ev_step _ (fun k => by simp only [laws_FnExactDropOwned.j0]; rfl) (ev_call hr ?_)
  by_cases h : r < 0
  · exact ev_is fun k => if_pos h
  refine ev_cong (fun k => if_neg h) ?_
  obtain ⟨h1, h2, _⟩ := hq (by omega)
  have ht := laws_toZnodeS.ev l (by omega)
  have hti := laws_toInt64S.ev ids (by omega)
  have h3 : (l.map cvZnode).length ≤ 1048576 := by rw [List.length_map]; omega
  have hS := DropOwned_spec (l.map cvZnode) ids
  have hI := DropOwned_impl (l.map cvZnode) ids
  have hR := dropR_len (l.map cvZnode) ids
  generalize dropR (l.map cvZnode) ids = R at hS hI hR ⊢
  have hE := eqZR R.1 R.2.1 R.2.2 (by omega)
  have hM := markZR R.1 R.2.1 R.2.2 (by omega)
  have hH := heldZR R.1 R.2.1 R.2.2.length (by omega)
  obtain ⟨row, hrow⟩ := markInts ids.length 0 ids (1 + 5 * ((l.map cvZnode).length : Int)) (by omega) (by omega) (by omega) (by omega)
  have hrow' : Ev (fun k => laws_markInt64S.f k ids (1 + 5 * ((l.map cvZnode).length : Int))) (1 + 5 * ((l.map cvZnode).length : Int) + (ids.length : Int), row) := hrow
  refine ev_step _ (fun k => by simp only [laws_FnExactDropOwned.j1]; rfl) (ev_call ht (ev_call hti (ev_call hS (ev_call ht (ev_call hti (ev_call hI (ev_call hE (ev_cong (fun k => if_pos rfl) ?_))))))))
  refine ev_step _ (fun k => by simp only [laws_FnExactDropOwned.j2]; rfl) (ev_call ht (ev_call (laws_eqZnodeS.ev (l.map cvZnode) (by omega)) (ev_cong (fun k => if_pos rfl) ?_)))
  refine ev_step _ (fun k => by simp only [laws_FnExactDropOwned.j3]; rfl) (ev_call hti (ev_call (laws_eqInt64S.ev ids (by omega)) (ev_cong (fun k => if_pos rfl) ?_)))
  refine ev_step _ (fun k => by simp only [laws_FnExactDropOwned.j4]; rfl) (ev_call (laws_markZnodeS.ev (l.map cvZnode) 1 (by omega) (by omega) (by omega)) (ev_call hrow' (ev_cong (fun k => if_neg (by show ¬ (1 + 5 * ((l.map cvZnode).length : Int) + (ids.length : Int) < 0); omega)) (ev_call hE ?_))))
  refine ev_step _ (fun k => by simp only [laws_FnExactDropOwned.j5]; rw [if_neg (by simp)]) ?_
  refine ev_step _ (fun k => by simp only [laws_FnExactDropOwned.j6]; rfl) (ev_call hM (ev_call hH (ev_cong (fun k => if_neg (show ¬ (1 + 5 * (R.2.2.length : Int) < 0) by omega)) ?_)))
  refine ev_step _ (fun k => by simp only [laws_FnExactDropOwned.j7]; exact if_pos trivial) ?_
  refine ev_step _ (fun k => by simp only [laws_FnExactDropOwned.j8]; rfl) (ev_call ht (ev_call hti (ev_call hI (ev_call hE (ev_cong (fun k => if_pos rfl) ?_)))))
  refine ev_step _ (fun k => by simp only [laws_FnExactDropOwned.j9]; rfl) (ev_call hH (ev_is fun k => ?_))
  rw [if_neg (show ¬ (1 + 5 * (R.2.2.length : Int) < 0) by omega), if_pos rfl]
end Go.Proofs.YtajlnffefoeppaaDoor.Pure
