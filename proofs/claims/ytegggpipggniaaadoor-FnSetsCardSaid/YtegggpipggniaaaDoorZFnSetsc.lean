/- A part of the proof that for every input the law FnSets returns true: no condition. Functions of the translation, each proved to do what a plain Lean function tells, and what these tell. -/
import Derived.Test.YtegggpipggniaaaDoorQax0
import Derived.Test.YtegggpipggniaaaDoorQax1
import Derived.Test.YtegggpipggniaaaDoorQax2
import Derived.Test.YtegggpipggniaaaDoorQax20
import Derived.Test.YtegggpipggniaaaDoorQax22
import Derived.Test.YtegggpipggniaaaDoorZFnSetsb
import Derived.Test.YtegggpipggniaaaDoorWWords
import Derived.Deep.Slices
import Derived.ChangeArms
import Derived.Test.YtegggpipggniaaaDoorZFnSetsa
import Derived.Test.YtegggpipggniaaaDoorQax7
import Derived.Test.YtegggpipggniaaaDoorQax10
import Derived.Test.YtegggpipggniaaaDoorQax11
import Derived.Test.YtegggpipggniaaaDoorQax12
import Derived.Test.YtegggpipggniaaaDoorQax13
import Derived.Test.YtegggpipggniaaaDoorQax14
import Derived.Test.YtegggpipggniaaaDoorQax15
import Derived.Test.YtegggpipggniaaaDoorQax17
import Derived.Test.YtegggpipggniaaaDoorQax18
import Derived.Test.YtegggpipggniaaaDoorQax19
import Derived.Lib.Bytealg
import Derived.Test.YtegggpipggniaaaDoorQax16
import Derived.Test.YtegggpipggniaaaDoorQax3
import Derived.Test.YtegggpipggniaaaDoorQax4
import Derived.Test.YtegggpipggniaaaDoorQax5
import Derived.Test.YtegggpipggniaaaDoorQax6
import Derived.Test.YtegggpipggniaaaDoorQax8
import Derived.Test.YtegggpipggniaaaDoorQax9
namespace Go.Proofs.YtegggpipggniaaaDoor.Qa
open Go.RowKit Go.Proofs.YtegggpipggniaaaDoorW.PrintWords Go.Proofs.YtegggpipggniaaaDoorW.PrintLast Go.Proofs.YtegggpipggniaaaDoorW.PrintMore
attribute [local go_sem] max2_int min2_int max_two min_two max_three min_three max_four min_four
set_option linter.unusedVariables false
set_option linter.unusedSimpArgs false
attribute [local go_sem high] eqA32
set_option maxHeartbeats 8000000
set_option maxRecDepth 100000
mutual
def laws_FnSets.j0 : Nat → List Int → Option (Bool)
 | 0, _ => none
 | k + 1, x0 => (spec_DrawSetZ.f k x0).bind fun bt102 => ((impl_SetZ.f k bt102.1 bt102.2.1 bt102.2.2.1 bt102.2.2.2).bind fun bt108 => (if bt108.1 = 0 then (laws_FnSets.j1 k bt102.1 bt102.2.1 bt102.2.2.1 bt102.2.2.2 bt108.1 bt108.2.1 bt108.2.2) else ((spec_SetZ.f k bt102.1 bt102.2.1 bt102.2.2.1 bt102.2.2.2).bind fun bt114 => (some (bt114.1 == bt108.1)))))
def laws_FnSets.j1 : Nat → List (S32) → ByteArray → Int → Int → Int → ByteArray → List (S32) → Option (Bool)
 | 0, _, _, _, _, _, _, _ => none
 | k + 1, x3, x4, x5, x6, x114000, x114001, x114002 => (impl_GetZ.f k x114002 x4).bind fun bt119 => ((impl_GetZ.f k x3 x4).bind fun bt125 => (if bt119.1 = 0 then (if (bt119.2.2.length : Int) = 1 then (laws_FnSets.j2 k x3 x4 x5 x6 ((bt125.2.2.length : Int) != 1) x114000 x114001 x114002 bt119.1 bt119.2.1 bt119.2.2 bt125.1 bt125.2.1 bt125.2.2) else (laws_FnSets.j2 k x3 x4 x5 x6 true x114000 x114001 x114002 bt119.1 bt119.2.1 bt119.2.2 bt125.1 bt125.2.1 bt125.2.2)) else (laws_FnSets.j2 k x3 x4 x5 x6 true x114000 x114001 x114002 bt119.1 bt119.2.1 bt119.2.2 bt125.1 bt125.2.1 bt125.2.2)))
def laws_FnSets.j2 : Nat → List (S32) → ByteArray → Int → Int → Bool → Int → ByteArray → List (S32) → Int → ByteArray → List (S32) → Int → ByteArray → List (S32) → Option (Bool)
 | 0, _, _, _, _, _, _, _, _, _, _, _, _, _, _ => none
 | k + 1, x3, x4, x5, x6, x60, x114000, x114001, x114002, x125000, x125001, x125002, x131000, x131001, x131002 => if x60 = true then (some false) else (laws_FnSets.j3 k x3 x4 x5 x6 x114000 x114001 x114002 x125000 x125001 x125002 x131000 x131001 x131002)
def laws_FnSets.j3 : Nat → List (S32) → ByteArray → Int → Int → Int → ByteArray → List (S32) → Int → ByteArray → List (S32) → Int → ByteArray → List (S32) → Option (Bool)
 | 0, _, _, _, _, _, _, _, _, _, _, _, _, _ => none
 | k + 1, x3, x4, x5, x6, x114000, x114001, x114002, x125000, x125001, x125002, x131000, x131001, x131002 => if 0 < (x131002.length : Int) then ((impl_SetZ.f k x114002 x4 x5 ((rd_T32 x131002 0).f2)).bind fun bt132 => (laws_FnSets.l0 k x3 x5 x6 0 0 x114000 x114001 x114002 x125000 x125001 x125002 x131000 x131001 x131002 bt132.1 bt132.2.1 bt132.2.2)) else (none)
def laws_FnSets.l0 : Nat → List (S32) → Int → Int → Int → Int → Int → ByteArray → List (S32) → Int → ByteArray → List (S32) → Int → ByteArray → List (S32) → Int → ByteArray → List (S32) → Option (Bool)
 | 0, _, _, _, _, _, _, _, _, _, _, _, _, _, _, _, _, _ => none
 | k + 1, x3, x5, x6, x11, x12, x114000, x114001, x114002, x125000, x125001, x125002, x131000, x131001, x131002, x138000, x138001, x138002 => if x12 < (x3.length : Int) then (laws_FnSets.j5 k x3 x5 x6 x11 x12 (decide (x12 < (x114002.length : Int))) x114000 x114001 x114002 x125000 x125001 x125002 x131000 x131001 x131002 x138000 x138001 x138002) else (laws_FnSets.j5 k x3 x5 x6 x11 x12 false x114000 x114001 x114002 x125000 x125001 x125002 x131000 x131001 x131002 x138000 x138001 x138002)
def laws_FnSets.j5 : Nat → List (S32) → Int → Int → Int → Int → Bool → Int → ByteArray → List (S32) → Int → ByteArray → List (S32) → Int → ByteArray → List (S32) → Int → ByteArray → List (S32) → Option (Bool)
 | 0, _, _, _, _, _, _, _, _, _, _, _, _, _, _, _, _, _, _ => none
 | k + 1, x3, x5, x6, x11, x12, x81, x114000, x114001, x114002, x125000, x125001, x125002, x131000, x131001, x131002, x138000, x138001, x138002 => if x81 = true then (if 0 ≤ x12 then (if x12 < (x3.length : Int) then (if x12 < (x114002.length : Int) then (if (!((((rd_T32 x3 x12).f0).toList) == (((rd_T32 x114002 x12).f0).toList)) || (!(((rd_T32 x3 x12).f1) == ((rd_T32 x114002 x12).f1)) || (!(((rd_T32 x3 x12).f2) == ((rd_T32 x114002 x12).f2)) || (!(((rd_T32 x3 x12).f3) == ((rd_T32 x114002 x12).f3)) || (!(((rd_T32 x3 x12).f4) == ((rd_T32 x114002 x12).f4))))))) = true then (laws_FnSets.l0 k x3 x5 x6 (wrap64 (x11 + 1)) (wrap64 (x12 + 1)) x114000 x114001 x114002 x125000 x125001 x125002 x131000 x131001 x131002 x138000 x138001 x138002) else (laws_FnSets.l0 k x3 x5 x6 x11 (wrap64 (x12 + 1)) x114000 x114001 x114002 x125000 x125001 x125002 x131000 x131001 x131002 x138000 x138001 x138002)) else (none)) else (none)) else (none)) else ((impl_TreeFault.f k x114002).bind fun t140 => (if t140 = 0 then (if 0 < (x125002.length : Int) then (if ((rd_T32 x125002 0).f1) = x5 then (if 0 < (x131002.length : Int) then (if ((rd_T32 x125002 0).f2) = (wrap64 (((rd_T32 x131002 0).f2) + 1)) then (if x6 = (-1) then (if x138000 = 7 then (if x11 = 1 then (some ((x114002.length : Int) == (x3.length : Int))) else (some false)) else (some false)) else (if x6 = ((rd_T32 x131002 0).f2) then (if x138000 = 7 then (if x11 = 1 then (some ((x114002.length : Int) == (x3.length : Int))) else (some false)) else (some false)) else (some false))) else (some false)) else (none)) else (some false)) else (none)) else (some false)))
end
def laws_FnSets.f (k : Nat) (l0 : List Int) : Option (Bool) := (laws_lwBig.f l0).bind fun t101 => (if t101 = true then (some true) else (laws_FnSets.j0 k l0))
theorem laws_FnSets.mono_l : ∀ k, (∀ y0, LeO (laws_FnSets.j0 k y0) (laws_FnSets.j0 (k + 1) y0)) ∧ (∀ y0 y1 y2 y3 y4 y5 y6, LeO (laws_FnSets.j1 k y0 y1 y2 y3 y4 y5 y6) (laws_FnSets.j1 (k + 1) y0 y1 y2 y3 y4 y5 y6)) ∧ (∀ y0 y1 y2 y3 y4 y5 y6 y7 y8 y9 y10 y11 y12 y13, LeO (laws_FnSets.j2 k y0 y1 y2 y3 y4 y5 y6 y7 y8 y9 y10 y11 y12 y13) (laws_FnSets.j2 (k + 1) y0 y1 y2 y3 y4 y5 y6 y7 y8 y9 y10 y11 y12 y13)) ∧ (∀ y0 y1 y2 y3 y4 y5 y6 y7 y8 y9 y10 y11 y12, LeO (laws_FnSets.j3 k y0 y1 y2 y3 y4 y5 y6 y7 y8 y9 y10 y11 y12) (laws_FnSets.j3 (k + 1) y0 y1 y2 y3 y4 y5 y6 y7 y8 y9 y10 y11 y12)) ∧ (∀ y0 y1 y2 y3 y4 y5 y6 y7 y8 y9 y10 y11 y12 y13 y14 y15 y16, LeO (laws_FnSets.l0 k y0 y1 y2 y3 y4 y5 y6 y7 y8 y9 y10 y11 y12 y13 y14 y15 y16) (laws_FnSets.l0 (k + 1) y0 y1 y2 y3 y4 y5 y6 y7 y8 y9 y10 y11 y12 y13 y14 y15 y16)) ∧ (∀ y0 y1 y2 y3 y4 y5 y6 y7 y8 y9 y10 y11 y12 y13 y14 y15 y16 y17, LeO (laws_FnSets.j5 k y0 y1 y2 y3 y4 y5 y6 y7 y8 y9 y10 y11 y12 y13 y14 y15 y16 y17) (laws_FnSets.j5 (k + 1) y0 y1 y2 y3 y4 y5 y6 y7 y8 y9 y10 y11 y12 y13 y14 y15 y16 y17))
 | 0 => ⟨fun _ r h => by simp [laws_FnSets.j0] at h, fun _ _ _ _ _ _ _ r h => by simp [laws_FnSets.j1] at h, fun _ _ _ _ _ _ _ _ _ _ _ _ _ _ r h => by simp [laws_FnSets.j2] at h, fun _ _ _ _ _ _ _ _ _ _ _ _ _ r h => by simp [laws_FnSets.j3] at h, fun _ _ _ _ _ _ _ _ _ _ _ _ _ _ _ _ _ r h => by simp [laws_FnSets.l0] at h, fun _ _ _ _ _ _ _ _ _ _ _ _ _ _ _ _ _ _ r h => by simp [laws_FnSets.j5] at h⟩
 | k + 1 => by
  obtain ⟨ih0, ih1, ih2, ih3, ih4, ih5⟩ := laws_FnSets.mono_l k
  refine ⟨?_, ?_, ?_, ?_, ?_, ?_⟩
  ·
   intro y0
   unfold laws_FnSets.j0
   with_reducible repeat' first | exact ih0 _ | exact ih1 _ _ _ _ _ _ _ | exact ih2 _ _ _ _ _ _ _ _ _ _ _ _ _ _ | exact ih3 _ _ _ _ _ _ _ _ _ _ _ _ _ | exact ih4 _ _ _ _ _ _ _ _ _ _ _ _ _ _ _ _ _ | exact ih5 _ _ _ _ _ _ _ _ _ _ _ _ _ _ _ _ _ _ | exact impl_GetZ.mono _ _ _ | exact impl_SetZ.mono _ _ _ _ _ | exact impl_TreeFault.mono _ _ | exact spec_DrawSetZ.mono _ _ | exact spec_SetZ.mono _ _ _ _ _ | exact LeO.refl _ | exact LeO.none _ | refine LeO.ite ?_ ?_ | refine LeO.bind ?_ (fun _ => ?_)
  ·
   intro y0 y1 y2 y3 y4 y5 y6
   unfold laws_FnSets.j1
   with_reducible repeat' first | exact ih0 _ | exact ih1 _ _ _ _ _ _ _ | exact ih2 _ _ _ _ _ _ _ _ _ _ _ _ _ _ | exact ih3 _ _ _ _ _ _ _ _ _ _ _ _ _ | exact ih4 _ _ _ _ _ _ _ _ _ _ _ _ _ _ _ _ _ | exact ih5 _ _ _ _ _ _ _ _ _ _ _ _ _ _ _ _ _ _ | exact impl_GetZ.mono _ _ _ | exact impl_SetZ.mono _ _ _ _ _ | exact impl_TreeFault.mono _ _ | exact spec_DrawSetZ.mono _ _ | exact spec_SetZ.mono _ _ _ _ _ | exact LeO.refl _ | exact LeO.none _ | refine LeO.ite ?_ ?_ | refine LeO.bind ?_ (fun _ => ?_)
  ·
   intro y0 y1 y2 y3 y4 y5 y6 y7 y8 y9 y10 y11 y12 y13
   unfold laws_FnSets.j2
   with_reducible repeat' first | exact ih0 _ | exact ih1 _ _ _ _ _ _ _ | exact ih2 _ _ _ _ _ _ _ _ _ _ _ _ _ _ | exact ih3 _ _ _ _ _ _ _ _ _ _ _ _ _ | exact ih4 _ _ _ _ _ _ _ _ _ _ _ _ _ _ _ _ _ | exact ih5 _ _ _ _ _ _ _ _ _ _ _ _ _ _ _ _ _ _ | exact impl_GetZ.mono _ _ _ | exact impl_SetZ.mono _ _ _ _ _ | exact impl_TreeFault.mono _ _ | exact spec_DrawSetZ.mono _ _ | exact spec_SetZ.mono _ _ _ _ _ | exact LeO.refl _ | exact LeO.none _ | refine LeO.ite ?_ ?_ | refine LeO.bind ?_ (fun _ => ?_)
  ·
   intro y0 y1 y2 y3 y4 y5 y6 y7 y8 y9 y10 y11 y12
   unfold laws_FnSets.j3
   with_reducible repeat' first | exact ih0 _ | exact ih1 _ _ _ _ _ _ _ | exact ih2 _ _ _ _ _ _ _ _ _ _ _ _ _ _ | exact ih3 _ _ _ _ _ _ _ _ _ _ _ _ _ | exact ih4 _ _ _ _ _ _ _ _ _ _ _ _ _ _ _ _ _ | exact ih5 _ _ _ _ _ _ _ _ _ _ _ _ _ _ _ _ _ _ | exact impl_GetZ.mono _ _ _ | exact impl_SetZ.mono _ _ _ _ _ | exact impl_TreeFault.mono _ _ | exact spec_DrawSetZ.mono _ _ | exact spec_SetZ.mono _ _ _ _ _ | exact LeO.refl _ | exact LeO.none _ | refine LeO.ite ?_ ?_ | refine LeO.bind ?_ (fun _ => ?_)
  ·
   intro y0 y1 y2 y3 y4 y5 y6 y7 y8 y9 y10 y11 y12 y13 y14 y15 y16
   unfold laws_FnSets.l0
   with_reducible repeat' first | exact ih0 _ | exact ih1 _ _ _ _ _ _ _ | exact ih2 _ _ _ _ _ _ _ _ _ _ _ _ _ _ | exact ih3 _ _ _ _ _ _ _ _ _ _ _ _ _ | exact ih4 _ _ _ _ _ _ _ _ _ _ _ _ _ _ _ _ _ | exact ih5 _ _ _ _ _ _ _ _ _ _ _ _ _ _ _ _ _ _ | exact impl_GetZ.mono _ _ _ | exact impl_SetZ.mono _ _ _ _ _ | exact impl_TreeFault.mono _ _ | exact spec_DrawSetZ.mono _ _ | exact spec_SetZ.mono _ _ _ _ _ | exact LeO.refl _ | exact LeO.none _ | refine LeO.ite ?_ ?_ | refine LeO.bind ?_ (fun _ => ?_)
  ·
   intro y0 y1 y2 y3 y4 y5 y6 y7 y8 y9 y10 y11 y12 y13 y14 y15 y16 y17
   unfold laws_FnSets.j5
   with_reducible repeat' first | exact ih0 _ | exact ih1 _ _ _ _ _ _ _ | exact ih2 _ _ _ _ _ _ _ _ _ _ _ _ _ _ | exact ih3 _ _ _ _ _ _ _ _ _ _ _ _ _ | exact ih4 _ _ _ _ _ _ _ _ _ _ _ _ _ _ _ _ _ | exact ih5 _ _ _ _ _ _ _ _ _ _ _ _ _ _ _ _ _ _ | exact impl_GetZ.mono _ _ _ | exact impl_SetZ.mono _ _ _ _ _ | exact impl_TreeFault.mono _ _ | exact spec_DrawSetZ.mono _ _ | exact spec_SetZ.mono _ _ _ _ _ | exact LeO.refl _ | exact LeO.none _ | refine LeO.ite ?_ ?_ | refine LeO.bind ?_ (fun _ => ?_)
theorem laws_FnSets.mono : ∀ a0 k, LeO (laws_FnSets.f k a0) (laws_FnSets.f (k + 1) a0) := by
 intro a0 k
 obtain ⟨ih0, ih1, ih2, ih3, ih4, ih5⟩ := laws_FnSets.mono_l k
 unfold laws_FnSets.f
 with_reducible repeat' first | exact ih0 _ | exact ih1 _ _ _ _ _ _ _ | exact ih2 _ _ _ _ _ _ _ _ _ _ _ _ _ _ | exact ih3 _ _ _ _ _ _ _ _ _ _ _ _ _ | exact ih4 _ _ _ _ _ _ _ _ _ _ _ _ _ _ _ _ _ | exact ih5 _ _ _ _ _ _ _ _ _ _ _ _ _ _ _ _ _ _ | exact impl_GetZ.mono _ _ _ | exact impl_SetZ.mono _ _ _ _ _ | exact impl_TreeFault.mono _ _ | exact spec_DrawSetZ.mono _ _ | exact spec_SetZ.mono _ _ _ _ _ | exact LeO.refl _ | exact LeO.none _ | refine LeO.ite ?_ ?_ | refine LeO.bind ?_ (fun _ => ?_)
def laws_FnSets.T6 : Bool × List (List Nat × List Nat) := (true, [([], []), ([], []), ([], []), ([], []), ([0, 1, 2, 3], [0, 1, 2, 3]), ([4], [4]), ([], []), ([6], [6]), ([5, 7], [5, 7]), ([8, 4, 0, 1, 2, 3, 4, 5, 6, 7, 8], [8])])
def laws_FnSets.B6 : List Nat := [0, 0, 0, 0, 15, 31, 0, 64, 255, 511]
theorem laws_FnSets.tab6 : rtab .any (opsOf Tryd.f3 6) = laws_FnSets.T6 := by kernel_rfl
theorem laws_FnSets.bits6 : waitsOk laws_FnSets.T6.2 laws_FnSets.B6 = true := by kernel_rfl
def laws_FnSets.T11 : Bool × List (List Nat × List Nat) := (true, [([], []), ([0], [0]), ([], []), ([], []), ([], []), ([4], [4]), ([5], [5]), ([6], [6]), ([7], [7]), ([1, 2, 3, 8], [1, 2, 3, 8]), ([], []), ([10, 9, 9, 0, 1, 2, 3, 4, 5, 6, 7, 8, 9, 10], [9, 10])])
def laws_FnSets.B11 : List Nat := [0, 1, 0, 0, 0, 16, 48, 112, 240, 511, 0, 2047]
theorem laws_FnSets.tab11 : rtab .any (opsOf Tryd.f3 11) = laws_FnSets.T11 := by kernel_rfl
theorem laws_FnSets.bits11 : waitsOk laws_FnSets.T11.2 laws_FnSets.B11 = true := by kernel_rfl
def laws_FnSets.T16 : Bool × List (List Nat × List Nat) := (true, [([], []), ([], []), ([0, 1], [0, 1]), ([2], [2]), ([], []), ([4], [4]), ([], []), ([5, 6], [5, 6]), ([7], [7]), ([3, 8], [3, 8])])
def laws_FnSets.B16 : List Nat := [0, 0, 3, 7, 0, 16, 0, 112, 240, 511]
theorem laws_FnSets.tab16 : rtab .any (opsOf Tryd.f3 16) = laws_FnSets.T16 := by kernel_rfl
theorem laws_FnSets.bits16 : waitsOk laws_FnSets.T16.2 laws_FnSets.B16 = true := by kernel_rfl
def laws_FnSets.T18 : Bool × List (List Nat × List Nat) := (true, [([], []), ([0], [0]), ([1], [1]), ([2], [2]), ([3, 2], [3]), ([4], [4]), ([5, 4], [4, 5]), ([6, 4], [4, 6]), ([7, 4], [4, 7]), ([8, 4], [4, 8]), ([4], [4]), ([9, 10, 4], [4, 9, 10]), ([4, 11], [4, 11]), ([12, 4], [12]), ([13], [13]), ([14, 13], [13, 14]), ([15, 13], [13, 15]), ([16, 13], [13, 16]), ([17, 13], [13, 17]), ([13], [13]), ([19, 13], [13, 19]), ([20, 13], [13, 20]), ([21, 13], [13, 21]), ([22, 13], [13, 22]), ([23, 13], [13, 23]), ([18, 24, 13], [13, 18, 24]), ([13, 25], [13, 25]), ([26, 13], [26]), ([27], [27]), ([28, 27], [27, 28]), ([29, 27, 27], [27, 29]), ([30], [30]), ([30], [30]), ([32, 30], [30, 32]), ([33, 30], [30, 33]), ([34, 30], [30, 34]), ([35, 30], [30, 35]), ([31, 36, 30], [30, 31, 36]), ([30, 37, 27], [27, 30, 37]), ([27, 38], [27, 38]), ([39, 30], [39]), ([40], [40]), ([41, 40], [40, 41]), ([42, 40], [40, 42]), ([40, 43], [40, 43]), ([44, 40], [44]), ([45], [45]), ([46, 45], [45, 46]), ([45, 47], [45, 47]), ([48, 45], [48]), ([49], [49]), ([50, 49], [49, 50]), ([51, 49], [49, 51]), ([49], [49]), ([53, 49], [49, 53]), ([52, 54, 49], [49, 52, 54]), ([49, 55], [49, 55]), ([56, 49, 0, 1, 2, 3, 4, 5, 6, 7, 8, 9, 10, 11, 12, 13, 14, 15, 16, 17, 18, 19, 20, 21, 22, 23, 24, 25, 26, 27, 28, 29, 30, 31, 32, 33, 34, 35, 36, 37, 38, 39, 40, 41, 42, 43, 44, 45, 46, 47, 48, 49, 50, 51, 52, 53, 54, 55, 56], [56])])
def laws_FnSets.B18 : List Nat := [0, 1, 3, 7, 15, 31, 63, 127, 255, 511, 31, 2047, 4095, 8191, 16383, 32767, 65535, 131071, 262143, 16383, 540671, 1589247, 3686399, 7880703, 16269311, 33554431, 67108863, 134217727, 268435455, 536870911, 1073741823, 2147483647, 2147483647, 6442450943, 15032385535, 32212254719, 66571993087, 137438953471, 274877906943, 549755813887, 1099511627775, 2199023255551, 4398046511103, 8796093022207, 17592186044415, 35184372088831, 70368744177663, 140737488355327, 281474976710655, 562949953421311, 1125899906842623, 2251799813685247, 4503599627370495, 1125899906842623, 10133099161583615, 36028797018963967, 72057594037927935, 144115188075855871]
theorem laws_FnSets.tab18 : rtab .any (opsOf Tryd.f3 18) = laws_FnSets.T18 := by kernel_rfl
theorem laws_FnSets.bits18 : waitsOk laws_FnSets.T18.2 laws_FnSets.B18 = true := by kernel_rfl
theorem pu3 {P : Program} {md : Region.Mode} {ops : Array Oper} {Q : Exit → Act → World → Prop} {S : World → Prop} {ds : List Nat} (i : Nat) (N : Tmp) {oi : Oper} {v : Value} {fuel : Nat} {l l' : Array Bool} {a a' : Act} {w : World} (h : wpAnyLast P md ops Q S ds fuel l' a' w) (hi : ops[i]? = some oi := by rfl) (hN : oi.dst = some N := by rfl) (hl : l.setIfInBounds i true = l' := by simp only [List.setIfInBounds_toArray, List.set_cons_zero, List.set_cons_succ]; rfl) (hc : anyB md ops l l' i = true := by first | exact any_of HT_.out (by kernel_rfl) | kernel_rfl) (hQ : ∀ c a w, Q (.panic c) (a.put oi.dst v) w → Q (.panic c) a w := by exact fun _ _ _ h => h) (hw : Region.wanted oi (yielded ops a.tmps) = true := by rfl) (hy : ∀ w, (execOp a.eval oi).run P w = .ok (.value v) w := by intro w'; go_simp; with_reducible rfl) (ha : a.put (some N) v = a' := by simp only [Act.put, List.setIfInBounds_toArray, List.set_cons_zero, List.set_cons_succ, i64_w, i32_w]; rfl) : wpAnyLast P md ops Q S ds (fuel + 1) l a w := pure_ l' hi hN hc hQ (Or.inl ⟨hw, hy⟩) ha h
theorem pn3 {P : Program} {md : Region.Mode} {ops : Array Oper} {Q : Exit → Act → World → Prop} {S : World → Prop} {ds : List Nat} (i : Nat) (N : Tmp) {oi : Oper} {v : Value} {fuel : Nat} {l l' : Array Bool} {a a' : Act} {w : World} (h : wpAnyLast P md ops Q S ds fuel l' a' w) (hi : ops[i]? = some oi := by rfl) (hN : oi.dst = some N := by rfl) (hl : l.setIfInBounds i true = l' := by simp only [List.setIfInBounds_toArray, List.set_cons_zero, List.set_cons_succ]; rfl) (hv : v = undef := by rfl) (hc : anyB md ops l l' i = true := by first | exact any_of HT_.out (by kernel_rfl) | kernel_rfl) (hQ : ∀ c a w, Q (.panic c) (a.put oi.dst v) w → Q (.panic c) a w := by exact fun _ _ _ h => h) (hw : Region.wanted oi (yielded ops a.tmps) = false := by rfl) (ha : a.put (some N) v = a' := by simp only [Act.put, List.setIfInBounds_toArray, List.set_cons_zero, List.set_cons_succ, i64_w, i32_w]; rfl) : wpAnyLast P md ops Q S ds (fuel + 1) l a w := pure_ l' hi hN hc hQ (Or.inr ⟨hw, hv⟩) ha h
theorem gate_args3 {P : Program} {f : FuncId} {w : World} {R : Ending → World → Prop} (args : Array Value) (h : Calls P f args w R) : Calls P f args w R := h
theorem tk3_3 {P : Program} {md : Region.Mode} {ops : Array Oper} {Q : Exit → Act → World → Prop} {S : World → Prop} {ds : List Nat} (i : Nat) (N : Tmp) {oi : Oper} {v : Value} {fuel : Nat} {l l' : Array Bool} {a a' : Act} {w : World} (h : wpAnyLast P md ops Q S ds fuel l' a' w) (hi : ops[i]? = some oi := by rfl) (hN : oi.dst = some N := by rfl) (hl : l.setIfInBounds i true = l' := by simp only [List.setIfInBounds_toArray, List.set_cons_zero, List.set_cons_succ]; rfl) (hc : takeB md ops ds l l' i = true := by first | exact take_ofW HT_.out HW_.out (by kernel_rfl) | kernel_rfl) (hQ : ∀ c a w, Q (.panic c) (a.put oi.dst v) w → Q (.panic c) a w := by exact fun _ _ _ h => h) (hw : Region.wanted oi (yielded ops a.tmps) = true := by rfl) (hS : S w := by exact hHeld) (hy : ∀ w, S w → (execOp a.eval oi).run P w = .ok (.value v) w := by rintro w' ⟨s0, s1, s2⟩; go_simp; with_reducible rfl) (ha : a.put (some N) v = a' := by simp only [Act.put, List.setIfInBounds_toArray, List.set_cons_zero, List.set_cons_succ, i64_w, i32_w]; rfl) : wpAnyLast P md ops Q S ds (fuel + 1) l a w := take_ l' hi hN hc hQ (Or.inl ⟨hw, hy⟩) hS ha h
theorem tk6_3 {P : Program} {md : Region.Mode} {ops : Array Oper} {Q : Exit → Act → World → Prop} {S : World → Prop} {ds : List Nat} (i : Nat) (N : Tmp) {oi : Oper} {v : Value} {fuel : Nat} {l l' : Array Bool} {a a' : Act} {w : World} (h : wpAnyLast P md ops Q S ds fuel l' a' w) (hi : ops[i]? = some oi := by rfl) (hN : oi.dst = some N := by rfl) (hl : l.setIfInBounds i true = l' := by simp only [List.setIfInBounds_toArray, List.set_cons_zero, List.set_cons_succ]; rfl) (hc : takeB md ops ds l l' i = true := by first | exact take_ofW HT_.out HW_.out (by kernel_rfl) | kernel_rfl) (hQ : ∀ c a w, Q (.panic c) (a.put oi.dst v) w → Q (.panic c) a w := by exact fun _ _ _ h => h) (hw : Region.wanted oi (yielded ops a.tmps) = true := by rfl) (hS : S w := by exact hHeld) (hy : ∀ w, S w → (execOp a.eval oi).run P w = .ok (.value v) w := by rintro w' ⟨s0, s1, s2, s3, s4, s5⟩; go_simp; with_reducible rfl) (ha : a.put (some N) v = a' := by simp only [Act.put, List.setIfInBounds_toArray, List.set_cons_zero, List.set_cons_succ, i64_w, i32_w]; rfl) : wpAnyLast P md ops Q S ds (fuel + 1) l a w := take_ l' hi hN hc hQ (Or.inl ⟨hw, hy⟩) hS ha h
theorem tk11_3 {P : Program} {md : Region.Mode} {ops : Array Oper} {Q : Exit → Act → World → Prop} {S : World → Prop} {ds : List Nat} (i : Nat) (N : Tmp) {oi : Oper} {v : Value} {fuel : Nat} {l l' : Array Bool} {a a' : Act} {w : World} (h : wpAnyLast P md ops Q S ds fuel l' a' w) (hi : ops[i]? = some oi := by rfl) (hN : oi.dst = some N := by rfl) (hl : l.setIfInBounds i true = l' := by simp only [List.setIfInBounds_toArray, List.set_cons_zero, List.set_cons_succ]; rfl) (hc : takeB md ops ds l l' i = true := by first | exact take_ofW HT_.out HW_.out (by kernel_rfl) | kernel_rfl) (hQ : ∀ c a w, Q (.panic c) (a.put oi.dst v) w → Q (.panic c) a w := by exact fun _ _ _ h => h) (hw : Region.wanted oi (yielded ops a.tmps) = true := by rfl) (hS : S w := by exact hHeld) (hy : ∀ w, S w → (execOp a.eval oi).run P w = .ok (.value v) w := by rintro w' ⟨s0, s1, s2, s3, s4, s5, s6, s7, s8, s9, s10⟩; go_simp; with_reducible rfl) (ha : a.put (some N) v = a' := by simp only [Act.put, List.setIfInBounds_toArray, List.set_cons_zero, List.set_cons_succ, i64_w, i32_w]; rfl) : wpAnyLast P md ops Q S ds (fuel + 1) l a w := take_ l' hi hN hc hQ (Or.inl ⟨hw, hy⟩) hS ha h
theorem tk13_3 {P : Program} {md : Region.Mode} {ops : Array Oper} {Q : Exit → Act → World → Prop} {S : World → Prop} {ds : List Nat} (i : Nat) (N : Tmp) {oi : Oper} {v : Value} {fuel : Nat} {l l' : Array Bool} {a a' : Act} {w : World} (h : wpAnyLast P md ops Q S ds fuel l' a' w) (hi : ops[i]? = some oi := by rfl) (hN : oi.dst = some N := by rfl) (hl : l.setIfInBounds i true = l' := by simp only [List.setIfInBounds_toArray, List.set_cons_zero, List.set_cons_succ]; rfl) (hc : takeB md ops ds l l' i = true := by first | exact take_ofW HT_.out HW_.out (by kernel_rfl) | kernel_rfl) (hQ : ∀ c a w, Q (.panic c) (a.put oi.dst v) w → Q (.panic c) a w := by exact fun _ _ _ h => h) (hw : Region.wanted oi (yielded ops a.tmps) = true := by rfl) (hS : S w := by exact hHeld) (hy : ∀ w, S w → (execOp a.eval oi).run P w = .ok (.value v) w := by rintro w' ⟨s0, s1, s2, s3, s4, s5, s6, s7, s8, s9, s10, s11, s12⟩; go_simp; with_reducible rfl) (ha : a.put (some N) v = a' := by simp only [Act.put, List.setIfInBounds_toArray, List.set_cons_zero, List.set_cons_succ, i64_w, i32_w]; rfl) : wpAnyLast P md ops Q S ds (fuel + 1) l a w := take_ l' hi hN hc hQ (Or.inl ⟨hw, hy⟩) hS ha h
theorem tk27_3 {P : Program} {md : Region.Mode} {ops : Array Oper} {Q : Exit → Act → World → Prop} {S : World → Prop} {ds : List Nat} (i : Nat) (N : Tmp) {oi : Oper} {v : Value} {fuel : Nat} {l l' : Array Bool} {a a' : Act} {w : World} (h : wpAnyLast P md ops Q S ds fuel l' a' w) (hi : ops[i]? = some oi := by rfl) (hN : oi.dst = some N := by rfl) (hl : l.setIfInBounds i true = l' := by simp only [List.setIfInBounds_toArray, List.set_cons_zero, List.set_cons_succ]; rfl) (hc : takeB md ops ds l l' i = true := by first | exact take_ofW HT_.out HW_.out (by kernel_rfl) | kernel_rfl) (hQ : ∀ c a w, Q (.panic c) (a.put oi.dst v) w → Q (.panic c) a w := by exact fun _ _ _ h => h) (hw : Region.wanted oi (yielded ops a.tmps) = true := by rfl) (hS : S w := by exact hHeld) (hy : ∀ w, S w → (execOp a.eval oi).run P w = .ok (.value v) w := by rintro w' ⟨s0, s1, s2, s3, s4, s5, s6, s7, s8, s9, s10, s11, s12, s13, s14, s15, s16, s17, s18, s19, s20, s21, s22, s23, s24, s25, s26⟩; go_simp; with_reducible rfl) (ha : a.put (some N) v = a' := by simp only [Act.put, List.setIfInBounds_toArray, List.set_cons_zero, List.set_cons_succ, i64_w, i32_w]; rfl) : wpAnyLast P md ops Q S ds (fuel + 1) l a w := take_ l' hi hN hc hQ (Or.inl ⟨hw, hy⟩) hS ha h
theorem tk32_3 {P : Program} {md : Region.Mode} {ops : Array Oper} {Q : Exit → Act → World → Prop} {S : World → Prop} {ds : List Nat} (i : Nat) (N : Tmp) {oi : Oper} {v : Value} {fuel : Nat} {l l' : Array Bool} {a a' : Act} {w : World} (h : wpAnyLast P md ops Q S ds fuel l' a' w) (hi : ops[i]? = some oi := by rfl) (hN : oi.dst = some N := by rfl) (hl : l.setIfInBounds i true = l' := by simp only [List.setIfInBounds_toArray, List.set_cons_zero, List.set_cons_succ]; rfl) (hc : takeB md ops ds l l' i = true := by first | exact take_ofW HT_.out HW_.out (by kernel_rfl) | kernel_rfl) (hQ : ∀ c a w, Q (.panic c) (a.put oi.dst v) w → Q (.panic c) a w := by exact fun _ _ _ h => h) (hw : Region.wanted oi (yielded ops a.tmps) = true := by rfl) (hS : S w := by exact hHeld) (hy : ∀ w, S w → (execOp a.eval oi).run P w = .ok (.value v) w := by rintro w' ⟨s0, s1, s2, s3, s4, s5, s6, s7, s8, s9, s10, s11, s12, s13, s14, s15, s16, s17, s18, s19, s20, s21, s22, s23, s24, s25, s26, s27, s28, s29, s30, s31⟩; go_simp; with_reducible rfl) (ha : a.put (some N) v = a' := by simp only [Act.put, List.setIfInBounds_toArray, List.set_cons_zero, List.set_cons_succ, i64_w, i32_w]; rfl) : wpAnyLast P md ops Q S ds (fuel + 1) l a w := take_ l' hi hN hc hQ (Or.inl ⟨hw, hy⟩) hS ha h
theorem laws_FnSets.calls (k : Nat) (A0 : Option Addr) (c0 : Nat) (l0 : List Int) (r : Bool) (w : World) (hr0 : Kd.C (Kd.int .u8) w A0 l0.length l0) (hc0 : l0.length ≤ c0) (h : laws_FnSets.f k l0 = some r) (hrt : r = true) :
  Calls Tryd.prog 3 #[.slice A0 l0.length c0] w fun e w' => e = .returned (.bool r) ∧ Below w.heap.size w w' := by
 have HRT := aa hrt
 clear hrt
 have hfd28_0 : ∀ (v0_ v1_ v2_ : Value) (w_ : World), (Instr.field 28 (.agg #[v0_, v1_, v2_]) 0).run Tryd.prog w_ = .ok (v0_) w_ := fun _ _ _ _ => by kernel_rfl
 have hfd28_1 : ∀ (v0_ v1_ v2_ : Value) (w_ : World), (Instr.field 28 (.agg #[v0_, v1_, v2_]) 1).run Tryd.prog w_ = .ok (v1_) w_ := fun _ _ _ _ => by kernel_rfl
 have hfd28_2 : ∀ (v0_ v1_ v2_ : Value) (w_ : World), (Instr.field 28 (.agg #[v0_, v1_, v2_]) 2).run Tryd.prog w_ = .ok (v2_) w_ := fun _ _ _ _ => by kernel_rfl
 have hu28 := Tryd.underlying28
 have hu32 := Tryd.underlying32
 have HR0 := aa hr0
 have HC0 := aa hc0
 clear hr0 hc0
 have HB := aa (Below.refl w.heap.size w)
 have H : ((laws_lwBig.f l0).bind fun t101 => (if t101 = true then (some true) else (laws_FnSets.j0 k l0))) = some r := h
 clear h
 revert H
 refine obs_ fun t101 A2 H => ?_
 have HC3 := aa H
 clear H
 go_enter Tryd.func3, Tryd.ntmps3
 go_upto_if 14 with (first | (refine gc_ Tryd.func7 (some 14) #[.slice A0 l0.length c0] ?_; (with_reducible refine (laws_lwBig.calls _ _ l0 t101 _ zebgon HC0.out A2.out).mono ?_); rintro e w' ⟨rfl, ⟨nd, rfl⟩⟩; refine ⟨_, rfl, ?_⟩))
 (try simp only [Act.put, List.setIfInBounds_toArray, List.set_cons_zero, List.set_cons_succ])
 go_cut [] (fun wc => ∃ (kq : Nat), Aside0 (laws_FnSets.j0 kq l0 = some r) ∧ Aside0 (kq ≤ k) ∧ Aside0 (Below w.heap.size w wc))
 case first =>
  have H := HC3.out
  clear HC3
  by_cases c4 : t101 = true
  ·
   subst c4
   rw [if_pos rfl] at H
   obtain rfl := Option.some.inj H
   go_wp2
   go_ret
   exact ⟨zlhpib, zjjbob⟩
  replace c4 := Bool.eq_false_iff.mpr c4
  subst c4
  rw [if_neg fT_] at H
  have H' := aa H
  clear H
  go_wp2
  go_meet
  case rel => exact ⟨_, H', ⟨zpacfg⟩, ⟨zjjbob⟩⟩
 case rest =>
  clear HC3
  try clear p2
  try clear c4
  obtain ⟨kq, HA, HJ2, HB⟩ := hcut
  cases kq with
  | zero => exact absurd HA.out (by simp [laws_FnSets.j0])
  | succ kj2 =>
   have H := HA.out
   clear HA
   simp only [laws_FnSets.j0] at H
   revert H
   refine ob4_ fun t102 t103 t104 t105 A5 H => ?_
   (try dsimp only at H)
   revert H
   refine ob3_ fun t108 t109 t110 A6 H => ?_
   (try dsimp only at H)
   have HC7 := aa H
   clear H
   go_upto_if 29 with (first | (refine gc_ Tryd.func8 (some 17) #[.slice A0 l0.length c0] ?_; (with_reducible refine (spec_DrawSetZ.calls kj2 _ _ l0 t102 t103 t104 t105 _ zfmbgg HC0.out A5.out).mono ?_); rintro e w8 ⟨v106, rfl, ho0, hb⟩; refine ⟨_, rfl, ?_⟩; have HO107 := aa (Kd.R_lower ho0 (below_size zjjbob)); replace HB := aa (below_step zjjbob hb); (try clear hb hk hi ho0); obtain ⟨Ao9, co9, eo9⟩ := Kd.R_slice HO107.out; subst eo9) | (refine gc_ Tryd.func9 (some 26) #[.slice Ao9 t102.length co9, .string t103, .int .i64 t104, .int .i64 t105] ?_; (with_reducible refine (impl_SetZ.calls kj2 _ _ t102 t103 t104 t105 t108 t109 t110 _ ?side1 ?side2 A6.out).mono ?_); (case side1 => exact zglnde); (case side2 => exact (Kd.R_reads' HO107.out).2.1); rintro e w10 ⟨v111, rfl, ho0, hb⟩; refine ⟨_, rfl, ?_⟩; have n0_ := aa (Kd.R_elder' (zcaken HO107.out) (Kd.R_base ho0) hb); have n1_ := aa (Kd.R_lower (Kd.R_new' ho0 (Kd.R_lt (zcaken HO107.out))) (below_size zjjbob)); have n2_ := aa (below_step zjjbob hb); clear HO107; clear HB; have HO107 := n0_; have HO112 := n1_; have HB := n2_; clear n0_ n1_ n2_; (try clear hb hk hi ho0)) | ((with_reducible refine gate_dst (N := 7) rfl ?_); (try (refine gate_guard (by rfl) ?_; dsimp only)); refine box_event ?hg (N := 7) ?hd (cs := #[.int .i64 0, .string (⟨#[]⟩ : ByteArray), .slice none 0 0]) (t := 28) ?hr ?_; (case hd => rfl); (case hg => rfl); (case hr => exact zhlgcp); intro gb113 hg w11 hbox hb; have n0_ := aa (Kd.R_below (zcaken HO107.out) hb); have n1_ := aa (Kd.R_below (zcaken HO112.out) hb); have n2_ := aa (below_step zjjbob hb); have n3_ := aa (hbox); have n4_ := aa ((zkpfjp : w.heap.size ≤ gb113)); have n5_ := aa ((zkpfjp : w.heap.size ≤ gb113)); clear HO107; clear HO112; clear HB; have HO107 := n0_; have HO112 := n1_; have HB := n2_; have BK113 := n3_; have GW113 := n4_; have GE113 := n5_; clear n0_ n1_ n2_ n3_ n4_ n5_; clear hb hbox hg; obtain ⟨hcz12_0, hcz12_1, hcz12_2, hfz12_0, hfz12_1, hfz12_2⟩ := blk3_ BK113.out; obtain ⟨Ao13, co13, eo13⟩ := Kd.R_slice HO112.out; subst eo13))
   (try simp only [Act.put, List.setIfInBounds_toArray, List.set_cons_zero, List.set_cons_succ])
   go_cut [] (fun wc => ∃ (kq : Nat), Aside0 (laws_FnSets.j1 kq t102 t103 t104 t105 t108 t109 t110 = some r) ∧ Aside0 (kq ≤ kj2) ∧ Aside0 (Kd.R k32 32 wc w.heap.size (fun k_ => some k_ ≠ ((.slice Ao13 t110.length co13) : Value).ownBlock) (.slice Ao9 t102.length co9) t102) ∧ Aside0 (Kd.R k32 32 wc w.heap.size (fun k_ => some k_ ≠ ((.slice Ao9 t102.length co9) : Value).ownBlock) (.slice Ao13 t110.length co13) t110) ∧ Aside0 (wc.heap[gb113]? = some (.cells #[.int .i64 t108, .string t109, (.slice Ao13 t110.length co13)] 28 (0, 0))) ∧ Aside0 (Below w.heap.size w wc))
   case first =>
    have H := HC7.out
    clear HC7
    revert H
    refine itE_ (fun c14b0 c14b1 H => ?_) fun c14b0 c14b1 H => ?_
    ·
     (first | rw [c14b0] | (simp only [i64_w, i32_w]; rw [c14b0]) | (simp only [c14b2, Bool.not_false, Bool.not_true]) | skip)
     have H' := aa H
     clear H
     go_wp2
     go_meet
     case rel => exact ⟨_, H', ⟨by have := HJ2.out; first | omega | exact Nat.le_refl _⟩, ⟨by (with_reducible repeat (first | apply Kd.R_alloc | apply Kd.R_drewN | apply Kd.R_drew)); exact Kd.R_mono (Kd.R_far (p := ⟨gb113, 2, none⟩) (Kd.R_far (p := ⟨gb113, 1, none⟩) (Kd.R_far (p := ⟨gb113, 0, none⟩) (Kd.R_types HO107.out BK113.out (by decide)) (fun _ hk => hk.2) (.int .i64 t108)) (fun _ hk => hk.2) (.string t109)) (fun _ hk => hk.2) (.slice Ao13 t110.length co13)) (fun _ hk => hk.1.2)⟩, ⟨by (with_reducible repeat (first | apply Kd.R_alloc | apply Kd.R_drewN | apply Kd.R_drew)); exact Kd.R_mono (Kd.R_far (p := ⟨gb113, 2, none⟩) (Kd.R_far (p := ⟨gb113, 1, none⟩) (Kd.R_far (p := ⟨gb113, 0, none⟩) (Kd.R_types HO112.out BK113.out (by decide)) (fun _ hk => hk.2) (.int .i64 t108)) (fun _ hk => hk.2) (.string t109)) (fun _ hk => hk.2) (.slice Ao13 t110.length co13)) (fun _ hk => hk.1.2)⟩, ⟨by (with_reducible repeat (first | refine blk_drewN ?_ _ | refine blk_drew ?_ | refine blk_alloc ?_ _)); refine blk_put (cs := #[.int .i64 t108, .string t109, .slice none 0 0]) ?_ 2 _ rfl; (with_reducible repeat (first | refine blk_drewN ?_ _ | refine blk_drew ?_ | refine blk_alloc ?_ _)); refine blk_put (cs := #[.int .i64 t108, .string (⟨#[]⟩ : ByteArray), .slice none 0 0]) ?_ 1 _ rfl; (with_reducible repeat (first | refine blk_drewN ?_ _ | refine blk_drew ?_ | refine blk_alloc ?_ _)); refine blk_put (cs := #[.int .i64 0, .string (⟨#[]⟩ : ByteArray), .slice none 0 0]) ?_ 0 _ rfl; (with_reducible repeat (first | refine blk_drewN ?_ _ | refine blk_drew ?_ | refine blk_alloc ?_ _)); exact BK113.out⟩, ⟨zaooek⟩⟩
    (first | rw [c14b0] | (simp only [i64_w, i32_w]; rw [c14b0]) | (simp only [c14b2, Bool.not_false, Bool.not_true]) | skip)
    revert H
    refine ob3_ fun t114 t115 t116 A15 H => ?_
    (try dsimp only at H)
    obtain rfl := Option.some.inj H
    try go_wp2
    have n0_ : Aside0 (Kd.R k32 32 (((w11.setCell ⟨gb113, 0, none⟩ (.int .i64 t108)).setCell ⟨gb113, 1, none⟩ (.string t109)).setCell ⟨gb113, 2, none⟩ (.slice Ao13 t110.length co13)) w.heap.size (fun k_ => some k_ ≠ (.slice Ao13 t110.length co13 : Value).ownBlock) (.slice Ao9 t102.length co9) t102) := ⟨by (with_reducible repeat (first | apply Kd.R_alloc | apply Kd.R_drewN | apply Kd.R_drew)); exact Kd.R_mono (Kd.R_far (p := ⟨gb113, 2, none⟩) (Kd.R_far (p := ⟨gb113, 1, none⟩) (Kd.R_far (p := ⟨gb113, 0, none⟩) (Kd.R_types HO107.out BK113.out (by decide)) (fun _ hk => hk.2) (.int .i64 t108)) (fun _ hk => hk.2) (.string t109)) (fun _ hk => hk.2) (.slice Ao13 t110.length co13)) (fun _ hk => hk.1.2)⟩
    have n1_ : Aside0 (Kd.R k32 32 (((w11.setCell ⟨gb113, 0, none⟩ (.int .i64 t108)).setCell ⟨gb113, 1, none⟩ (.string t109)).setCell ⟨gb113, 2, none⟩ (.slice Ao13 t110.length co13)) w.heap.size (fun k_ => some k_ ≠ (.slice Ao9 t102.length co9 : Value).ownBlock) (.slice Ao13 t110.length co13) t110) := ⟨by (with_reducible repeat (first | apply Kd.R_alloc | apply Kd.R_drewN | apply Kd.R_drew)); exact Kd.R_mono (Kd.R_far (p := ⟨gb113, 2, none⟩) (Kd.R_far (p := ⟨gb113, 1, none⟩) (Kd.R_far (p := ⟨gb113, 0, none⟩) (Kd.R_types HO112.out BK113.out (by decide)) (fun _ hk => hk.2) (.int .i64 t108)) (fun _ hk => hk.2) (.string t109)) (fun _ hk => hk.2) (.slice Ao13 t110.length co13)) (fun _ hk => hk.1.2)⟩
    have n2_ : Aside0 ((((w11.setCell ⟨gb113, 0, none⟩ (.int .i64 t108)).setCell ⟨gb113, 1, none⟩ (.string t109)).setCell ⟨gb113, 2, none⟩ (.slice Ao13 t110.length co13)).heap[gb113]? = some (.cells #[.int .i64 t108, .string t109, .slice Ao13 t110.length co13] 28 (0, 0))) := ⟨by (with_reducible repeat (first | refine blk_drewN ?_ _ | refine blk_drew ?_ | refine blk_alloc ?_ _)); refine blk_put (cs := #[.int .i64 t108, .string t109, .slice none 0 0]) ?_ 2 _ rfl; (with_reducible repeat (first | refine blk_drewN ?_ _ | refine blk_drew ?_ | refine blk_alloc ?_ _)); refine blk_put (cs := #[.int .i64 t108, .string (⟨#[]⟩ : ByteArray), .slice none 0 0]) ?_ 1 _ rfl; (with_reducible repeat (first | refine blk_drewN ?_ _ | refine blk_drew ?_ | refine blk_alloc ?_ _)); refine blk_put (cs := #[.int .i64 0, .string (⟨#[]⟩ : ByteArray), .slice none 0 0]) ?_ 0 _ rfl; (with_reducible repeat (first | refine blk_drewN ?_ _ | refine blk_drew ?_ | refine blk_alloc ?_ _)); exact BK113.out⟩
    have n3_ : Aside0 (Below w.heap.size w (((w11.setCell ⟨gb113, 0, none⟩ (.int .i64 t108)).setCell ⟨gb113, 1, none⟩ (.string t109)).setCell ⟨gb113, 2, none⟩ (.slice Ao13 t110.length co13))) := ⟨by repeat (first | (with_reducible first | exact HB.out | apply below_alloc | apply pw_below_drewN | apply below_drew1 | refine below_set ?_ GE113.out) | exact HB.out)⟩
    (try clear HO107)
    (try clear HO112)
    (try clear BK113)
    (try clear HB)
    generalize (((w11.setCell ⟨gb113, 0, none⟩ (.int .i64 t108)).setCell ⟨gb113, 1, none⟩ (.string t109)).setCell ⟨gb113, 2, none⟩ (.slice Ao13 t110.length co13)) = w16 at n0_ n1_ n2_ n3_ ⊢
    have HO107 := n0_
    have HO112 := n1_
    have BK113 := n2_
    have HB := n3_
    clear n0_ n1_ n2_ n3_
    replace HO107 := aa (Kd.R_drew HO107.out)
    replace HO112 := aa (Kd.R_drew HO112.out)
    replace BK113 := aa (blk_drew BK113.out)
    replace HB := aa (below_drew1 HB.out)
    refine start_ (n := 10) (S := fun w' => w'.cell? ⟨gb113, 0, none⟩ = some (.int .i64 t108) ∧ w'.cell? ⟨gb113, 1, none⟩ = some (.string t109) ∧ w'.cell? ⟨gb113, 2, none⟩ = some (.slice Ao13 t110.length co13)) (ds := []) #[false, false, false, false, false, false, false, false, false, false] (by kernel_rfl) rfl rfl ⟨(blk_cell BK113.out 0).trans rfl, (blk_cell BK113.out 1).trans rfl, (blk_cell BK113.out 2).trans rfl⟩ (fun hHeld => ?_); refine with_tabW laws_FnSets.tab6 laws_FnSets.bits6 (fun HT_ HW_ => ?_)
    generalize w16.drew = w17 at HO107 HO112 BK113 HB hHeld ⊢
    refine pu3 0 30 ?_
    refine pu3 1 31 ?_
    refine pu3 2 32 ?_
    refine pu3 3 33 ?_
    refine pu3 6 36 ?_
    refine tk3_3 7 37 ?_
    refine one_ (i := 4) (N := some 34) #[true, true, true, true, true, false, true, true, false, false] rfl rfl (one_of HT_.out (by kernel_rfl)) (by decide) (fun K hK => ?_)
    refine goes_ Tryd.func10 (by kernel_rfl) rfl #[.slice Ao9 t102.length co9, .string t103, .int .i64 t104, .int .i64 t105] (by rfl) rfl rfl zjnmae ?_
    with_reducible refine (spec_SetZ.calls kj2 _ _ t102 t103 t104 t105 t114 t115 t116 _ ?side1 ?side2 A15.out).mono ?_
    (case side1 => exact zglnde)
    (case side2 => exact (Kd.R_reads' HO107.out).2.1)
    rintro e w18 ⟨v117, rfl, ho0, hb⟩
    refine ⟨_, rfl, ?_⟩
    have n0_ := aa (Kd.R_elder' (zcaken HO107.out) (Kd.R_base ho0) hb)
    have n1_ := aa (Kd.R_elder' (zcaken HO112.out) (Kd.R_base ho0) hb)
    have n2_ := aa (Kd.R_lower (Kd.R_new' (Kd.R_new' ho0 (Kd.R_lt (zcaken HO107.out))) (Kd.R_lt (zcaken HO112.out))) (below_size zaooek))
    have n3_ := aa (bb_ BK113.out hb)
    have n4_ := aa (below_step zaooek hb)
    clear HO107
    clear HO112
    clear BK113
    clear HB
    have HO107 := n0_
    have HO112 := n1_
    have HO118 := n2_
    have BK113 := n3_
    have HB := n4_
    clear n0_ n1_ n2_ n3_ n4_
    (try clear hb)
    (try clear hb2)
    (try clear hk)
    (try clear hi)
    (try clear ho0)
    refine hK.out _ _ ⟨(blk_cell BK113.out 0).trans rfl, (blk_cell BK113.out 1).trans rfl, (blk_cell BK113.out 2).trans rfl⟩ (fun hHeld => ?_)
    clear hK K
    refine norm_ (a' := ?_) ?_ ?_
    rotate_left
    ·
     show Act.put _ (some 34) _ = _
     simp only [Act.put, List.setIfInBounds_toArray, List.set_cons_zero, List.set_cons_succ, i64_w, i32_w]
     rfl
    refine pu3 5 35 ?_
    refine pu3 8 38 ?_
    refine pu3 9 2 ?_
    refine done_ (done_of HT_.out (by kernel_rfl)) ?_
    try go_wp2
    go_ret
    exact ⟨zlhpib, zaooek⟩
   case rest =>
    clear HC7
    try clear p2
    try clear c4
    try clear c14b0
    try clear c14b1
    try clear c14b2
    try clear hcz12_0
    try clear hcz12_1
    try clear hcz12_2
    try clear hfz12_0
    try clear hfz12_1
    try clear hfz12_2
    try clear p2
    obtain ⟨kq, HA, HJ6, HO_3, HO_114002, BK113, HB⟩ := hcut
    cases kq with
    | zero => exact absurd HA.out (by simp [laws_FnSets.j1])
    | succ kj6 =>
     have H := HA.out
     clear HA
     simp only [laws_FnSets.j1] at H
     revert H
     refine ob3_ fun t119 t120 t121 A19 H => ?_
     (try dsimp only at H)
     revert H
     refine ob3_ fun t125 t126 t127 A20 H => ?_
     (try dsimp only at H)
     have HC21 := aa H
     clear H
     obtain ⟨hcz22_0, hcz22_1, hcz22_2, hfz22_0, hfz22_1, hfz22_2⟩ := blk3_ BK113.out
     go_upto_region 9 with (first | (refine gc_ Tryd.func11 (some 42) #[.slice Ao13 t110.length co13, .string t103] ?_; (with_reducible refine (impl_GetZ.calls kj6 _ _ t110 t103 t119 t120 t121 _ zficko znoaai A19.out).mono ?_); rintro e w23 ⟨v122, rfl, ho0, hb⟩; refine ⟨_, rfl, ?_⟩; have n0_ := aa (Kd.R_elder' (zcaken HO_3.out) (Kd.R_base ho0) hb); have n1_ := aa (Kd.R_elder' (zcaken HO_114002.out) (Kd.R_base ho0) hb); have n2_ := aa (Kd.R_lower (Kd.R_new' (Kd.R_new' ho0 (Kd.R_lt (zcaken HO_3.out))) (Kd.R_lt (zcaken HO_114002.out))) (below_size zaooek)); have n3_ := aa (bb_ BK113.out hb); have n4_ := aa (below_step zaooek hb); clear HO_3; clear HO_114002; clear BK113; clear HB; have HO_3 := n0_; have HO_114002 := n1_; have HO123 := n2_; have BK113 := n3_; have HB := n4_; clear n0_ n1_ n2_ n3_ n4_; (try clear hb hk hi ho0)) | ((with_reducible refine gate_dst (N := 8) rfl ?_); (try (refine gate_guard (by rfl) ?_; dsimp only)); refine box_event ?hg (N := 8) ?hd (cs := #[.int .i64 0, .string (⟨#[]⟩ : ByteArray), .slice none 0 0]) (t := 28) ?hr ?_; (case hd => rfl); (case hg => rfl); (case hr => exact zhlgcp); intro gb124 hg w24 hbox hb; have n0_ := aa (Kd.R_below (zcaken HO_3.out) hb); have n1_ := aa (Kd.R_below (zcaken HO_114002.out) hb); have n2_ := aa (Kd.R_below (zcaken HO123.out) hb); have n3_ := aa (bb_ BK113.out hb); have n4_ := aa (below_step zaooek hb); have n5_ := aa (hbox); have n6_ := aa ((by rw [hg]; exact (below_size zaooek) : w.heap.size ≤ gb124)); have n7_ := aa ((by rw [hg]; exact (below_size zaooek) : w.heap.size ≤ gb124)); have n8_ := aa ((zdajdi : gb113 ≠ gb124)); have n9_ := aa ((zahbbp : gb124 ≠ gb113)); clear HO_3; clear HO_114002; clear HO123; clear BK113; clear HB; have HO_3 := n0_; have HO_114002 := n1_; have HO123 := n2_; have BK113 := n3_; have HB := n4_; have BK124 := n5_; have GW124 := n6_; have GE124 := n7_; have NB113_124 := n8_; have NB124_113 := n9_; clear n0_ n1_ n2_ n3_ n4_ n5_ n6_ n7_ n8_ n9_; clear hb hbox hg; have hnb25 := NB124_113.out; have hnc25 := NB113_124.out; obtain ⟨hcz26_0, hcz26_1, hcz26_2, hfz26_0, hfz26_1, hfz26_2⟩ := blk3_ BK124.out; obtain ⟨Ao27, co27, eo27⟩ := Kd.R_slice HO123.out; subst eo27) | (refine gc_ Tryd.func11 (some 45) #[.slice Ao9 t102.length co9, .string t103] ?_; (with_reducible refine (impl_GetZ.calls kj6 _ _ t102 t103 t125 t126 t127 _ ?side1 ?side2 A20.out).mono ?_); (case side1 => refine (Kd.R_reads' (e := 32) (base := w.heap.size) (ok := fun k_ => (some k_ ≠ (.slice Ao13 t110.length co13 : Value).ownBlock ∧ some k_ ≠ (.slice Ao27 t121.length co27 : Value).ownBlock)) (n := t102.length) (c := co9) ?_).2.2; exact (by (with_reducible repeat (first | apply Kd.R_alloc | apply Kd.R_drewN | apply Kd.R_drew)); exact (Kd.R_mono (Kd.R_far (p := ⟨gb124, 2, none⟩) (Kd.R_far (p := ⟨gb124, 1, none⟩) (Kd.R_far (p := ⟨gb124, 0, none⟩) (Kd.R_types HO_3.out BK124.out (by decide)) (fun _ hk => hk.2) (.int .i64 t119)) (fun _ hk => hk.2) (.string t120)) (fun _ hk => hk.2) (.slice Ao27 t121.length co27)) (fun _ h_ => h_.1)))); (case side2 => exact zkdfbh); rintro e w28 ⟨v128, rfl, ho0, hb⟩; refine ⟨_, rfl, ?_⟩; have n0_ := aa (Kd.R_elder' (by (with_reducible repeat (first | apply Kd.R_alloc | apply Kd.R_drewN | apply Kd.R_drew)); exact (Kd.R_mono (Kd.R_far (p := ⟨gb124, 2, none⟩) (Kd.R_far (p := ⟨gb124, 1, none⟩) (Kd.R_far (p := ⟨gb124, 0, none⟩) (Kd.R_types HO_3.out BK124.out (by decide)) (fun _ hk => hk.2) (.int .i64 t119)) (fun _ hk => hk.2) (.string t120)) (fun _ hk => hk.2) (.slice Ao27 t121.length co27)) (fun _ h_ => h_.1))) (Kd.R_base ho0) hb); have n1_ := aa (Kd.R_elder' (by (with_reducible repeat (first | apply Kd.R_alloc | apply Kd.R_drewN | apply Kd.R_drew)); exact (Kd.R_mono (Kd.R_far (p := ⟨gb124, 2, none⟩) (Kd.R_far (p := ⟨gb124, 1, none⟩) (Kd.R_far (p := ⟨gb124, 0, none⟩) (Kd.R_types HO_114002.out BK124.out (by decide)) (fun _ hk => hk.2) (.int .i64 t119)) (fun _ hk => hk.2) (.string t120)) (fun _ hk => hk.2) (.slice Ao27 t121.length co27)) (fun _ h_ => h_.1))) (Kd.R_base ho0) hb); have n2_ := aa (Kd.R_elder' (by (with_reducible repeat (first | apply Kd.R_alloc | apply Kd.R_drewN | apply Kd.R_drew)); exact (Kd.R_mono (Kd.R_far (p := ⟨gb124, 2, none⟩) (Kd.R_far (p := ⟨gb124, 1, none⟩) (Kd.R_far (p := ⟨gb124, 0, none⟩) (Kd.R_types HO123.out BK124.out (by decide)) (fun _ hk => hk.2) (.int .i64 t119)) (fun _ hk => hk.2) (.string t120)) (fun _ hk => hk.2) (.slice Ao27 t121.length co27)) (fun _ h_ => h_.1))) (Kd.R_base ho0) hb); have n3_ := aa (Kd.R_lower (Kd.R_new' (Kd.R_new' (Kd.R_new' ho0 (Kd.R_lt (by (with_reducible repeat (first | apply Kd.R_alloc | apply Kd.R_drewN | apply Kd.R_drew)); exact (Kd.R_mono (Kd.R_far (p := ⟨gb124, 2, none⟩) (Kd.R_far (p := ⟨gb124, 1, none⟩) (Kd.R_far (p := ⟨gb124, 0, none⟩) (Kd.R_types HO_3.out BK124.out (by decide)) (fun _ hk => hk.2) (.int .i64 t119)) (fun _ hk => hk.2) (.string t120)) (fun _ hk => hk.2) (.slice Ao27 t121.length co27)) (fun _ h_ => h_.1))))) (Kd.R_lt (by (with_reducible repeat (first | apply Kd.R_alloc | apply Kd.R_drewN | apply Kd.R_drew)); exact (Kd.R_mono (Kd.R_far (p := ⟨gb124, 2, none⟩) (Kd.R_far (p := ⟨gb124, 1, none⟩) (Kd.R_far (p := ⟨gb124, 0, none⟩) (Kd.R_types HO_114002.out BK124.out (by decide)) (fun _ hk => hk.2) (.int .i64 t119)) (fun _ hk => hk.2) (.string t120)) (fun _ hk => hk.2) (.slice Ao27 t121.length co27)) (fun _ h_ => h_.1))))) (Kd.R_lt (by (with_reducible repeat (first | apply Kd.R_alloc | apply Kd.R_drewN | apply Kd.R_drew)); exact (Kd.R_mono (Kd.R_far (p := ⟨gb124, 2, none⟩) (Kd.R_far (p := ⟨gb124, 1, none⟩) (Kd.R_far (p := ⟨gb124, 0, none⟩) (Kd.R_types HO123.out BK124.out (by decide)) (fun _ hk => hk.2) (.int .i64 t119)) (fun _ hk => hk.2) (.string t120)) (fun _ hk => hk.2) (.slice Ao27 t121.length co27)) (fun _ h_ => h_.1))))) (below_size zgoimi)); have n4_ := aa (blk_below (g := gb113) (o := .cells #[.int .i64 t108, .string t109, .slice Ao13 t110.length co13] 28 (0, 0)) (by (with_reducible repeat (first | refine blk_drewN ?_ _ | refine blk_drew ?_ | refine blk_alloc ?_ _)); refine blk_far ?_ NB113_124.out _; (with_reducible repeat (first | refine blk_drewN ?_ _ | refine blk_drew ?_ | refine blk_alloc ?_ _)); refine blk_far ?_ NB113_124.out _; (with_reducible repeat (first | refine blk_drewN ?_ _ | refine blk_drew ?_ | refine blk_alloc ?_ _)); refine blk_far ?_ NB113_124.out _; (with_reducible repeat (first | refine blk_drewN ?_ _ | refine blk_drew ?_ | refine blk_alloc ?_ _)); exact BK113.out) hb); have n5_ := aa (blk_below (g := gb124) (o := .cells #[.int .i64 t119, .string t120, .slice Ao27 t121.length co27] 28 (0, 0)) (by (with_reducible repeat (first | refine blk_drewN ?_ _ | refine blk_drew ?_ | refine blk_alloc ?_ _)); refine blk_put (cs := #[.int .i64 t119, .string t120, .slice none 0 0]) ?_ 2 _ rfl; (with_reducible repeat (first | refine blk_drewN ?_ _ | refine blk_drew ?_ | refine blk_alloc ?_ _)); refine blk_put (cs := #[.int .i64 t119, .string (⟨#[]⟩ : ByteArray), .slice none 0 0]) ?_ 1 _ rfl; (with_reducible repeat (first | refine blk_drewN ?_ _ | refine blk_drew ?_ | refine blk_alloc ?_ _)); refine blk_put (cs := #[.int .i64 0, .string (⟨#[]⟩ : ByteArray), .slice none 0 0]) ?_ 0 _ rfl; (with_reducible repeat (first | refine blk_drewN ?_ _ | refine blk_drew ?_ | refine blk_alloc ?_ _)); exact BK124.out) hb); have n6_ := aa (below_step zgoimi hb); clear HO_3; clear HO_114002; clear HO123; clear BK113; clear BK124; clear HB; have HO_3 := n0_; have HO_114002 := n1_; have HO123 := n2_; have HO129 := n3_; have BK113 := n4_; have BK124 := n5_; have HB := n6_; clear n0_ n1_ n2_ n3_ n4_ n5_ n6_; (try clear hb hk hi ho0)) | ((with_reducible refine gate_dst (N := 9) rfl ?_); (try (refine gate_guard (by rfl) ?_; dsimp only)); refine box_event ?hg (N := 9) ?hd (cs := #[.int .i64 0, .string (⟨#[]⟩ : ByteArray), .slice none 0 0]) (t := 28) ?hr ?_; (case hd => rfl); (case hg => rfl); (case hr => exact zhlgcp); intro gb130 hg w29 hbox hb; have n0_ := aa (Kd.R_below (zcaken HO_3.out) hb); have n1_ := aa (Kd.R_below (zcaken HO_114002.out) hb); have n2_ := aa (Kd.R_below (zcaken HO123.out) hb); have n3_ := aa (Kd.R_below (zcaken HO129.out) hb); have n4_ := aa (bb_ BK113.out hb); have n5_ := aa (bb_ BK124.out hb); have n6_ := aa (below_step zgoimi hb); have n7_ := aa (hbox); have n8_ := aa ((by rw [hg]; exact (below_size zgoimi) : w.heap.size ≤ gb130)); have n9_ := aa ((by rw [hg]; exact (below_size zgoimi) : w.heap.size ≤ gb130)); have n10_ := aa ((zdajdi : gb113 ≠ gb130)); have n11_ := aa ((zahbbp : gb130 ≠ gb113)); have n12_ := aa ((zdeigp : gb124 ≠ gb130)); have n13_ := aa ((zgiccd : gb130 ≠ gb124)); clear HO_3; clear HO_114002; clear HO123; clear HO129; clear BK113; clear BK124; clear HB; have HO_3 := n0_; have HO_114002 := n1_; have HO123 := n2_; have HO129 := n3_; have BK113 := n4_; have BK124 := n5_; have HB := n6_; have BK130 := n7_; have GW130 := n8_; have GE130 := n9_; have NB113_130 := n10_; have NB130_113 := n11_; have NB124_130 := n12_; have NB130_124 := n13_; clear n0_ n1_ n2_ n3_ n4_ n5_ n6_ n7_ n8_ n9_ n10_ n11_ n12_ n13_; clear hb hbox hg; have hnb30 := NB130_113.out; have hnc30 := NB113_130.out; have hnb31 := NB130_124.out; have hnc31 := NB124_130.out; obtain ⟨hcz32_0, hcz32_1, hcz32_2, hfz32_0, hfz32_1, hfz32_2⟩ := blk3_ BK130.out; obtain ⟨Ao33, co33, eo33⟩ := Kd.R_slice HO129.out; subst eo33))
     (try simp only [Act.put, List.setIfInBounds_toArray, List.set_cons_zero, List.set_cons_succ])
     go_cut [60] (fun v60 wc => ∃ (kq : Nat) (x60_20 : Bool), v60 = .bool x60_20 ∧ Aside0 (laws_FnSets.j2 kq t102 t103 t104 t105 x60_20 t108 t109 t110 t119 t120 t121 t125 t126 t127 = some r) ∧ Aside0 (kq ≤ kj6) ∧ Aside0 (Kd.R k32 32 wc w.heap.size (fun k_ => some k_ ≠ ((.slice Ao13 t110.length co13) : Value).ownBlock ∧ some k_ ≠ ((.slice Ao27 t121.length co27) : Value).ownBlock ∧ some k_ ≠ ((.slice Ao33 t127.length co33) : Value).ownBlock) (.slice Ao9 t102.length co9) t102) ∧ Aside0 (Kd.R k32 32 wc w.heap.size (fun k_ => some k_ ≠ ((.slice Ao9 t102.length co9) : Value).ownBlock ∧ some k_ ≠ ((.slice Ao27 t121.length co27) : Value).ownBlock ∧ some k_ ≠ ((.slice Ao33 t127.length co33) : Value).ownBlock) (.slice Ao13 t110.length co13) t110) ∧ Aside0 (Kd.R k32 32 wc w.heap.size (fun k_ => some k_ ≠ ((.slice Ao9 t102.length co9) : Value).ownBlock ∧ some k_ ≠ ((.slice Ao13 t110.length co13) : Value).ownBlock ∧ some k_ ≠ ((.slice Ao33 t127.length co33) : Value).ownBlock) (.slice Ao27 t121.length co27) t121) ∧ Aside0 (Kd.R k32 32 wc w.heap.size (fun k_ => some k_ ≠ ((.slice Ao9 t102.length co9) : Value).ownBlock ∧ some k_ ≠ ((.slice Ao13 t110.length co13) : Value).ownBlock ∧ some k_ ≠ ((.slice Ao27 t121.length co27) : Value).ownBlock) (.slice Ao33 t127.length co33) t127) ∧ Aside0 (wc.heap[gb113]? = some (.cells #[.int .i64 t108, .string t109, (.slice Ao13 t110.length co13)] 28 (0, 0))) ∧ Aside0 (wc.heap[gb124]? = some (.cells #[.int .i64 t119, .string t120, (.slice Ao27 t121.length co27)] 28 (0, 0))) ∧ Aside0 (wc.heap[gb130]? = some (.cells #[.int .i64 t125, .string t126, (.slice Ao33 t127.length co33)] 28 (0, 0))) ∧ Aside0 (Below w.heap.size w wc))
     case first =>
      have H := HC21.out
      clear HC21
      revert H
      refine itE_ (fun c34b0 c34b1 H => ?_) fun c34b0 c34b1 H => ?_
      ·
       (first | rw [c34b0] | (simp only [i64_w, i32_w]; rw [c34b0]) | (simp only [c34b2, Bool.not_false, Bool.not_true]) | skip)
       revert H
       refine itE_ (fun c35b0 c35b1 H => ?_) fun c35b0 c35b1 H => ?_
       ·
        have H' := aa H
        clear H
        have hnb36 := NB124_113.out
        have hnc36 := NB113_124.out
        have hnb37 := NB124_130.out
        have hnc37 := NB130_124.out
        obtain ⟨hcz38_0, hcz38_1, hcz38_2, hfz38_0, hfz38_1, hfz38_2⟩ := blk3_ BK124.out
        have hnb39 := NB130_113.out
        have hnc39 := NB113_130.out
        obtain ⟨hcz40_0, hcz40_1, hcz40_2, hfz40_0, hfz40_1, hfz40_2⟩ := blk3_ BK130.out
        go_wp2
        go_meet
        case rel => exact ⟨_, (((t127.length : Int) != 1)), zagbkp, H', ⟨by have := HJ2.out; have := HJ6.out; first | omega | exact Nat.le_refl _⟩, ⟨zakmbj⟩, ⟨zdenkn⟩, ⟨zplank⟩, ⟨zeccic⟩, ⟨zhdikp⟩, ⟨zbjhfc⟩, ⟨zikknd⟩, ⟨zhcpch⟩⟩
       have H' := aa H
       clear H
       have hnb41 := NB124_113.out
       have hnc41 := NB113_124.out
       have hnb42 := NB124_130.out
       have hnc42 := NB130_124.out
       obtain ⟨hcz43_0, hcz43_1, hcz43_2, hfz43_0, hfz43_1, hfz43_2⟩ := blk3_ BK124.out
       go_wp2
       go_meet
       case rel => exact ⟨_, (true), zagbkp, H', ⟨by have := HJ2.out; have := HJ6.out; first | omega | exact Nat.le_refl _⟩, ⟨zakmbj⟩, ⟨zdenkn⟩, ⟨zplank⟩, ⟨zeccic⟩, ⟨zhdikp⟩, ⟨zbjhfc⟩, ⟨zikknd⟩, ⟨zhcpch⟩⟩
      (first | rw [c34b0] | (simp only [i64_w, i32_w]; rw [c34b0]) | (simp only [c34b2, Bool.not_false, Bool.not_true]) | skip)
      have H' := aa H
      clear H
      have hnb44 := NB124_113.out
      have hnc44 := NB113_124.out
      have hnb45 := NB124_130.out
      have hnc45 := NB130_124.out
      obtain ⟨hcz46_0, hcz46_1, hcz46_2, hfz46_0, hfz46_1, hfz46_2⟩ := blk3_ BK124.out
      go_wp2
      go_meet
      case rel => exact ⟨_, (true), zagbkp, H', ⟨by have := HJ2.out; have := HJ6.out; first | omega | exact Nat.le_refl _⟩, ⟨zakmbj⟩, ⟨zdenkn⟩, ⟨zplank⟩, ⟨zeccic⟩, ⟨zhdikp⟩, ⟨zbjhfc⟩, ⟨zikknd⟩, ⟨zhcpch⟩⟩
     case rest =>
      clear HC21
      try clear p2
      try clear c4
      try clear c14b0
      try clear c14b1
      try clear c14b2
      try clear c34b0
      try clear c34b1
      try clear c34b2
      try clear c35b0
      try clear c35b1
      try clear hcz12_0
      try clear hcz12_1
      try clear hcz12_2
      try clear hcz22_0
      try clear hcz22_1
      try clear hcz22_2
      try clear hcz26_0
      try clear hcz26_1
      try clear hcz26_2
      try clear hcz32_0
      try clear hcz32_1
      try clear hcz32_2
      try clear hcz38_0
      try clear hcz38_1
      try clear hcz38_2
      try clear hcz40_0
      try clear hcz40_1
      try clear hcz40_2
      try clear hcz43_0
      try clear hcz43_1
      try clear hcz43_2
      try clear hcz46_0
      try clear hcz46_1
      try clear hcz46_2
      try clear hfz12_0
      try clear hfz12_1
      try clear hfz12_2
      try clear hfz22_0
      try clear hfz22_1
      try clear hfz22_2
      try clear hfz26_0
      try clear hfz26_1
      try clear hfz26_2
      try clear hfz32_0
      try clear hfz32_1
      try clear hfz32_2
      try clear hfz38_0
      try clear hfz38_1
      try clear hfz38_2
      try clear hfz40_0
      try clear hfz40_1
      try clear hfz40_2
      try clear hfz43_0
      try clear hfz43_1
      try clear hfz43_2
      try clear hfz46_0
      try clear hfz46_1
      try clear hfz46_2
      try clear p2
      obtain ⟨kq, x60_20, rfl, HA, HJ20, HO_3, HO_114002, HO_125002, HO_131002, BK113, BK124, BK130, HB⟩ := hcut
      cases kq with
      | zero => exact absurd HA.out (by simp [laws_FnSets.j2])
      | succ kj20 =>
       have H := HA.out
       clear HA
       simp only [laws_FnSets.j2] at H
       have HC47 := aa H
       clear H
       go_upto_if 60 with (fail)
       go_cut [] (fun wc => ∃ (kq : Nat), Aside0 (laws_FnSets.j3 kq t102 t103 t104 t105 t108 t109 t110 t119 t120 t121 t125 t126 t127 = some r) ∧ Aside0 (kq ≤ kj20) ∧ Aside0 (Kd.R k32 32 wc w.heap.size (fun k_ => some k_ ≠ ((.slice Ao13 t110.length co13) : Value).ownBlock ∧ some k_ ≠ ((.slice Ao27 t121.length co27) : Value).ownBlock ∧ some k_ ≠ ((.slice Ao33 t127.length co33) : Value).ownBlock) (.slice Ao9 t102.length co9) t102) ∧ Aside0 (Kd.R k32 32 wc w.heap.size (fun k_ => some k_ ≠ ((.slice Ao9 t102.length co9) : Value).ownBlock ∧ some k_ ≠ ((.slice Ao27 t121.length co27) : Value).ownBlock ∧ some k_ ≠ ((.slice Ao33 t127.length co33) : Value).ownBlock) (.slice Ao13 t110.length co13) t110) ∧ Aside0 (Kd.R k32 32 wc w.heap.size (fun k_ => some k_ ≠ ((.slice Ao9 t102.length co9) : Value).ownBlock ∧ some k_ ≠ ((.slice Ao13 t110.length co13) : Value).ownBlock ∧ some k_ ≠ ((.slice Ao33 t127.length co33) : Value).ownBlock) (.slice Ao27 t121.length co27) t121) ∧ Aside0 (Kd.R k32 32 wc w.heap.size (fun k_ => some k_ ≠ ((.slice Ao9 t102.length co9) : Value).ownBlock ∧ some k_ ≠ ((.slice Ao13 t110.length co13) : Value).ownBlock ∧ some k_ ≠ ((.slice Ao27 t121.length co27) : Value).ownBlock) (.slice Ao33 t127.length co33) t127) ∧ Aside0 (wc.heap[gb113]? = some (.cells #[.int .i64 t108, .string t109, (.slice Ao13 t110.length co13)] 28 (0, 0))) ∧ Aside0 (wc.heap[gb124]? = some (.cells #[.int .i64 t119, .string t120, (.slice Ao27 t121.length co27)] 28 (0, 0))) ∧ Aside0 (wc.heap[gb130]? = some (.cells #[.int .i64 t125, .string t126, (.slice Ao33 t127.length co33)] 28 (0, 0))) ∧ Aside0 (Below w.heap.size w wc))
       case first =>
        have H := HC47.out
        clear HC47
        by_cases c48 : x60_20 = true
        ·
         subst c48
         rw [if_pos rfl] at H
         obtain rfl := Option.some.inj H
         exact absurd HRT.out (by decide)
        replace c48 := Bool.eq_false_iff.mpr c48
        subst c48
        rw [if_neg fT_] at H
        have H' := aa H
        clear H
        go_wp2
        go_meet
        case rel => exact ⟨_, H', ⟨by have := HJ2.out; have := HJ6.out; have := HJ20.out; first | omega | exact Nat.le_refl _⟩, ⟨zcaken HO_3.out⟩, ⟨zcaken HO_114002.out⟩, ⟨zcaken HO_125002.out⟩, ⟨zcaken HO_131002.out⟩, ⟨zkjhpm BK113.out⟩, ⟨zkjhpm BK124.out⟩, ⟨zkjhpm BK130.out⟩, ⟨zhcpch⟩⟩
       case rest =>
        clear HC47
        try clear p2
        try clear c4
        try clear c14b0
        try clear c14b1
        try clear c14b2
        try clear c34b0
        try clear c34b1
        try clear c34b2
        try clear c35b0
        try clear c35b1
        try clear c48
        try clear hcz12_0
        try clear hcz12_1
        try clear hcz12_2
        try clear hcz22_0
        try clear hcz22_1
        try clear hcz22_2
        try clear hcz26_0
        try clear hcz26_1
        try clear hcz26_2
        try clear hcz32_0
        try clear hcz32_1
        try clear hcz32_2
        try clear hcz38_0
        try clear hcz38_1
        try clear hcz38_2
        try clear hcz40_0
        try clear hcz40_1
        try clear hcz40_2
        try clear hcz43_0
        try clear hcz43_1
        try clear hcz43_2
        try clear hcz46_0
        try clear hcz46_1
        try clear hcz46_2
        try clear hfz12_0
        try clear hfz12_1
        try clear hfz12_2
        try clear hfz22_0
        try clear hfz22_1
        try clear hfz22_2
        try clear hfz26_0
        try clear hfz26_1
        try clear hfz26_2
        try clear hfz32_0
        try clear hfz32_1
        try clear hfz32_2
        try clear hfz38_0
        try clear hfz38_1
        try clear hfz38_2
        try clear hfz40_0
        try clear hfz40_1
        try clear hfz40_2
        try clear hfz43_0
        try clear hfz43_1
        try clear hfz43_2
        try clear hfz46_0
        try clear hfz46_1
        try clear hfz46_2
        try clear p2
        obtain ⟨kq, HA, HJ46, HO_3, HO_114002, HO_125002, HO_131002, BK113, BK124, BK130, HB⟩ := hcut
        cases kq with
        | zero => exact absurd HA.out (by simp [laws_FnSets.j3])
        | succ kj46 =>
         have H := HA.out
         clear HA
         simp only [laws_FnSets.j3] at H
         revert H
         refine itG_ fun c49 H => ?_
         have c49b0 := decide_eq_true c49
         have c49b1 : decide (0 < t127.length) = true := decide_eq_true (by omega)
         clear c49
         revert H
         refine ob3_ fun t132 t133 t134 A50 H => ?_
         (try dsimp only at H)
         have H' := aa H
         clear H
         try go_wp2
         replace HO_3 := aa (Kd.R_drew HO_3.out)
         replace HO_114002 := aa (Kd.R_drew HO_114002.out)
         replace HO_125002 := aa (Kd.R_drew HO_125002.out)
         replace HO_131002 := aa (Kd.R_drew HO_131002.out)
         replace BK113 := aa (blk_drew BK113.out)
         replace BK124 := aa (blk_drew BK124.out)
         replace BK130 := aa (blk_drew BK130.out)
         replace HB := aa (below_drew1 HB.out)
         have p131 : 0 ≤ (0 : Int) := (by omega)
         have q131 : 0 < (t127.length : Int) := of_decide_eq_true zgglam
         obtain ⟨ad131, e131, hx131_0, hx131_1, hx131_2, hx131_3, hx131_4⟩ := at_T32 (Kd.R_reads' HO_131002.out).2.2 0 p131 q131
         cases e131
         have qi131 : (0 < t127.length) = True := eq_true (by omega)
         (try rw [show ((0 : Int)).toNat = 0 from rfl] at hx131_0)
         (try rw [show 0 * 5 = 0 from rfl] at hx131_0)
         (try rw [Addr.add_zero'] at hx131_0)
         (try rw [show ((0 : Int)).toNat = 0 from rfl] at hx131_1)
         (try rw [show 0 * 5 = 0 from rfl] at hx131_1)
         (try rw [Addr.add_zero'] at hx131_1)
         (try rw [show ((0 : Int)).toNat = 0 from rfl] at hx131_2)
         (try rw [show 0 * 5 = 0 from rfl] at hx131_2)
         (try rw [Addr.add_zero'] at hx131_2)
         (try rw [show ((0 : Int)).toNat = 0 from rfl] at hx131_3)
         (try rw [show 0 * 5 = 0 from rfl] at hx131_3)
         (try rw [Addr.add_zero'] at hx131_3)
         (try rw [show ((0 : Int)).toNat = 0 from rfl] at hx131_4)
         (try rw [show 0 * 5 = 0 from rfl] at hx131_4)
         (try rw [Addr.add_zero'] at hx131_4)
         replace p131 := eq_true p131
         replace q131 := eq_true q131
         refine start_ (n := 12) (S := fun w' => w'.cell? ⟨gb113, 0, none⟩ = some (.int .i64 t108) ∧ w'.cell? ⟨gb113, 1, none⟩ = some (.string t109) ∧ w'.cell? ⟨gb113, 2, none⟩ = some (.slice Ao13 t110.length co13) ∧ w'.cell? ⟨gb130, 0, none⟩ = some (.int .i64 t125) ∧ w'.cell? ⟨gb130, 1, none⟩ = some (.string t126) ∧ w'.cell? ⟨gb130, 2, none⟩ = some (.slice (some ad131) t127.length co33) ∧ w'.cell? ad131 = some (.string ((rd_T32 t127 0).f0)) ∧ w'.cell? ⟨ad131.block, ad131.off + 1, none⟩ = some (.int .i64 ((rd_T32 t127 0).f1)) ∧ w'.cell? ⟨ad131.block, ad131.off + 2, none⟩ = some (.int .i64 ((rd_T32 t127 0).f2)) ∧ w'.cell? ⟨ad131.block, ad131.off + 3, none⟩ = some (.int .i64 ((rd_T32 t127 0).f3)) ∧ w'.cell? ⟨ad131.block, ad131.off + 4, none⟩ = some (.int .i64 ((rd_T32 t127 0).f4))) (ds := []) #[false, false, false, false, false, false, false, false, false, false, false, false] (by kernel_rfl) rfl rfl ⟨(blk_cell BK113.out 0).trans rfl, (blk_cell BK113.out 1).trans rfl, (blk_cell BK113.out 2).trans rfl, (blk_cell BK130.out 0).trans rfl, (blk_cell BK130.out 1).trans rfl, (blk_cell BK130.out 2).trans rfl, hx131_0, hx131_1, hx131_2, hx131_3, hx131_4⟩ (fun hHeld => ?_); refine with_tabW laws_FnSets.tab11 laws_FnSets.bits11 (fun HT_ HW_ => ?_)
         generalize wc.drew = w51 at HO_3 HO_114002 HO_125002 HO_131002 BK113 BK124 BK130 HB hx131_0 hx131_1 hx131_2 hx131_3 hx131_4 hHeld ⊢
         refine pu3 0 61 ?_
         refine pu3 2 63 ?_
         refine pu3 3 64 ?_
         refine pu3 4 65 ?_
         refine tk11_3 1 62 ?_
         refine tk11_3 5 66 ?_
         refine pu3 6 67 ?_
         refine pu3 7 68 ?_
         refine tk11_3 8 69 ?_
         refine join_ (σ := Value × Nat) 1 #[true, true, true, true, true, true, true, true, true, true, true, false] (fun s_ => [(70, .agg #[.int .i64 t132, .string t133, s_.1]), (10, .pointer (some ⟨s_.2, 0, none⟩))]) (fun s_ w' => (w'.cell? ⟨gb113, 0, none⟩ = some (.int .i64 t108) ∧ w'.cell? ⟨gb113, 1, none⟩ = some (.string t109) ∧ w'.cell? ⟨gb113, 2, none⟩ = some (.slice Ao13 t110.length co13) ∧ w'.cell? ⟨gb130, 0, none⟩ = some (.int .i64 t125) ∧ w'.cell? ⟨gb130, 1, none⟩ = some (.string t126) ∧ w'.cell? ⟨gb130, 2, none⟩ = some (.slice (some ad131) t127.length co33) ∧ w'.cell? ad131 = some (.string ((rd_T32 t127 0).f0)) ∧ w'.cell? ⟨ad131.block, ad131.off + 1, none⟩ = some (.int .i64 ((rd_T32 t127 0).f1)) ∧ w'.cell? ⟨ad131.block, ad131.off + 2, none⟩ = some (.int .i64 ((rd_T32 t127 0).f2)) ∧ w'.cell? ⟨ad131.block, ad131.off + 3, none⟩ = some (.int .i64 ((rd_T32 t127 0).f3)) ∧ w'.cell? ⟨ad131.block, ad131.off + 4, none⟩ = some (.int .i64 ((rd_T32 t127 0).f4))) ∧ (Kd.R k32 32 w' w.heap.size (fun k_ => some k_ ≠ (.slice Ao13 t110.length co13 : Value).ownBlock ∧ some k_ ≠ (.slice Ao27 t121.length co27 : Value).ownBlock ∧ some k_ ≠ (.slice (some ad131) t127.length co33 : Value).ownBlock ∧ some k_ ≠ (.slice Ao9 t102.length co9 : Value).ownBlock) s_.1 t134) ∧ (Kd.R k32 32 w' w.heap.size (fun k_ => some k_ ≠ (s_.1 : Value).ownBlock ∧ some k_ ≠ (.slice Ao27 t121.length co27 : Value).ownBlock ∧ some k_ ≠ (.slice (some ad131) t127.length co33 : Value).ownBlock ∧ some k_ ≠ (.slice Ao9 t102.length co9 : Value).ownBlock) (.slice Ao13 t110.length co13) t110) ∧ (Kd.R k32 32 w' w.heap.size (fun k_ => some k_ ≠ (s_.1 : Value).ownBlock ∧ some k_ ≠ (.slice Ao13 t110.length co13 : Value).ownBlock ∧ some k_ ≠ (.slice (some ad131) t127.length co33 : Value).ownBlock ∧ some k_ ≠ (.slice Ao9 t102.length co9 : Value).ownBlock) (.slice Ao27 t121.length co27) t121) ∧ (Kd.R k32 32 w' w.heap.size (fun k_ => some k_ ≠ (s_.1 : Value).ownBlock ∧ some k_ ≠ (.slice Ao13 t110.length co13 : Value).ownBlock ∧ some k_ ≠ (.slice Ao27 t121.length co27 : Value).ownBlock ∧ some k_ ≠ (.slice Ao9 t102.length co9 : Value).ownBlock) (.slice (some ad131) t127.length co33) t127) ∧ (Kd.R k32 32 w' w.heap.size (fun k_ => some k_ ≠ (s_.1 : Value).ownBlock ∧ some k_ ≠ (.slice Ao13 t110.length co13 : Value).ownBlock ∧ some k_ ≠ (.slice Ao27 t121.length co27 : Value).ownBlock ∧ some k_ ≠ (.slice (some ad131) t127.length co33 : Value).ownBlock) (.slice Ao9 t102.length co9) t102) ∧ (w'.heap[gb113]? = some (.cells #[.int .i64 t108, .string t109, .slice Ao13 t110.length co13] 28 (0, 0))) ∧ (w'.heap[gb124]? = some (.cells #[.int .i64 t119, .string t120, .slice Ao27 t121.length co27] 28 (0, 0))) ∧ (w'.heap[gb130]? = some (.cells #[.int .i64 t125, .string t126, .slice (some ad131) t127.length co33] 28 (0, 0))) ∧ (w'.heap[s_.2]? = some (.cells #[.int .i64 0, .string (⟨#[]⟩ : ByteArray), .slice none 0 0] 28 (0, 0))) ∧ (w.heap.size ≤ s_.2) ∧ (w.heap.size ≤ s_.2) ∧ (gb113 ≠ s_.2) ∧ (s_.2 ≠ gb113) ∧ (gb124 ≠ s_.2) ∧ (s_.2 ≠ gb124) ∧ (gb130 ≠ s_.2) ∧ (s_.2 ≠ gb130) ∧ (Below w.heap.size w w')) ?_ ?_
         rotate_left
         ·
          intro hCont
          refine two_ (i := 9) (j := 10) (Ni := some 70) (Nj := some 10) #[true, true, true, true, true, true, true, true, true, true, false, false] #[true, true, true, true, true, true, true, true, true, false, true, false] rfl rfl rfl rfl (two_of HT_.out (by kernel_rfl)) (by decide) (by decide) (fun K hK => ?_) (fun K hK => ?_)
          ·
           skip
           refine goes_ Tryd.func9 (by kernel_rfl) rfl #[.slice Ao13 t110.length co13, .string t103, .int .i64 t104, .int .i64 ((rd_T32 t127 0).f2)] (by rfl) rfl rfl zjnmae ?_
           with_reducible refine (impl_SetZ.calls kj46 _ _ t110 t103 t104 ((rd_T32 t127 0).f2) t132 t133 t134 _ ?side1 ?side2 A50.out).mono ?_
           (case side1 => exact zficko)
           (case side2 => exact znoaai)
           rintro e w52 ⟨v135, rfl, ho0, hb⟩
           have HS6_ := (hb.cell (World.block_lt_of_cell? _ _ (hHeld.2.2.2.2.2.2.1))).trans (hHeld.2.2.2.2.2.2.1)
           have HS7_ := (hb.cell (World.block_lt_of_cell? _ _ (hHeld.2.2.2.2.2.2.2.1))).trans (hHeld.2.2.2.2.2.2.2.1)
           have HS8_ := (hb.cell (World.block_lt_of_cell? _ _ (hHeld.2.2.2.2.2.2.2.2.1))).trans (hHeld.2.2.2.2.2.2.2.2.1)
           have HS9_ := (hb.cell (World.block_lt_of_cell? _ _ (hHeld.2.2.2.2.2.2.2.2.2.1))).trans (hHeld.2.2.2.2.2.2.2.2.2.1)
           have HS10_ := (hb.cell (World.block_lt_of_cell? _ _ (hHeld.2.2.2.2.2.2.2.2.2.2))).trans (hHeld.2.2.2.2.2.2.2.2.2.2)
           refine ⟨_, rfl, ?_⟩
           have n0_ := aa (Kd.R_elder' (zcaken HO_3.out) (Kd.R_base ho0) hb)
           have n1_ := aa (Kd.R_elder' (zcaken HO_114002.out) (Kd.R_base ho0) hb)
           have n2_ := aa (Kd.R_elder' (zcaken HO_125002.out) (Kd.R_base ho0) hb)
           have n3_ := aa (Kd.R_elder' (zcaken HO_131002.out) (Kd.R_base ho0) hb)
           have n4_ := aa (Kd.R_lower (Kd.R_new' (Kd.R_new' (Kd.R_new' (Kd.R_new' ho0 (Kd.R_lt (zcaken HO_3.out))) (Kd.R_lt (zcaken HO_114002.out))) (Kd.R_lt (zcaken HO_125002.out))) (Kd.R_lt (zcaken HO_131002.out))) (below_size zhcpch))
           have n5_ := aa (bb_ BK113.out hb)
           have n6_ := aa (bb_ BK124.out hb)
           have n7_ := aa (bb_ BK130.out hb)
           have n8_ := aa (below_step zhcpch hb)
           clear HO_3
           clear HO_114002
           clear HO_125002
           clear HO_131002
           clear BK113
           clear BK124
           clear BK130
           clear HB
           have HO_3 := n0_
           have HO_114002 := n1_
           have HO_125002 := n2_
           have HO_131002 := n3_
           have HO136 := n4_
           have BK113 := n5_
           have BK124 := n6_
           have BK130 := n7_
           have HB := n8_
           clear n0_ n1_ n2_ n3_ n4_ n5_ n6_ n7_ n8_
           (try clear hb)
           (try clear hb2)
           (try clear hk)
           (try clear hi)
           (try clear ho0)
           refine hK.out _ _ ⟨(blk_cell BK113.out 0).trans rfl, (blk_cell BK113.out 1).trans rfl, (blk_cell BK113.out 2).trans rfl, (blk_cell BK130.out 0).trans rfl, (blk_cell BK130.out 1).trans rfl, (blk_cell BK130.out 2).trans rfl, HS6_, HS7_, HS8_, HS9_, HS10_⟩ (fun hHeld => ?_)
           clear hK K
           refine norm_ (a' := ?_) ?_ ?_
           rotate_left
           ·
            show Act.put _ (some 70) _ = _
            simp only [Act.put, List.setIfInBounds_toArray, List.set_cons_zero, List.set_cons_succ, i64_w, i32_w]
            rfl
           refine one_ (i := 10) (N := some 10) #[true, true, true, true, true, true, true, true, true, true, true, false] rfl rfl (one_of HT_.out (by kernel_rfl)) (by decide) (fun K hK => ?_)
           refine box_step ?hg (N := 10) ?hd (cs := #[.int .i64 0, .string (⟨#[]⟩ : ByteArray), .slice none 0 0]) (t := 28) ?hr ?_; (case hd => rfl); (case hg => rfl); (case hr => exact zhlgcp)
           intro gb137 hg w53 hbox hb
           have HS6_ := (hb.cell (World.block_lt_of_cell? _ _ (hHeld.2.2.2.2.2.2.1))).trans (hHeld.2.2.2.2.2.2.1)
           have HS7_ := (hb.cell (World.block_lt_of_cell? _ _ (hHeld.2.2.2.2.2.2.2.1))).trans (hHeld.2.2.2.2.2.2.2.1)
           have HS8_ := (hb.cell (World.block_lt_of_cell? _ _ (hHeld.2.2.2.2.2.2.2.2.1))).trans (hHeld.2.2.2.2.2.2.2.2.1)
           have HS9_ := (hb.cell (World.block_lt_of_cell? _ _ (hHeld.2.2.2.2.2.2.2.2.2.1))).trans (hHeld.2.2.2.2.2.2.2.2.2.1)
           have HS10_ := (hb.cell (World.block_lt_of_cell? _ _ (hHeld.2.2.2.2.2.2.2.2.2.2))).trans (hHeld.2.2.2.2.2.2.2.2.2.2)
           have n0_ := aa (Kd.R_below (zcaken HO_3.out) hb)
           have n1_ := aa (Kd.R_below (zcaken HO_114002.out) hb)
           have n2_ := aa (Kd.R_below (zcaken HO_125002.out) hb)
           have n3_ := aa (Kd.R_below (zcaken HO_131002.out) hb)
           have n4_ := aa (Kd.R_below (zcaken HO136.out) hb)
           have n5_ := aa (bb_ BK113.out hb)
           have n6_ := aa (bb_ BK124.out hb)
           have n7_ := aa (bb_ BK130.out hb)
           have n8_ := aa (below_step zhcpch hb)
           have n9_ := aa (hbox)
           have n10_ := aa ((zcfngl : w.heap.size ≤ gb137))
           have n11_ := aa ((zcfngl : w.heap.size ≤ gb137))
           have n12_ := aa ((zdajdi : gb113 ≠ gb137))
           have n13_ := aa ((zahbbp : gb137 ≠ gb113))
           have n14_ := aa ((zdeigp : gb124 ≠ gb137))
           have n15_ := aa ((zgiccd : gb137 ≠ gb124))
           have n16_ := aa ((zmmjfb : gb130 ≠ gb137))
           have n17_ := aa ((zdkjmg : gb137 ≠ gb130))
           clear HO_3
           clear HO_114002
           clear HO_125002
           clear HO_131002
           clear HO136
           clear BK113
           clear BK124
           clear BK130
           clear HB
           have HO_3 := n0_
           have HO_114002 := n1_
           have HO_125002 := n2_
           have HO_131002 := n3_
           have HO136 := n4_
           have BK113 := n5_
           have BK124 := n6_
           have BK130 := n7_
           have HB := n8_
           have BK137 := n9_
           have GW137 := n10_
           have GE137 := n11_
           have NB113_137 := n12_
           have NB137_113 := n13_
           have NB124_137 := n14_
           have NB137_124 := n15_
           have NB130_137 := n16_
           have NB137_130 := n17_
           clear n0_ n1_ n2_ n3_ n4_ n5_ n6_ n7_ n8_ n9_ n10_ n11_ n12_ n13_ n14_ n15_ n16_ n17_
           clear hb hbox hg
           refine hK.out _ _ ⟨(blk_cell BK113.out 0).trans rfl, (blk_cell BK113.out 1).trans rfl, (blk_cell BK113.out 2).trans rfl, (blk_cell BK130.out 0).trans rfl, (blk_cell BK130.out 1).trans rfl, (blk_cell BK130.out 2).trans rfl, HS6_, HS7_, HS8_, HS9_, HS10_⟩ (fun hHeld => ?_)
           clear hK K
           refine norm_ (a' := ?_) ?_ ?_
           rotate_left
           ·
            show Act.put _ (some 10) _ = _
            simp only [Act.put, List.setIfInBounds_toArray, List.set_cons_zero, List.set_cons_succ, i64_w, i32_w]
            rfl
           exact norm_ zgldpg (hCont (v135, gb137) _ ⟨hHeld, zlhdkn, zggdic, zgpdbf, zkmpgp, zieijm, (zkjhpm BK113.out), (zkjhpm BK124.out), (zkjhpm BK130.out), (zkjhpm BK137.out), GW137.out, GE137.out, NB113_137.out, NB137_113.out, NB124_137.out, NB137_124.out, NB130_137.out, NB137_130.out, zjplfd⟩)
          skip
          refine box_step ?hg (N := 10) ?hd (cs := #[.int .i64 0, .string (⟨#[]⟩ : ByteArray), .slice none 0 0]) (t := 28) ?hr ?_; (case hd => rfl); (case hg => rfl); (case hr => exact zhlgcp)
          intro gb137 hg w52 hbox hb
          have HS6_ := (hb.cell (World.block_lt_of_cell? _ _ (hHeld.2.2.2.2.2.2.1))).trans (hHeld.2.2.2.2.2.2.1)
          have HS7_ := (hb.cell (World.block_lt_of_cell? _ _ (hHeld.2.2.2.2.2.2.2.1))).trans (hHeld.2.2.2.2.2.2.2.1)
          have HS8_ := (hb.cell (World.block_lt_of_cell? _ _ (hHeld.2.2.2.2.2.2.2.2.1))).trans (hHeld.2.2.2.2.2.2.2.2.1)
          have HS9_ := (hb.cell (World.block_lt_of_cell? _ _ (hHeld.2.2.2.2.2.2.2.2.2.1))).trans (hHeld.2.2.2.2.2.2.2.2.2.1)
          have HS10_ := (hb.cell (World.block_lt_of_cell? _ _ (hHeld.2.2.2.2.2.2.2.2.2.2))).trans (hHeld.2.2.2.2.2.2.2.2.2.2)
          have n0_ := aa (Kd.R_below (zcaken HO_3.out) hb)
          have n1_ := aa (Kd.R_below (zcaken HO_114002.out) hb)
          have n2_ := aa (Kd.R_below (zcaken HO_125002.out) hb)
          have n3_ := aa (Kd.R_below (zcaken HO_131002.out) hb)
          have n4_ := aa (bb_ BK113.out hb)
          have n5_ := aa (bb_ BK124.out hb)
          have n6_ := aa (bb_ BK130.out hb)
          have n7_ := aa (below_step zhcpch hb)
          have n8_ := aa (hbox)
          have n9_ := aa ((zcfngl : w.heap.size ≤ gb137))
          have n10_ := aa ((zcfngl : w.heap.size ≤ gb137))
          have n11_ := aa ((zdajdi : gb113 ≠ gb137))
          have n12_ := aa ((zahbbp : gb137 ≠ gb113))
          have n13_ := aa ((zdeigp : gb124 ≠ gb137))
          have n14_ := aa ((zgiccd : gb137 ≠ gb124))
          have n15_ := aa ((zmmjfb : gb130 ≠ gb137))
          have n16_ := aa ((zdkjmg : gb137 ≠ gb130))
          clear HO_3
          clear HO_114002
          clear HO_125002
          clear HO_131002
          clear BK113
          clear BK124
          clear BK130
          clear HB
          have HO_3 := n0_
          have HO_114002 := n1_
          have HO_125002 := n2_
          have HO_131002 := n3_
          have BK113 := n4_
          have BK124 := n5_
          have BK130 := n6_
          have HB := n7_
          have BK137 := n8_
          have GW137 := n9_
          have GE137 := n10_
          have NB113_137 := n11_
          have NB137_113 := n12_
          have NB124_137 := n13_
          have NB137_124 := n14_
          have NB130_137 := n15_
          have NB137_130 := n16_
          clear n0_ n1_ n2_ n3_ n4_ n5_ n6_ n7_ n8_ n9_ n10_ n11_ n12_ n13_ n14_ n15_ n16_
          clear hb hbox hg
          refine hK.out _ _ ⟨(blk_cell BK113.out 0).trans rfl, (blk_cell BK113.out 1).trans rfl, (blk_cell BK113.out 2).trans rfl, (blk_cell BK130.out 0).trans rfl, (blk_cell BK130.out 1).trans rfl, (blk_cell BK130.out 2).trans rfl, HS6_, HS7_, HS8_, HS9_, HS10_⟩ (fun hHeld => ?_)
          clear hK K
          refine norm_ (a' := ?_) ?_ ?_
          rotate_left
          ·
           show Act.put _ (some 10) _ = _
           simp only [Act.put, List.setIfInBounds_toArray, List.set_cons_zero, List.set_cons_succ, i64_w, i32_w]
           rfl
          refine one_ (i := 9) (N := some 70) #[true, true, true, true, true, true, true, true, true, true, true, false] rfl rfl (one_of HT_.out (by kernel_rfl)) (by decide) (fun K hK => ?_)
          refine goes_ Tryd.func9 (by kernel_rfl) rfl #[.slice Ao13 t110.length co13, .string t103, .int .i64 t104, .int .i64 ((rd_T32 t127 0).f2)] (by rfl) rfl rfl zjnmae ?_
          with_reducible refine (impl_SetZ.calls kj46 _ _ t110 t103 t104 ((rd_T32 t127 0).f2) t132 t133 t134 _ ?side1 ?side2 A50.out).mono ?_
          (case side1 => exact zficko)
          (case side2 => exact znoaai)
          rintro e w53 ⟨v135, rfl, ho0, hb⟩
          have HS6_ := (hb.cell (World.block_lt_of_cell? _ _ (hHeld.2.2.2.2.2.2.1))).trans (hHeld.2.2.2.2.2.2.1)
          have HS7_ := (hb.cell (World.block_lt_of_cell? _ _ (hHeld.2.2.2.2.2.2.2.1))).trans (hHeld.2.2.2.2.2.2.2.1)
          have HS8_ := (hb.cell (World.block_lt_of_cell? _ _ (hHeld.2.2.2.2.2.2.2.2.1))).trans (hHeld.2.2.2.2.2.2.2.2.1)
          have HS9_ := (hb.cell (World.block_lt_of_cell? _ _ (hHeld.2.2.2.2.2.2.2.2.2.1))).trans (hHeld.2.2.2.2.2.2.2.2.2.1)
          have HS10_ := (hb.cell (World.block_lt_of_cell? _ _ (hHeld.2.2.2.2.2.2.2.2.2.2))).trans (hHeld.2.2.2.2.2.2.2.2.2.2)
          refine ⟨_, rfl, ?_⟩
          have n0_ := aa (Kd.R_elder' (zcaken HO_3.out) (Kd.R_base ho0) hb)
          have n1_ := aa (Kd.R_elder' (zcaken HO_114002.out) (Kd.R_base ho0) hb)
          have n2_ := aa (Kd.R_elder' (zcaken HO_125002.out) (Kd.R_base ho0) hb)
          have n3_ := aa (Kd.R_elder' (zcaken HO_131002.out) (Kd.R_base ho0) hb)
          have n4_ := aa (Kd.R_lower (Kd.R_new' (Kd.R_new' (Kd.R_new' (Kd.R_new' ho0 (Kd.R_lt (zcaken HO_3.out))) (Kd.R_lt (zcaken HO_114002.out))) (Kd.R_lt (zcaken HO_125002.out))) (Kd.R_lt (zcaken HO_131002.out))) (below_size zjplfd))
          have n5_ := aa (bb_ BK113.out hb)
          have n6_ := aa (bb_ BK124.out hb)
          have n7_ := aa (bb_ BK130.out hb)
          have n8_ := aa (bb_ BK137.out hb)
          have n9_ := aa (below_step zjplfd hb)
          clear HO_3
          clear HO_114002
          clear HO_125002
          clear HO_131002
          clear BK113
          clear BK124
          clear BK130
          clear BK137
          clear HB
          have HO_3 := n0_
          have HO_114002 := n1_
          have HO_125002 := n2_
          have HO_131002 := n3_
          have HO136 := n4_
          have BK113 := n5_
          have BK124 := n6_
          have BK130 := n7_
          have BK137 := n8_
          have HB := n9_
          clear n0_ n1_ n2_ n3_ n4_ n5_ n6_ n7_ n8_ n9_
          (try clear hb)
          (try clear hb2)
          (try clear hk)
          (try clear hi)
          (try clear ho0)
          refine hK.out _ _ ⟨(blk_cell BK113.out 0).trans rfl, (blk_cell BK113.out 1).trans rfl, (blk_cell BK113.out 2).trans rfl, (blk_cell BK130.out 0).trans rfl, (blk_cell BK130.out 1).trans rfl, (blk_cell BK130.out 2).trans rfl, HS6_, HS7_, HS8_, HS9_, HS10_⟩ (fun hHeld => ?_)
          clear hK K
          refine norm_ (a' := ?_) ?_ ?_
          rotate_left
          ·
           show Act.put _ (some 70) _ = _
           simp only [Act.put, List.setIfInBounds_toArray, List.set_cons_zero, List.set_cons_succ, i64_w, i32_w]
           rfl
          exact norm_ zgldpg (hCont (v135, gb137) _ ⟨hHeld, zlhdkn, zggdic, zgpdbf, zkmpgp, zieijm, (zkjhpm BK113.out), (zkjhpm BK124.out), (zkjhpm BK130.out), (zkjhpm BK137.out), GW137.out, GE137.out, NB113_137.out, NB137_113.out, NB124_137.out, NB137_124.out, NB130_137.out, NB137_130.out, zjplfd⟩)
         rintro ⟨v135, gb137⟩ w54 ⟨hS_, h0_, h1_, h2_, h3_, h4_, h5_, h6_, h7_, h8_, h9_, h10_, h11_, h12_, h13_, h14_, h15_, h16_, h17_⟩
         have n0_ : Aside0 (Kd.R k32 32 w54 w.heap.size (fun k_ => some k_ ≠ (.slice Ao13 t110.length co13 : Value).ownBlock ∧ some k_ ≠ (.slice Ao27 t121.length co27 : Value).ownBlock ∧ some k_ ≠ (.slice (some ad131) t127.length co33 : Value).ownBlock ∧ some k_ ≠ (.slice Ao9 t102.length co9 : Value).ownBlock) v135 t134) := ⟨h0_⟩
         have n1_ : Aside0 (Kd.R k32 32 w54 w.heap.size (fun k_ => some k_ ≠ (v135 : Value).ownBlock ∧ some k_ ≠ (.slice Ao27 t121.length co27 : Value).ownBlock ∧ some k_ ≠ (.slice (some ad131) t127.length co33 : Value).ownBlock ∧ some k_ ≠ (.slice Ao9 t102.length co9 : Value).ownBlock) (.slice Ao13 t110.length co13) t110) := ⟨h1_⟩
         have n2_ : Aside0 (Kd.R k32 32 w54 w.heap.size (fun k_ => some k_ ≠ (v135 : Value).ownBlock ∧ some k_ ≠ (.slice Ao13 t110.length co13 : Value).ownBlock ∧ some k_ ≠ (.slice (some ad131) t127.length co33 : Value).ownBlock ∧ some k_ ≠ (.slice Ao9 t102.length co9 : Value).ownBlock) (.slice Ao27 t121.length co27) t121) := ⟨h2_⟩
         have n3_ : Aside0 (Kd.R k32 32 w54 w.heap.size (fun k_ => some k_ ≠ (v135 : Value).ownBlock ∧ some k_ ≠ (.slice Ao13 t110.length co13 : Value).ownBlock ∧ some k_ ≠ (.slice Ao27 t121.length co27 : Value).ownBlock ∧ some k_ ≠ (.slice Ao9 t102.length co9 : Value).ownBlock) (.slice (some ad131) t127.length co33) t127) := ⟨h3_⟩
         have n4_ : Aside0 (Kd.R k32 32 w54 w.heap.size (fun k_ => some k_ ≠ (v135 : Value).ownBlock ∧ some k_ ≠ (.slice Ao13 t110.length co13 : Value).ownBlock ∧ some k_ ≠ (.slice Ao27 t121.length co27 : Value).ownBlock ∧ some k_ ≠ (.slice (some ad131) t127.length co33 : Value).ownBlock) (.slice Ao9 t102.length co9) t102) := ⟨h4_⟩
         have n5_ : Aside0 (w54.heap[gb113]? = some (.cells #[.int .i64 t108, .string t109, .slice Ao13 t110.length co13] 28 (0, 0))) := ⟨h5_⟩
         have n6_ : Aside0 (w54.heap[gb124]? = some (.cells #[.int .i64 t119, .string t120, .slice Ao27 t121.length co27] 28 (0, 0))) := ⟨h6_⟩
         have n7_ : Aside0 (w54.heap[gb130]? = some (.cells #[.int .i64 t125, .string t126, .slice (some ad131) t127.length co33] 28 (0, 0))) := ⟨h7_⟩
         have n8_ : Aside0 (w54.heap[gb137]? = some (.cells #[.int .i64 0, .string (⟨#[]⟩ : ByteArray), .slice none 0 0] 28 (0, 0))) := ⟨h8_⟩
         have n9_ : Aside0 (w.heap.size ≤ gb137) := ⟨h9_⟩
         have n10_ : Aside0 (w.heap.size ≤ gb137) := ⟨h10_⟩
         have n11_ : Aside0 (gb113 ≠ gb137) := ⟨h11_⟩
         have n12_ : Aside0 (gb137 ≠ gb113) := ⟨h12_⟩
         have n13_ : Aside0 (gb124 ≠ gb137) := ⟨h13_⟩
         have n14_ : Aside0 (gb137 ≠ gb124) := ⟨h14_⟩
         have n15_ : Aside0 (gb130 ≠ gb137) := ⟨h15_⟩
         have n16_ : Aside0 (gb137 ≠ gb130) := ⟨h16_⟩
         have n17_ : Aside0 (Below w.heap.size w w54) := ⟨h17_⟩
         clear HO_3
         clear HO_114002
         clear HO_125002
         clear HO_131002
         clear BK113
         clear BK124
         clear BK130
         clear HB
         clear h0_ h1_ h2_ h3_ h4_ h5_ h6_ h7_ h8_ h9_ h10_ h11_ h12_ h13_ h14_ h15_ h16_ h17_
         have HO136 := n0_
         have HO_114002 := n1_
         have HO_125002 := n2_
         have HO_131002 := n3_
         have HO_3 := n4_
         have BK113 := n5_
         have BK124 := n6_
         have BK130 := n7_
         have BK137 := n8_
         have GW137 := n9_
         have GE137 := n10_
         have NB113_137 := n11_
         have NB137_113 := n12_
         have NB124_137 := n13_
         have NB137_124 := n14_
         have NB130_137 := n15_
         have NB137_130 := n16_
         have HB := n17_
         clear n0_ n1_ n2_ n3_ n4_ n5_ n6_ n7_ n8_ n9_ n10_ n11_ n12_ n13_ n14_ n15_ n16_ n17_
         have hHeld : w54.cell? ⟨gb113, 0, none⟩ = some (.int .i64 t108) ∧ w54.cell? ⟨gb113, 1, none⟩ = some (.string t109) ∧ w54.cell? ⟨gb113, 2, none⟩ = some (.slice Ao13 t110.length co13) ∧ w54.cell? ⟨gb130, 0, none⟩ = some (.int .i64 t125) ∧ w54.cell? ⟨gb130, 1, none⟩ = some (.string t126) ∧ w54.cell? ⟨gb130, 2, none⟩ = some (.slice (some ad131) t127.length co33) ∧ w54.cell? ad131 = some (.string ((rd_T32 t127 0).f0)) ∧ w54.cell? ⟨ad131.block, ad131.off + 1, none⟩ = some (.int .i64 ((rd_T32 t127 0).f1)) ∧ w54.cell? ⟨ad131.block, ad131.off + 2, none⟩ = some (.int .i64 ((rd_T32 t127 0).f2)) ∧ w54.cell? ⟨ad131.block, ad131.off + 3, none⟩ = some (.int .i64 ((rd_T32 t127 0).f3)) ∧ w54.cell? ⟨ad131.block, ad131.off + 4, none⟩ = some (.int .i64 ((rd_T32 t127 0).f4)) := hS_
         obtain ⟨Ao57, co57, eo57⟩ := Kd.R_slice HO136.out
         (first | subst eo57 | (injection eo57 with f1_ f2_ f3_; have f4_ := f1_.symm; have f5_ := f3_.symm; clear f1_ f2_ f3_; subst f4_; subst f5_))
         refine norm_ (a' := ?_) ?_ ?_
         rotate_left
         ·
          simp only [putAll, Act.put, List.setIfInBounds_toArray, List.set_cons_zero, List.set_cons_succ]
          rfl
         refine one_ (i := 11) (N := none) #[true, true, true, true, true, true, true, true, true, true, true, true] rfl rfl (one_of HT_.out (by kernel_rfl)) (by decide) (fun K hK => ?_)
         have hs55 : w54.cell? ⟨gb137, 0, none⟩ = some (.int .i64 0) := (blk_cell BK137.out 0).trans rfl
         have hfs55 := blk_frozen BK137.out 0
         have hns55_0 := NB113_137.out
         have hns55_1 := NB124_137.out
         have hns55_2 := NB130_137.out
         have hms55_0 := NB137_113.out
         have hms55_1 := NB137_124.out
         have hms55_2 := NB137_130.out
         have hs56 : w54.cell? ⟨gb137, 1, none⟩ = some (.string (⟨#[]⟩ : ByteArray)) := (blk_cell BK137.out 1).trans rfl
         have hfs56 := blk_frozen BK137.out 1
         have hns56_0 := NB113_137.out
         have hns56_1 := NB124_137.out
         have hns56_2 := NB130_137.out
         have hms56_0 := NB137_113.out
         have hms56_1 := NB137_124.out
         have hms56_2 := NB137_130.out
         have hs58 : w54.cell? ⟨gb137, 2, none⟩ = some (.slice none 0 0) := (blk_cell BK137.out 2).trans rfl
         have hfs58 := blk_frozen BK137.out 2
         have hns58_0 := NB113_137.out
         have hns58_1 := NB124_137.out
         have hns58_2 := NB130_137.out
         have hms58_0 := NB137_113.out
         have hms58_1 := NB137_124.out
         have hms58_2 := NB137_130.out
         refine skip_ (w1 := ?_) (by rfl) rfl ?_ ?_
         rotate_left
         ·
          go_simp
          rfl
         have hfar_ : ∀ (a : Addr), a.block ≠ gb137 → ∀ u0 u1 u2 : Value, (((w54.setCell ⟨gb137, 0, none⟩ u0).setCell ⟨gb137, 1, none⟩ u1).setCell ⟨gb137, 2, none⟩ u2).cell? a = w54.cell? a := fun a h u0 u1 u2 => (cell_far (p := ⟨gb137, 2, none⟩) h u2).trans ((cell_far (p := ⟨gb137, 1, none⟩) h u1).trans (cell_far (p := ⟨gb137, 0, none⟩) h u0))
         have hne0_ : ad131.block ≠ gb137 := (by first | exact Kd.own_blk (Kd.R_ne HO_131002.out BK137.out (by decide)) | (rw [add_block]; exact Kd.own_blk (Kd.R_ne HO_131002.out BK137.out (by decide))) | (show (Addr.add _ _).block ≠ _; rw [add_block]; exact Kd.own_blk (Kd.R_ne HO_131002.out BK137.out (by decide))) | (dsimp only; exact Kd.own_blk (Kd.R_ne HO_131002.out BK137.out (by decide))))
         refine hK.out _ _ ⟨(hfar_ _ NB113_137.out _ _ _).trans hHeld.1, (hfar_ _ NB113_137.out _ _ _).trans hHeld.2.1, (hfar_ _ NB113_137.out _ _ _).trans hHeld.2.2.1, (hfar_ _ NB130_137.out _ _ _).trans hHeld.2.2.2.1, (hfar_ _ NB130_137.out _ _ _).trans hHeld.2.2.2.2.1, (hfar_ _ NB130_137.out _ _ _).trans hHeld.2.2.2.2.2.1, (hfar_ _ (by exact hne0_) _ _ _).trans hHeld.2.2.2.2.2.2.1, (hfar_ _ (by exact hne0_) _ _ _).trans hHeld.2.2.2.2.2.2.2.1, (hfar_ _ (by exact hne0_) _ _ _).trans hHeld.2.2.2.2.2.2.2.2.1, (hfar_ _ (by exact hne0_) _ _ _).trans hHeld.2.2.2.2.2.2.2.2.2.1, (hfar_ _ (by exact hne0_) _ _ _).trans hHeld.2.2.2.2.2.2.2.2.2.2⟩ (fun hHeld => ?_)
         clear hK K
         refine done_ (done_of HT_.out (by kernel_rfl)) ?_
         try go_wp2
         go_loopg [11, 12] kj46 (fun kq v11 v12 w' => ∃ (x11_5 : Int) (x12_5 : Int), v11 = .int .i64 x11_5 ∧ v12 = .int .i64 x12_5 ∧ Aside0 (laws_FnSets.l0 kq t102 t104 t105 x11_5 x12_5 t108 t109 t110 t119 t120 t121 t125 t126 t127 t132 t133 t134 = some r) ∧ Aside0 (kq ≤ kj46) ∧ Aside0 (Kd.R k32 32 w' w.heap.size (fun k_ => some k_ ≠ ((.slice Ao13 t110.length co13) : Value).ownBlock ∧ some k_ ≠ ((.slice Ao27 t121.length co27) : Value).ownBlock ∧ some k_ ≠ ((.slice (some ad131) t127.length co33) : Value).ownBlock ∧ some k_ ≠ ((.slice Ao57 t134.length co57) : Value).ownBlock) (.slice Ao9 t102.length co9) t102) ∧ Aside0 (Kd.R k32 32 w' w.heap.size (fun k_ => some k_ ≠ ((.slice Ao9 t102.length co9) : Value).ownBlock ∧ some k_ ≠ ((.slice Ao27 t121.length co27) : Value).ownBlock ∧ some k_ ≠ ((.slice (some ad131) t127.length co33) : Value).ownBlock ∧ some k_ ≠ ((.slice Ao57 t134.length co57) : Value).ownBlock) (.slice Ao13 t110.length co13) t110) ∧ Aside0 (Kd.R k32 32 w' w.heap.size (fun k_ => some k_ ≠ ((.slice Ao9 t102.length co9) : Value).ownBlock ∧ some k_ ≠ ((.slice Ao13 t110.length co13) : Value).ownBlock ∧ some k_ ≠ ((.slice (some ad131) t127.length co33) : Value).ownBlock ∧ some k_ ≠ ((.slice Ao57 t134.length co57) : Value).ownBlock) (.slice Ao27 t121.length co27) t121) ∧ Aside0 (Kd.R k32 32 w' w.heap.size (fun k_ => some k_ ≠ ((.slice Ao9 t102.length co9) : Value).ownBlock ∧ some k_ ≠ ((.slice Ao13 t110.length co13) : Value).ownBlock ∧ some k_ ≠ ((.slice Ao27 t121.length co27) : Value).ownBlock ∧ some k_ ≠ ((.slice Ao57 t134.length co57) : Value).ownBlock) (.slice (some ad131) t127.length co33) t127) ∧ Aside0 (Kd.R k32 32 w' w.heap.size (fun k_ => some k_ ≠ ((.slice Ao9 t102.length co9) : Value).ownBlock ∧ some k_ ≠ ((.slice Ao13 t110.length co13) : Value).ownBlock ∧ some k_ ≠ ((.slice Ao27 t121.length co27) : Value).ownBlock ∧ some k_ ≠ ((.slice (some ad131) t127.length co33) : Value).ownBlock) (.slice Ao57 t134.length co57) t134) ∧ Aside0 (w'.heap[gb113]? = some (.cells #[.int .i64 t108, .string t109, (.slice Ao13 t110.length co13)] 28 (0, 0))) ∧ Aside0 (w'.heap[gb124]? = some (.cells #[.int .i64 t119, .string t120, (.slice Ao27 t121.length co27)] 28 (0, 0))) ∧ Aside0 (w'.heap[gb130]? = some (.cells #[.int .i64 t125, .string t126, (.slice (some ad131) t127.length co33)] 28 (0, 0))) ∧ Aside0 (w'.heap[gb137]? = some (.cells #[.int .i64 t132, .string t133, (.slice Ao57 t134.length co57)] 28 (0, 0))) ∧ Aside0 (Below w.heap.size w w'))
         case atStart => exact ⟨(0), (0), zagbkp, zagbkp, H', ⟨Nat.le_refl _⟩, ⟨by (with_reducible repeat (first | apply Kd.R_alloc | apply Kd.R_drewN | apply Kd.R_drew)); exact Kd.R_mono (Kd.R_far (p := ⟨gb137, 2, none⟩) (Kd.R_far (p := ⟨gb137, 1, none⟩) (Kd.R_far (p := ⟨gb137, 0, none⟩) (Kd.R_types HO_3.out BK137.out (by decide)) (fun _ hk => hk.2) (.int .i64 t132)) (fun _ hk => hk.2) (.string t133)) (fun _ hk => hk.2) (.slice Ao57 t134.length co57)) (fun _ hk => ⟨hk.1.2.1, ⟨hk.1.2.2.1, ⟨hk.1.2.2.2, hk.1.1⟩⟩⟩)⟩, ⟨by (with_reducible repeat (first | apply Kd.R_alloc | apply Kd.R_drewN | apply Kd.R_drew)); exact Kd.R_mono (Kd.R_far (p := ⟨gb137, 2, none⟩) (Kd.R_far (p := ⟨gb137, 1, none⟩) (Kd.R_far (p := ⟨gb137, 0, none⟩) (Kd.R_types HO_114002.out BK137.out (by decide)) (fun _ hk => hk.2) (.int .i64 t132)) (fun _ hk => hk.2) (.string t133)) (fun _ hk => hk.2) (.slice Ao57 t134.length co57)) (fun _ hk => ⟨hk.1.2.2.2, ⟨hk.1.2.1, ⟨hk.1.2.2.1, hk.1.1⟩⟩⟩)⟩, ⟨by (with_reducible repeat (first | apply Kd.R_alloc | apply Kd.R_drewN | apply Kd.R_drew)); exact Kd.R_mono (Kd.R_far (p := ⟨gb137, 2, none⟩) (Kd.R_far (p := ⟨gb137, 1, none⟩) (Kd.R_far (p := ⟨gb137, 0, none⟩) (Kd.R_types HO_125002.out BK137.out (by decide)) (fun _ hk => hk.2) (.int .i64 t132)) (fun _ hk => hk.2) (.string t133)) (fun _ hk => hk.2) (.slice Ao57 t134.length co57)) (fun _ hk => ⟨hk.1.2.2.2, ⟨hk.1.2.1, ⟨hk.1.2.2.1, hk.1.1⟩⟩⟩)⟩, ⟨by (with_reducible repeat (first | apply Kd.R_alloc | apply Kd.R_drewN | apply Kd.R_drew)); exact Kd.R_mono (Kd.R_far (p := ⟨gb137, 2, none⟩) (Kd.R_far (p := ⟨gb137, 1, none⟩) (Kd.R_far (p := ⟨gb137, 0, none⟩) (Kd.R_types HO_131002.out BK137.out (by decide)) (fun _ hk => hk.2) (.int .i64 t132)) (fun _ hk => hk.2) (.string t133)) (fun _ hk => hk.2) (.slice Ao57 t134.length co57)) (fun _ hk => ⟨hk.1.2.2.2, ⟨hk.1.2.1, ⟨hk.1.2.2.1, hk.1.1⟩⟩⟩)⟩, ⟨by (with_reducible repeat (first | apply Kd.R_alloc | apply Kd.R_drewN | apply Kd.R_drew)); exact Kd.R_mono (Kd.R_far (p := ⟨gb137, 2, none⟩) (Kd.R_far (p := ⟨gb137, 1, none⟩) (Kd.R_far (p := ⟨gb137, 0, none⟩) (Kd.R_types HO136.out BK137.out (by decide)) (fun _ hk => hk.2) (.int .i64 t132)) (fun _ hk => hk.2) (.string t133)) (fun _ hk => hk.2) (.slice Ao57 t134.length co57)) (fun _ hk => ⟨hk.1.2.2.2, ⟨hk.1.1, ⟨hk.1.2.1, hk.1.2.2.1⟩⟩⟩)⟩, ⟨by (with_reducible repeat (first | refine blk_drewN ?_ _ | refine blk_drew ?_ | refine blk_alloc ?_ _)); refine blk_far ?_ NB113_137.out _; (with_reducible repeat (first | refine blk_drewN ?_ _ | refine blk_drew ?_ | refine blk_alloc ?_ _)); refine blk_far ?_ NB113_137.out _; (with_reducible repeat (first | refine blk_drewN ?_ _ | refine blk_drew ?_ | refine blk_alloc ?_ _)); refine blk_far ?_ NB113_137.out _; (with_reducible repeat (first | refine blk_drewN ?_ _ | refine blk_drew ?_ | refine blk_alloc ?_ _)); exact BK113.out⟩, ⟨by (with_reducible repeat (first | refine blk_drewN ?_ _ | refine blk_drew ?_ | refine blk_alloc ?_ _)); refine blk_far ?_ NB124_137.out _; (with_reducible repeat (first | refine blk_drewN ?_ _ | refine blk_drew ?_ | refine blk_alloc ?_ _)); refine blk_far ?_ NB124_137.out _; (with_reducible repeat (first | refine blk_drewN ?_ _ | refine blk_drew ?_ | refine blk_alloc ?_ _)); refine blk_far ?_ NB124_137.out _; (with_reducible repeat (first | refine blk_drewN ?_ _ | refine blk_drew ?_ | refine blk_alloc ?_ _)); exact BK124.out⟩, ⟨by (with_reducible repeat (first | refine blk_drewN ?_ _ | refine blk_drew ?_ | refine blk_alloc ?_ _)); refine blk_far ?_ NB130_137.out _; (with_reducible repeat (first | refine blk_drewN ?_ _ | refine blk_drew ?_ | refine blk_alloc ?_ _)); refine blk_far ?_ NB130_137.out _; (with_reducible repeat (first | refine blk_drewN ?_ _ | refine blk_drew ?_ | refine blk_alloc ?_ _)); refine blk_far ?_ NB130_137.out _; (with_reducible repeat (first | refine blk_drewN ?_ _ | refine blk_drew ?_ | refine blk_alloc ?_ _)); exact BK130.out⟩, ⟨by (with_reducible repeat (first | refine blk_drewN ?_ _ | refine blk_drew ?_ | refine blk_alloc ?_ _)); refine blk_put (cs := #[.int .i64 t132, .string t133, .slice none 0 0]) ?_ 2 _ rfl; (with_reducible repeat (first | refine blk_drewN ?_ _ | refine blk_drew ?_ | refine blk_alloc ?_ _)); refine blk_put (cs := #[.int .i64 t132, .string (⟨#[]⟩ : ByteArray), .slice none 0 0]) ?_ 1 _ rfl; (with_reducible repeat (first | refine blk_drewN ?_ _ | refine blk_drew ?_ | refine blk_alloc ?_ _)); refine blk_put (cs := #[.int .i64 0, .string (⟨#[]⟩ : ByteArray), .slice none 0 0]) ?_ 0 _ rfl; (with_reducible repeat (first | refine blk_drewN ?_ _ | refine blk_drew ?_ | refine blk_alloc ?_ _)); exact BK137.out⟩, ⟨zjplfd⟩⟩
         case round =>
          clear H'
          try clear p1
          try clear q1
          try clear hx1
          try clear qi1
          try clear p2
          try clear c4
          try clear p13
          try clear q13
          try clear hx13
          try clear qi13
          try clear c14b0
          try clear c14b1
          try clear c14b2
          try clear c34b0
          try clear c34b1
          try clear c34b2
          try clear c35b0
          try clear c35b1
          try clear c48
          try clear c49
          try clear c49b0
          try clear c49b1
          try clear hcz12_0
          try clear hcz12_1
          try clear hcz12_2
          try clear hcz22_0
          try clear hcz22_1
          try clear hcz22_2
          try clear hcz26_0
          try clear hcz26_1
          try clear hcz26_2
          try clear hcz32_0
          try clear hcz32_1
          try clear hcz32_2
          try clear hcz38_0
          try clear hcz38_1
          try clear hcz38_2
          try clear hcz40_0
          try clear hcz40_1
          try clear hcz40_2
          try clear hcz43_0
          try clear hcz43_1
          try clear hcz43_2
          try clear hcz46_0
          try clear hcz46_1
          try clear hcz46_2
          try clear hfz12_0
          try clear hfz12_1
          try clear hfz12_2
          try clear hfz22_0
          try clear hfz22_1
          try clear hfz22_2
          try clear hfz26_0
          try clear hfz26_1
          try clear hfz26_2
          try clear hfz32_0
          try clear hfz32_1
          try clear hfz32_2
          try clear hfz38_0
          try clear hfz38_1
          try clear hfz38_2
          try clear hfz40_0
          try clear hfz40_1
          try clear hfz40_2
          try clear hfz43_0
          try clear hfz43_1
          try clear hfz43_2
          try clear hfz46_0
          try clear hfz46_1
          try clear hfz46_2
          try clear hx131_0
          try clear hx131_1
          try clear hx131_2
          try clear hx131_3
          try clear hx131_4
          try clear p131
          try clear p2
          try clear q131
          obtain ⟨x11_5, x12_5, rfl, rfl, HA, HK5, HO_3, HO_114002, HO_125002, HO_131002, HO_138002, BK113, BK124, BK130, BK137, HB⟩ := hrel
          cases gk with
          | zero => exact absurd HA.out (by simp [laws_FnSets.l0])
          | succ k5 =>
           have H := HA.out
           clear HA
           simp only [laws_FnSets.l0] at H
           have HC59 := aa H
           clear H
           go_upto_region 14 with (fail)
           go_cut [81] (fun v81 wc => ∃ (kq : Nat) (x81_58 : Bool), v81 = .bool x81_58 ∧ Aside0 (laws_FnSets.j5 kq t102 t104 t105 x11_5 x12_5 x81_58 t108 t109 t110 t119 t120 t121 t125 t126 t127 t132 t133 t134 = some r) ∧ Aside0 (kq ≤ k5) ∧ Aside0 (Kd.R k32 32 wc w.heap.size (fun k_ => some k_ ≠ ((.slice Ao13 t110.length co13) : Value).ownBlock ∧ some k_ ≠ ((.slice Ao27 t121.length co27) : Value).ownBlock ∧ some k_ ≠ ((.slice (some ad131) t127.length co33) : Value).ownBlock ∧ some k_ ≠ ((.slice Ao57 t134.length co57) : Value).ownBlock) (.slice Ao9 t102.length co9) t102) ∧ Aside0 (Kd.R k32 32 wc w.heap.size (fun k_ => some k_ ≠ ((.slice Ao9 t102.length co9) : Value).ownBlock ∧ some k_ ≠ ((.slice Ao27 t121.length co27) : Value).ownBlock ∧ some k_ ≠ ((.slice (some ad131) t127.length co33) : Value).ownBlock ∧ some k_ ≠ ((.slice Ao57 t134.length co57) : Value).ownBlock) (.slice Ao13 t110.length co13) t110) ∧ Aside0 (Kd.R k32 32 wc w.heap.size (fun k_ => some k_ ≠ ((.slice Ao9 t102.length co9) : Value).ownBlock ∧ some k_ ≠ ((.slice Ao13 t110.length co13) : Value).ownBlock ∧ some k_ ≠ ((.slice (some ad131) t127.length co33) : Value).ownBlock ∧ some k_ ≠ ((.slice Ao57 t134.length co57) : Value).ownBlock) (.slice Ao27 t121.length co27) t121) ∧ Aside0 (Kd.R k32 32 wc w.heap.size (fun k_ => some k_ ≠ ((.slice Ao9 t102.length co9) : Value).ownBlock ∧ some k_ ≠ ((.slice Ao13 t110.length co13) : Value).ownBlock ∧ some k_ ≠ ((.slice Ao27 t121.length co27) : Value).ownBlock ∧ some k_ ≠ ((.slice Ao57 t134.length co57) : Value).ownBlock) (.slice (some ad131) t127.length co33) t127) ∧ Aside0 (Kd.R k32 32 wc w.heap.size (fun k_ => some k_ ≠ ((.slice Ao9 t102.length co9) : Value).ownBlock ∧ some k_ ≠ ((.slice Ao13 t110.length co13) : Value).ownBlock ∧ some k_ ≠ ((.slice Ao27 t121.length co27) : Value).ownBlock ∧ some k_ ≠ ((.slice (some ad131) t127.length co33) : Value).ownBlock) (.slice Ao57 t134.length co57) t134) ∧ Aside0 (wc.heap[gb113]? = some (.cells #[.int .i64 t108, .string t109, (.slice Ao13 t110.length co13)] 28 (0, 0))) ∧ Aside0 (wc.heap[gb124]? = some (.cells #[.int .i64 t119, .string t120, (.slice Ao27 t121.length co27)] 28 (0, 0))) ∧ Aside0 (wc.heap[gb130]? = some (.cells #[.int .i64 t125, .string t126, (.slice (some ad131) t127.length co33)] 28 (0, 0))) ∧ Aside0 (wc.heap[gb137]? = some (.cells #[.int .i64 t132, .string t133, (.slice Ao57 t134.length co57)] 28 (0, 0))) ∧ Aside0 (Below w.heap.size w wc))
           case first =>
            have H := HC59.out
            clear HC59
            revert H
            refine itD_ (fun c60b0 H => ?_) fun c60b0 H => ?_
            ·
             (first | rw [c60b0] | (simp only [i64_w, i32_w]; rw [c60b0]) | (simp only [c60b2, Bool.not_false, Bool.not_true]) | skip)
             have H' := aa H
             clear H
             have hnb61 := NB113_124.out
             have hnc61 := NB124_113.out
             have hnb62 := NB113_130.out
             have hnc62 := NB130_113.out
             have hnb63 := NB113_137.out
             have hnc63 := NB137_113.out
             obtain ⟨hcz64_0, hcz64_1, hcz64_2, hfz64_0, hfz64_1, hfz64_2⟩ := blk3_ BK113.out
             go_wp2
             go_meet
             case rel => exact ⟨_, (decide (x12_5 < (t110.length : Int))), zagbkp, H', ⟨by have := HJ2.out; have := HJ6.out; have := HJ20.out; have := HJ46.out; have := HK5.out; first | omega | exact Nat.le_refl _⟩, ⟨zcaken HO_3.out⟩, ⟨zcaken HO_114002.out⟩, ⟨zcaken HO_125002.out⟩, ⟨zcaken HO_131002.out⟩, ⟨zcaken HO_138002.out⟩, ⟨zkjhpm BK113.out⟩, ⟨zkjhpm BK124.out⟩, ⟨zkjhpm BK130.out⟩, ⟨zkjhpm BK137.out⟩, ⟨zjplfd⟩⟩
            (first | rw [c60b0] | (simp only [i64_w, i32_w]; rw [c60b0]) | (simp only [c60b2, Bool.not_false, Bool.not_true]) | skip)
            have H' := aa H
            clear H
            go_wp2
            go_meet
            case rel => exact ⟨_, (false), zagbkp, H', ⟨by have := HJ2.out; have := HJ6.out; have := HJ20.out; have := HJ46.out; have := HK5.out; first | omega | exact Nat.le_refl _⟩, ⟨zcaken HO_3.out⟩, ⟨zcaken HO_114002.out⟩, ⟨zcaken HO_125002.out⟩, ⟨zcaken HO_131002.out⟩, ⟨zcaken HO_138002.out⟩, ⟨zkjhpm BK113.out⟩, ⟨zkjhpm BK124.out⟩, ⟨zkjhpm BK130.out⟩, ⟨zkjhpm BK137.out⟩, ⟨zjplfd⟩⟩
           case rest =>
            clear HC59
            try clear p1
            try clear q1
            try clear hx1
            try clear qi1
            try clear p2
            try clear c4
            try clear p13
            try clear q13
            try clear hx13
            try clear qi13
            try clear c14b0
            try clear c14b1
            try clear c14b2
            try clear c34b0
            try clear c34b1
            try clear c34b2
            try clear c35b0
            try clear c35b1
            try clear c48
            try clear c49
            try clear c49b0
            try clear c49b1
            try clear c60b0
            try clear c60b2
            try clear hcz12_0
            try clear hcz12_1
            try clear hcz12_2
            try clear hcz22_0
            try clear hcz22_1
            try clear hcz22_2
            try clear hcz26_0
            try clear hcz26_1
            try clear hcz26_2
            try clear hcz32_0
            try clear hcz32_1
            try clear hcz32_2
            try clear hcz38_0
            try clear hcz38_1
            try clear hcz38_2
            try clear hcz40_0
            try clear hcz40_1
            try clear hcz40_2
            try clear hcz43_0
            try clear hcz43_1
            try clear hcz43_2
            try clear hcz46_0
            try clear hcz46_1
            try clear hcz46_2
            try clear hcz64_0
            try clear hcz64_1
            try clear hcz64_2
            try clear hfz12_0
            try clear hfz12_1
            try clear hfz12_2
            try clear hfz22_0
            try clear hfz22_1
            try clear hfz22_2
            try clear hfz26_0
            try clear hfz26_1
            try clear hfz26_2
            try clear hfz32_0
            try clear hfz32_1
            try clear hfz32_2
            try clear hfz38_0
            try clear hfz38_1
            try clear hfz38_2
            try clear hfz40_0
            try clear hfz40_1
            try clear hfz40_2
            try clear hfz43_0
            try clear hfz43_1
            try clear hfz43_2
            try clear hfz46_0
            try clear hfz46_1
            try clear hfz46_2
            try clear hfz64_0
            try clear hfz64_1
            try clear hfz64_2
            try clear hx131_0
            try clear hx131_1
            try clear hx131_2
            try clear hx131_3
            try clear hx131_4
            try clear p1
            try clear p13
            try clear p131
            try clear p2
            try clear q1
            try clear q13
            try clear q131
            obtain ⟨kq, x81_58, rfl, HA, HJ58, HO_3, HO_114002, HO_125002, HO_131002, HO_138002, BK113, BK124, BK130, BK137, HB⟩ := hcut
            cases kq with
            | zero => exact absurd HA.out (by simp [laws_FnSets.j5])
            | succ kj58 =>
             have H := HA.out
             clear HA
             simp only [laws_FnSets.j5] at H
             by_cases c65 : x81_58 = true
             ·
              subst c65
              rw [if_pos rfl] at H
              revert H
              refine itH_ fun c66b0 H => ?_
              revert H
              refine itH_ fun c67b0 H => ?_
              revert H
              refine itH_ fun c68b0 H => ?_
              revert H
              refine itC_ (fun c69 H => ?_) fun c69 H => ?_
              ·
               have c69b0 : (!((((rd_T32 t102 x12_5).f0).toList) == (((rd_T32 t110 x12_5).f0).toList)) || (!(((rd_T32 t102 x12_5).f1) == ((rd_T32 t110 x12_5).f1)) || (!(((rd_T32 t102 x12_5).f2) == ((rd_T32 t110 x12_5).f2)) || (!(((rd_T32 t102 x12_5).f3) == ((rd_T32 t110 x12_5).f3)) || (!(((rd_T32 t102 x12_5).f4) == ((rd_T32 t110 x12_5).f4))))))) = true := c69
               clear c69
               have H' := aa H
               clear H
               try go_wp2
               replace HO_3 := aa (Kd.R_drew HO_3.out)
               replace HO_114002 := aa (Kd.R_drew HO_114002.out)
               replace HO_125002 := aa (Kd.R_drew HO_125002.out)
               replace HO_131002 := aa (Kd.R_drew HO_131002.out)
               replace HO_138002 := aa (Kd.R_drew HO_138002.out)
               replace BK113 := aa (blk_drew BK113.out)
               replace BK124 := aa (blk_drew BK124.out)
               replace BK130 := aa (blk_drew BK130.out)
               replace BK137 := aa (blk_drew BK137.out)
               replace HB := aa (below_drew1 HB.out)
               have p138 : 0 ≤ (x12_5 : Int) := of_decide_eq_true zgglam
               have q138 : x12_5 < (t102.length : Int) := of_decide_eq_true zgglam
               obtain ⟨ad138, e138, hx138_0, hx138_1, hx138_2, hx138_3, hx138_4⟩ := at_T32 (Kd.R_reads' HO_3.out).2.2 x12_5 p138 q138
               cases e138
               replace p138 := eq_true p138
               replace q138 := eq_true q138
               have p139 : 0 ≤ (x12_5 : Int) := of_decide_eq_true zgglam
               have q139 : x12_5 < (t110.length : Int) := of_decide_eq_true zgglam
               obtain ⟨ad139, e139, hx139_0, hx139_1, hx139_2, hx139_3, hx139_4⟩ := at_T32 (Kd.R_reads' HO_114002.out).2.2 x12_5 p139 q139
               cases e139
               replace p139 := eq_true p139
               replace q139 := eq_true q139
               refine start_ (n := 10) (S := fun w' => w'.cell? ⟨gb113, 0, none⟩ = some (.int .i64 t108) ∧ w'.cell? ⟨gb113, 1, none⟩ = some (.string t109) ∧ w'.cell? ⟨gb113, 2, none⟩ = some (.slice (some ad139) t110.length co13) ∧ w'.cell? (ad138.add ((x12_5).toNat * 5)) = some (.string ((rd_T32 t102 x12_5).f0)) ∧ w'.cell? ⟨(ad138.add ((x12_5).toNat * 5)).block, (ad138.add ((x12_5).toNat * 5)).off + 1, none⟩ = some (.int .i64 ((rd_T32 t102 x12_5).f1)) ∧ w'.cell? ⟨(ad138.add ((x12_5).toNat * 5)).block, (ad138.add ((x12_5).toNat * 5)).off + 2, none⟩ = some (.int .i64 ((rd_T32 t102 x12_5).f2)) ∧ w'.cell? ⟨(ad138.add ((x12_5).toNat * 5)).block, (ad138.add ((x12_5).toNat * 5)).off + 3, none⟩ = some (.int .i64 ((rd_T32 t102 x12_5).f3)) ∧ w'.cell? ⟨(ad138.add ((x12_5).toNat * 5)).block, (ad138.add ((x12_5).toNat * 5)).off + 4, none⟩ = some (.int .i64 ((rd_T32 t102 x12_5).f4)) ∧ w'.cell? (ad139.add ((x12_5).toNat * 5)) = some (.string ((rd_T32 t110 x12_5).f0)) ∧ w'.cell? ⟨(ad139.add ((x12_5).toNat * 5)).block, (ad139.add ((x12_5).toNat * 5)).off + 1, none⟩ = some (.int .i64 ((rd_T32 t110 x12_5).f1)) ∧ w'.cell? ⟨(ad139.add ((x12_5).toNat * 5)).block, (ad139.add ((x12_5).toNat * 5)).off + 2, none⟩ = some (.int .i64 ((rd_T32 t110 x12_5).f2)) ∧ w'.cell? ⟨(ad139.add ((x12_5).toNat * 5)).block, (ad139.add ((x12_5).toNat * 5)).off + 3, none⟩ = some (.int .i64 ((rd_T32 t110 x12_5).f3)) ∧ w'.cell? ⟨(ad139.add ((x12_5).toNat * 5)).block, (ad139.add ((x12_5).toNat * 5)).off + 4, none⟩ = some (.int .i64 ((rd_T32 t110 x12_5).f4))) (ds := []) #[false, false, false, false, false, false, false, false, false, false] (by kernel_rfl) rfl rfl ⟨(blk_cell BK113.out 0).trans rfl, (blk_cell BK113.out 1).trans rfl, (blk_cell BK113.out 2).trans rfl, hx138_0, hx138_1, hx138_2, hx138_3, hx138_4, hx139_0, hx139_1, hx139_2, hx139_3, hx139_4⟩ (fun hHeld => ?_); refine with_tabW laws_FnSets.tab16 laws_FnSets.bits16 (fun HT_ HW_ => ?_)
               generalize wc.drew = w70 at HO_3 HO_114002 HO_125002 HO_131002 HO_138002 BK113 BK124 BK130 BK137 HB hx138_0 hx138_1 hx138_2 hx138_3 hx138_4 hx139_0 hx139_1 hx139_2 hx139_3 hx139_4 hHeld ⊢
               refine pu3 0 84 ?_
               refine pu3 1 85 ?_
               refine pu3 2 86 ?_
               refine pu3 4 88 ?_
               refine pu3 6 90 ?_
               refine tk13_3 3 87 ?_
               refine tk13_3 5 89 ?_
               refine pu3 7 91 ?_
               refine tk13_3 8 92 ?_
               refine pu3 9 93 ?_
               refine done_ (done_of HT_.out (by kernel_rfl)) ?_
               try go_wp2
               go_roundg kj58
               case measure => have := HJ2.out; have := HJ6.out; have := HJ20.out; have := HJ46.out; have := HK5.out; have := HJ58.out; omega
               case rel => exact ⟨(wrap64 (x11_5 + 1)), (wrap64 (x12_5 + 1)), zagbkp, zagbkp, H', ⟨by have := HJ2.out; have := HJ6.out; have := HJ20.out; have := HJ46.out; have := HK5.out; have := HJ58.out; omega⟩, ⟨zcaken HO_3.out⟩, ⟨zcaken HO_114002.out⟩, ⟨zcaken HO_125002.out⟩, ⟨zcaken HO_131002.out⟩, ⟨zcaken HO_138002.out⟩, ⟨zkjhpm BK113.out⟩, ⟨zkjhpm BK124.out⟩, ⟨zkjhpm BK130.out⟩, ⟨zkjhpm BK137.out⟩, ⟨zjplfd⟩⟩
              have c69b0 : (!((((rd_T32 t102 x12_5).f0).toList) == (((rd_T32 t110 x12_5).f0).toList)) || (!(((rd_T32 t102 x12_5).f1) == ((rd_T32 t110 x12_5).f1)) || (!(((rd_T32 t102 x12_5).f2) == ((rd_T32 t110 x12_5).f2)) || (!(((rd_T32 t102 x12_5).f3) == ((rd_T32 t110 x12_5).f3)) || (!(((rd_T32 t102 x12_5).f4) == ((rd_T32 t110 x12_5).f4))))))) = false := by simpa using c69
              clear c69
              have H' := aa H
              clear H
              try go_wp2
              replace HO_3 := aa (Kd.R_drew HO_3.out)
              replace HO_114002 := aa (Kd.R_drew HO_114002.out)
              replace HO_125002 := aa (Kd.R_drew HO_125002.out)
              replace HO_131002 := aa (Kd.R_drew HO_131002.out)
              replace HO_138002 := aa (Kd.R_drew HO_138002.out)
              replace BK113 := aa (blk_drew BK113.out)
              replace BK124 := aa (blk_drew BK124.out)
              replace BK130 := aa (blk_drew BK130.out)
              replace BK137 := aa (blk_drew BK137.out)
              replace HB := aa (below_drew1 HB.out)
              have p138 : 0 ≤ (x12_5 : Int) := of_decide_eq_true zgglam
              have q138 : x12_5 < (t102.length : Int) := of_decide_eq_true zgglam
              obtain ⟨ad138, e138, hx138_0, hx138_1, hx138_2, hx138_3, hx138_4⟩ := at_T32 (Kd.R_reads' HO_3.out).2.2 x12_5 p138 q138
              cases e138
              replace p138 := eq_true p138
              replace q138 := eq_true q138
              have p139 : 0 ≤ (x12_5 : Int) := of_decide_eq_true zgglam
              have q139 : x12_5 < (t110.length : Int) := of_decide_eq_true zgglam
              obtain ⟨ad139, e139, hx139_0, hx139_1, hx139_2, hx139_3, hx139_4⟩ := at_T32 (Kd.R_reads' HO_114002.out).2.2 x12_5 p139 q139
              cases e139
              replace p139 := eq_true p139
              replace q139 := eq_true q139
              refine start_ (n := 10) (S := fun w' => w'.cell? ⟨gb113, 0, none⟩ = some (.int .i64 t108) ∧ w'.cell? ⟨gb113, 1, none⟩ = some (.string t109) ∧ w'.cell? ⟨gb113, 2, none⟩ = some (.slice (some ad139) t110.length co13) ∧ w'.cell? (ad138.add ((x12_5).toNat * 5)) = some (.string ((rd_T32 t102 x12_5).f0)) ∧ w'.cell? ⟨(ad138.add ((x12_5).toNat * 5)).block, (ad138.add ((x12_5).toNat * 5)).off + 1, none⟩ = some (.int .i64 ((rd_T32 t102 x12_5).f1)) ∧ w'.cell? ⟨(ad138.add ((x12_5).toNat * 5)).block, (ad138.add ((x12_5).toNat * 5)).off + 2, none⟩ = some (.int .i64 ((rd_T32 t102 x12_5).f2)) ∧ w'.cell? ⟨(ad138.add ((x12_5).toNat * 5)).block, (ad138.add ((x12_5).toNat * 5)).off + 3, none⟩ = some (.int .i64 ((rd_T32 t102 x12_5).f3)) ∧ w'.cell? ⟨(ad138.add ((x12_5).toNat * 5)).block, (ad138.add ((x12_5).toNat * 5)).off + 4, none⟩ = some (.int .i64 ((rd_T32 t102 x12_5).f4)) ∧ w'.cell? (ad139.add ((x12_5).toNat * 5)) = some (.string ((rd_T32 t110 x12_5).f0)) ∧ w'.cell? ⟨(ad139.add ((x12_5).toNat * 5)).block, (ad139.add ((x12_5).toNat * 5)).off + 1, none⟩ = some (.int .i64 ((rd_T32 t110 x12_5).f1)) ∧ w'.cell? ⟨(ad139.add ((x12_5).toNat * 5)).block, (ad139.add ((x12_5).toNat * 5)).off + 2, none⟩ = some (.int .i64 ((rd_T32 t110 x12_5).f2)) ∧ w'.cell? ⟨(ad139.add ((x12_5).toNat * 5)).block, (ad139.add ((x12_5).toNat * 5)).off + 3, none⟩ = some (.int .i64 ((rd_T32 t110 x12_5).f3)) ∧ w'.cell? ⟨(ad139.add ((x12_5).toNat * 5)).block, (ad139.add ((x12_5).toNat * 5)).off + 4, none⟩ = some (.int .i64 ((rd_T32 t110 x12_5).f4))) (ds := []) #[false, false, false, false, false, false, false, false, false, false] (by kernel_rfl) rfl rfl ⟨(blk_cell BK113.out 0).trans rfl, (blk_cell BK113.out 1).trans rfl, (blk_cell BK113.out 2).trans rfl, hx138_0, hx138_1, hx138_2, hx138_3, hx138_4, hx139_0, hx139_1, hx139_2, hx139_3, hx139_4⟩ (fun hHeld => ?_); refine with_tabW laws_FnSets.tab16 laws_FnSets.bits16 (fun HT_ HW_ => ?_)
              generalize wc.drew = w71 at HO_3 HO_114002 HO_125002 HO_131002 HO_138002 BK113 BK124 BK130 BK137 HB hx138_0 hx138_1 hx138_2 hx138_3 hx138_4 hx139_0 hx139_1 hx139_2 hx139_3 hx139_4 hHeld ⊢
              refine pu3 0 84 ?_
              refine pu3 1 85 ?_
              refine pu3 2 86 ?_
              refine pu3 4 88 ?_
              refine pu3 6 90 ?_
              refine tk13_3 3 87 ?_
              refine tk13_3 5 89 ?_
              refine pu3 7 91 ?_
              refine tk13_3 8 92 ?_
              refine pu3 9 93 ?_
              refine done_ (done_of HT_.out (by kernel_rfl)) ?_
              try go_wp2
              go_roundg kj58
              case measure => have := HJ2.out; have := HJ6.out; have := HJ20.out; have := HJ46.out; have := HK5.out; have := HJ58.out; omega
              case rel => exact ⟨(x11_5), (wrap64 (x12_5 + 1)), zagbkp, zagbkp, H', ⟨by have := HJ2.out; have := HJ6.out; have := HJ20.out; have := HJ46.out; have := HK5.out; have := HJ58.out; omega⟩, ⟨zcaken HO_3.out⟩, ⟨zcaken HO_114002.out⟩, ⟨zcaken HO_125002.out⟩, ⟨zcaken HO_131002.out⟩, ⟨zcaken HO_138002.out⟩, ⟨zkjhpm BK113.out⟩, ⟨zkjhpm BK124.out⟩, ⟨zkjhpm BK130.out⟩, ⟨zkjhpm BK137.out⟩, ⟨zjplfd⟩⟩
             ·
              replace c65 := Bool.eq_false_iff.mpr c65
              subst c65
              rw [if_neg fT_] at H
              revert H
              refine obs_ fun t140 A72 H => ?_
              revert H
              refine itE_ (fun c73b0 c73b1 H => ?_) fun c73b0 c73b1 H => ?_
              rotate_left
              ·
               obtain rfl := Option.some.inj H
               exact absurd HRT.out (by decide)
              revert H
              refine itG_ fun c74 H => ?_
              have c74b0 := decide_eq_true c74
              have c74b1 : decide (0 < t121.length) = true := decide_eq_true (by omega)
              clear c74
              revert H
              refine itE_ (fun c75b0 c75b1 H => ?_) fun c75b0 c75b1 H => ?_
              rotate_left
              ·
               obtain rfl := Option.some.inj H
               exact absurd HRT.out (by decide)
              revert H
              refine itG_ fun c76 H => ?_
              have c76b0 := decide_eq_true c76
              have c76b1 : decide (0 < t127.length) = true := decide_eq_true (by omega)
              clear c76
              revert H
              refine itE_ (fun c77b0 c77b1 H => ?_) fun c77b0 c77b1 H => ?_
              rotate_left
              ·
               obtain rfl := Option.some.inj H
               exact absurd HRT.out (by decide)
              revert H
              refine itE_ (fun c78b0 c78b1 H => ?_) fun c78b0 c78b1 H => ?_
              ·
               revert H
               refine itE_ (fun c79b0 c79b1 H => ?_) fun c79b0 c79b1 H => ?_
               rotate_left
               ·
                obtain rfl := Option.some.inj H
                exact absurd HRT.out (by decide)
               revert H
               refine itE_ (fun c80b0 c80b1 H => ?_) fun c80b0 c80b1 H => ?_
               rotate_left
               ·
                obtain rfl := Option.some.inj H
                exact absurd HRT.out (by decide)
               obtain rfl := Option.some.inj H
               try go_wp2
               replace HO_3 := aa (Kd.R_drew HO_3.out)
               replace HO_114002 := aa (Kd.R_drew HO_114002.out)
               replace HO_125002 := aa (Kd.R_drew HO_125002.out)
               replace HO_131002 := aa (Kd.R_drew HO_131002.out)
               replace HO_138002 := aa (Kd.R_drew HO_138002.out)
               replace BK113 := aa (blk_drew BK113.out)
               replace BK124 := aa (blk_drew BK124.out)
               replace BK130 := aa (blk_drew BK130.out)
               replace BK137 := aa (blk_drew BK137.out)
               replace HB := aa (below_drew1 HB.out)
               have p141 : 0 ≤ (0 : Int) := (by omega)
               have q141 : 0 < (t121.length : Int) := of_decide_eq_true zgglam
               obtain ⟨ad141, e141, hx141_0, hx141_1, hx141_2, hx141_3, hx141_4⟩ := at_T32 (Kd.R_reads' HO_125002.out).2.2 0 p141 q141
               cases e141
               have qi141 : (0 < t121.length) = True := eq_true (by omega)
               (try rw [show ((0 : Int)).toNat = 0 from rfl] at hx141_0)
               (try rw [show 0 * 5 = 0 from rfl] at hx141_0)
               (try rw [Addr.add_zero'] at hx141_0)
               (try rw [show ((0 : Int)).toNat = 0 from rfl] at hx141_1)
               (try rw [show 0 * 5 = 0 from rfl] at hx141_1)
               (try rw [Addr.add_zero'] at hx141_1)
               (try rw [show ((0 : Int)).toNat = 0 from rfl] at hx141_2)
               (try rw [show 0 * 5 = 0 from rfl] at hx141_2)
               (try rw [Addr.add_zero'] at hx141_2)
               (try rw [show ((0 : Int)).toNat = 0 from rfl] at hx141_3)
               (try rw [show 0 * 5 = 0 from rfl] at hx141_3)
               (try rw [Addr.add_zero'] at hx141_3)
               (try rw [show ((0 : Int)).toNat = 0 from rfl] at hx141_4)
               (try rw [show 0 * 5 = 0 from rfl] at hx141_4)
               (try rw [Addr.add_zero'] at hx141_4)
               replace p141 := eq_true p141
               replace q141 := eq_true q141
               have p142 : 0 ≤ (0 : Int) := (by omega)
               have q142 : 0 < (t121.length : Int) := of_decide_eq_true zgglam
               obtain ⟨ad142, e142, hx142_0, hx142_1, hx142_2, hx142_3, hx142_4⟩ := at_T32 (Kd.R_reads' HO_125002.out).2.2 0 p142 q142
               obtain rfl : ad141 = ad142 := (by injection e142)
               have qi142 : (0 < t121.length) = True := eq_true (by omega)
               (try rw [show ((0 : Int)).toNat = 0 from rfl] at hx142_0)
               (try rw [show 0 * 5 = 0 from rfl] at hx142_0)
               (try rw [Addr.add_zero'] at hx142_0)
               (try rw [show ((0 : Int)).toNat = 0 from rfl] at hx142_1)
               (try rw [show 0 * 5 = 0 from rfl] at hx142_1)
               (try rw [Addr.add_zero'] at hx142_1)
               (try rw [show ((0 : Int)).toNat = 0 from rfl] at hx142_2)
               (try rw [show 0 * 5 = 0 from rfl] at hx142_2)
               (try rw [Addr.add_zero'] at hx142_2)
               (try rw [show ((0 : Int)).toNat = 0 from rfl] at hx142_3)
               (try rw [show 0 * 5 = 0 from rfl] at hx142_3)
               (try rw [Addr.add_zero'] at hx142_3)
               (try rw [show ((0 : Int)).toNat = 0 from rfl] at hx142_4)
               (try rw [show 0 * 5 = 0 from rfl] at hx142_4)
               (try rw [Addr.add_zero'] at hx142_4)
               replace p142 := eq_true p142
               replace q142 := eq_true q142
               have p143 : 0 ≤ (0 : Int) := (by omega)
               have q143 : 0 < (t127.length : Int) := of_decide_eq_true zgglam
               obtain ⟨ad143, e143, hx143_0, hx143_1, hx143_2, hx143_3, hx143_4⟩ := at_T32 (Kd.R_reads' HO_131002.out).2.2 0 p143 q143
               obtain rfl : ad131 = ad143 := (by injection e143)
               have qi143 : (0 < t127.length) = True := eq_true (by omega)
               (try rw [show ((0 : Int)).toNat = 0 from rfl] at hx143_0)
               (try rw [show 0 * 5 = 0 from rfl] at hx143_0)
               (try rw [Addr.add_zero'] at hx143_0)
               (try rw [show ((0 : Int)).toNat = 0 from rfl] at hx143_1)
               (try rw [show 0 * 5 = 0 from rfl] at hx143_1)
               (try rw [Addr.add_zero'] at hx143_1)
               (try rw [show ((0 : Int)).toNat = 0 from rfl] at hx143_2)
               (try rw [show 0 * 5 = 0 from rfl] at hx143_2)
               (try rw [Addr.add_zero'] at hx143_2)
               (try rw [show ((0 : Int)).toNat = 0 from rfl] at hx143_3)
               (try rw [show 0 * 5 = 0 from rfl] at hx143_3)
               (try rw [Addr.add_zero'] at hx143_3)
               (try rw [show ((0 : Int)).toNat = 0 from rfl] at hx143_4)
               (try rw [show 0 * 5 = 0 from rfl] at hx143_4)
               (try rw [Addr.add_zero'] at hx143_4)
               replace p143 := eq_true p143
               replace q143 := eq_true q143
               refine start_ (n := 58) (S := fun w' => w'.cell? ⟨gb113, 0, none⟩ = some (.int .i64 t108) ∧ w'.cell? ⟨gb113, 1, none⟩ = some (.string t109) ∧ w'.cell? ⟨gb113, 2, none⟩ = some (.slice Ao13 t110.length co13) ∧ w'.cell? ⟨gb124, 0, none⟩ = some (.int .i64 t119) ∧ w'.cell? ⟨gb124, 1, none⟩ = some (.string t120) ∧ w'.cell? ⟨gb124, 2, none⟩ = some (.slice (some ad141) t121.length co27) ∧ w'.cell? ⟨gb130, 0, none⟩ = some (.int .i64 t125) ∧ w'.cell? ⟨gb130, 1, none⟩ = some (.string t126) ∧ w'.cell? ⟨gb130, 2, none⟩ = some (.slice (some ad131) t127.length co33) ∧ w'.cell? ⟨gb137, 0, none⟩ = some (.int .i64 t132) ∧ w'.cell? ⟨gb137, 1, none⟩ = some (.string t133) ∧ w'.cell? ⟨gb137, 2, none⟩ = some (.slice Ao57 t134.length co57) ∧ w'.cell? ad141 = some (.string ((rd_T32 t121 0).f0)) ∧ w'.cell? ⟨ad141.block, ad141.off + 1, none⟩ = some (.int .i64 ((rd_T32 t121 0).f1)) ∧ w'.cell? ⟨ad141.block, ad141.off + 2, none⟩ = some (.int .i64 ((rd_T32 t121 0).f2)) ∧ w'.cell? ⟨ad141.block, ad141.off + 3, none⟩ = some (.int .i64 ((rd_T32 t121 0).f3)) ∧ w'.cell? ⟨ad141.block, ad141.off + 4, none⟩ = some (.int .i64 ((rd_T32 t121 0).f4)) ∧ w'.cell? ad141 = some (.string ((rd_T32 t121 0).f0)) ∧ w'.cell? ⟨ad141.block, ad141.off + 1, none⟩ = some (.int .i64 ((rd_T32 t121 0).f1)) ∧ w'.cell? ⟨ad141.block, ad141.off + 2, none⟩ = some (.int .i64 ((rd_T32 t121 0).f2)) ∧ w'.cell? ⟨ad141.block, ad141.off + 3, none⟩ = some (.int .i64 ((rd_T32 t121 0).f3)) ∧ w'.cell? ⟨ad141.block, ad141.off + 4, none⟩ = some (.int .i64 ((rd_T32 t121 0).f4)) ∧ w'.cell? ad131 = some (.string ((rd_T32 t127 0).f0)) ∧ w'.cell? ⟨ad131.block, ad131.off + 1, none⟩ = some (.int .i64 ((rd_T32 t127 0).f1)) ∧ w'.cell? ⟨ad131.block, ad131.off + 2, none⟩ = some (.int .i64 ((rd_T32 t127 0).f2)) ∧ w'.cell? ⟨ad131.block, ad131.off + 3, none⟩ = some (.int .i64 ((rd_T32 t127 0).f3)) ∧ w'.cell? ⟨ad131.block, ad131.off + 4, none⟩ = some (.int .i64 ((rd_T32 t127 0).f4))) (ds := []) #[false, false, false, false, false, false, false, false, false, false, false, false, false, false, false, false, false, false, false, false, false, false, false, false, false, false, false, false, false, false, false, false, false, false, false, false, false, false, false, false, false, false, false, false, false, false, false, false, false, false, false, false, false, false, false, false, false, false] (by kernel_rfl) rfl rfl ⟨(blk_cell BK113.out 0).trans rfl, (blk_cell BK113.out 1).trans rfl, (blk_cell BK113.out 2).trans rfl, (blk_cell BK124.out 0).trans rfl, (blk_cell BK124.out 1).trans rfl, (blk_cell BK124.out 2).trans rfl, (blk_cell BK130.out 0).trans rfl, (blk_cell BK130.out 1).trans rfl, (blk_cell BK130.out 2).trans rfl, (blk_cell BK137.out 0).trans rfl, (blk_cell BK137.out 1).trans rfl, (blk_cell BK137.out 2).trans rfl, hx141_0, hx141_1, hx141_2, hx141_3, hx141_4, hx142_0, hx142_1, hx142_2, hx142_3, hx142_4, hx143_0, hx143_1, hx143_2, hx143_3, hx143_4⟩ (fun hHeld => ?_); refine with_tabW laws_FnSets.tab18 laws_FnSets.bits18 (fun HT_ HW_ => ?_)
               generalize wc.drew = w81 at HO_3 HO_114002 HO_125002 HO_131002 HO_138002 BK113 BK124 BK130 BK137 HB hx141_0 hx141_1 hx141_2 hx141_3 hx141_4 hx142_0 hx142_1 hx142_2 hx142_3 hx142_4 hx143_0 hx143_1 hx143_2 hx143_3 hx143_4 hHeld ⊢
               refine pu3 0 96 ?_
               refine tk27_3 1 97 ?_
               refine one_ (i := 2) (N := some 98) #[true, true, true, false, false, false, false, false, false, false, false, false, false, false, false, false, false, false, false, false, false, false, false, false, false, false, false, false, false, false, false, false, false, false, false, false, false, false, false, false, false, false, false, false, false, false, false, false, false, false, false, false, false, false, false, false, false, false] rfl rfl (one_of HT_.out (by kernel_rfl)) (by decide) (fun K hK => ?_)
               refine goes_ Tryd.func12 (by kernel_rfl) rfl #[.slice Ao13 t110.length co13] (by rfl) rfl rfl zjnmae ?_
               with_reducible refine (impl_TreeFault.calls kj58 _ _ t110 t140 _ ?side1 ?side2 A72.out).mono ?_
               (case side1 => exact zficko)
               (case side2 => exact znoaai)
               rintro e w82 ⟨rfl, hb⟩
               have HS12_ := (hb.cell (World.block_lt_of_cell? _ _ (hHeld.2.2.2.2.2.2.2.2.2.2.2.2.1))).trans (hHeld.2.2.2.2.2.2.2.2.2.2.2.2.1)
               have HS13_ := (hb.cell (World.block_lt_of_cell? _ _ (hHeld.2.2.2.2.2.2.2.2.2.2.2.2.2.1))).trans (hHeld.2.2.2.2.2.2.2.2.2.2.2.2.2.1)
               have HS14_ := (hb.cell (World.block_lt_of_cell? _ _ (hHeld.2.2.2.2.2.2.2.2.2.2.2.2.2.2.1))).trans (hHeld.2.2.2.2.2.2.2.2.2.2.2.2.2.2.1)
               have HS15_ := (hb.cell (World.block_lt_of_cell? _ _ (hHeld.2.2.2.2.2.2.2.2.2.2.2.2.2.2.2.1))).trans (hHeld.2.2.2.2.2.2.2.2.2.2.2.2.2.2.2.1)
               have HS16_ := (hb.cell (World.block_lt_of_cell? _ _ (hHeld.2.2.2.2.2.2.2.2.2.2.2.2.2.2.2.2.1))).trans (hHeld.2.2.2.2.2.2.2.2.2.2.2.2.2.2.2.2.1)
               have HS17_ := (hb.cell (World.block_lt_of_cell? _ _ (hHeld.2.2.2.2.2.2.2.2.2.2.2.2.2.2.2.2.2.1))).trans (hHeld.2.2.2.2.2.2.2.2.2.2.2.2.2.2.2.2.2.1)
               have HS18_ := (hb.cell (World.block_lt_of_cell? _ _ (hHeld.2.2.2.2.2.2.2.2.2.2.2.2.2.2.2.2.2.2.1))).trans (hHeld.2.2.2.2.2.2.2.2.2.2.2.2.2.2.2.2.2.2.1)
               have HS19_ := (hb.cell (World.block_lt_of_cell? _ _ (hHeld.2.2.2.2.2.2.2.2.2.2.2.2.2.2.2.2.2.2.2.1))).trans (hHeld.2.2.2.2.2.2.2.2.2.2.2.2.2.2.2.2.2.2.2.1)
               have HS20_ := (hb.cell (World.block_lt_of_cell? _ _ (hHeld.2.2.2.2.2.2.2.2.2.2.2.2.2.2.2.2.2.2.2.2.1))).trans (hHeld.2.2.2.2.2.2.2.2.2.2.2.2.2.2.2.2.2.2.2.2.1)
               have HS21_ := (hb.cell (World.block_lt_of_cell? _ _ (hHeld.2.2.2.2.2.2.2.2.2.2.2.2.2.2.2.2.2.2.2.2.2.1))).trans (hHeld.2.2.2.2.2.2.2.2.2.2.2.2.2.2.2.2.2.2.2.2.2.1)
               have HS22_ := (hb.cell (World.block_lt_of_cell? _ _ (hHeld.2.2.2.2.2.2.2.2.2.2.2.2.2.2.2.2.2.2.2.2.2.2.1))).trans (hHeld.2.2.2.2.2.2.2.2.2.2.2.2.2.2.2.2.2.2.2.2.2.2.1)
               have HS23_ := (hb.cell (World.block_lt_of_cell? _ _ (hHeld.2.2.2.2.2.2.2.2.2.2.2.2.2.2.2.2.2.2.2.2.2.2.2.1))).trans (hHeld.2.2.2.2.2.2.2.2.2.2.2.2.2.2.2.2.2.2.2.2.2.2.2.1)
               have HS24_ := (hb.cell (World.block_lt_of_cell? _ _ (hHeld.2.2.2.2.2.2.2.2.2.2.2.2.2.2.2.2.2.2.2.2.2.2.2.2.1))).trans (hHeld.2.2.2.2.2.2.2.2.2.2.2.2.2.2.2.2.2.2.2.2.2.2.2.2.1)
               have HS25_ := (hb.cell (World.block_lt_of_cell? _ _ (hHeld.2.2.2.2.2.2.2.2.2.2.2.2.2.2.2.2.2.2.2.2.2.2.2.2.2.1))).trans (hHeld.2.2.2.2.2.2.2.2.2.2.2.2.2.2.2.2.2.2.2.2.2.2.2.2.2.1)
               have HS26_ := (hb.cell (World.block_lt_of_cell? _ _ (hHeld.2.2.2.2.2.2.2.2.2.2.2.2.2.2.2.2.2.2.2.2.2.2.2.2.2.2))).trans (hHeld.2.2.2.2.2.2.2.2.2.2.2.2.2.2.2.2.2.2.2.2.2.2.2.2.2.2)
               refine ⟨_, rfl, ?_⟩
               replace HO_3 := aa (Kd.R_below (zcaken HO_3.out) hb)
               replace HO_114002 := aa (Kd.R_below (zcaken HO_114002.out) hb)
               replace HO_125002 := aa (Kd.R_below (zcaken HO_125002.out) hb)
               replace HO_131002 := aa (Kd.R_below (zcaken HO_131002.out) hb)
               replace HO_138002 := aa (Kd.R_below (zcaken HO_138002.out) hb)
               replace BK113 := aa (bb_ BK113.out hb)
               replace BK124 := aa (bb_ BK124.out hb)
               replace BK130 := aa (bb_ BK130.out hb)
               replace BK137 := aa (bb_ BK137.out hb)
               replace HB := aa (below_step zjplfd hb)
               (try clear hb)
               (try clear hb2)
               (try clear hk)
               (try clear hi)
               refine hK.out _ _ ⟨(blk_cell BK113.out 0).trans rfl, (blk_cell BK113.out 1).trans rfl, (blk_cell BK113.out 2).trans rfl, (blk_cell BK124.out 0).trans rfl, (blk_cell BK124.out 1).trans rfl, (blk_cell BK124.out 2).trans rfl, (blk_cell BK130.out 0).trans rfl, (blk_cell BK130.out 1).trans rfl, (blk_cell BK130.out 2).trans rfl, (blk_cell BK137.out 0).trans rfl, (blk_cell BK137.out 1).trans rfl, (blk_cell BK137.out 2).trans rfl, HS12_, HS13_, HS14_, HS15_, HS16_, HS17_, HS18_, HS19_, HS20_, HS21_, HS22_, HS23_, HS24_, HS25_, HS26_⟩ (fun hHeld => ?_)
               clear hK K
               refine norm_ (a' := ?_) ?_ ?_
               rotate_left
               ·
                show Act.put _ (some 98) _ = _
                simp only [Act.put, List.setIfInBounds_toArray, List.set_cons_zero, List.set_cons_succ, i64_w, i32_w]
                rfl
               refine pu3 3 99 ?_
               refine pu3 4 100 ?_
               refine pu3 5 101 ?_
               refine pu3 10 106 ?_
               refine tk27_3 6 102 ?_
               refine pu3 7 103 ?_
               refine pu3 8 104 ?_
               refine tk27_3 9 105 ?_
               refine pu3 11 107 ?_
               refine pu3 12 108 ?_
               refine pu3 13 109 ?_
               refine pu3 14 110 ?_
               refine pu3 19 115 ?_
               refine tk27_3 15 111 ?_
               refine pu3 16 112 ?_
               refine pu3 17 113 ?_
               refine tk27_3 18 114 ?_
               refine tk27_3 20 116 ?_
               refine pu3 21 117 ?_
               refine pu3 22 118 ?_
               refine tk27_3 23 119 ?_
               refine pu3 24 120 ?_
               refine pu3 25 121 ?_
               refine pu3 26 122 ?_
               refine pu3 27 123 ?_
               refine pu3 28 124 ?_
               refine pu3 29 125 ?_
               refine pu3 30 126 ?_
               refine pn3 31 127 ?_
               refine pn3 32 128 ?_
               refine pn3 33 129 ?_
               refine pn3 34 130 ?_
               refine pn3 35 131 ?_
               refine pn3 36 132 ?_
               refine pn3 37 133 ?_
               refine pu3 38 134 ?_
               refine pu3 39 135 ?_
               refine pu3 40 136 ?_
               refine pu3 41 137 ?_
               refine tk27_3 42 138 ?_
               refine pu3 43 139 ?_
               refine pu3 44 140 ?_
               refine pu3 45 141 ?_
               refine pu3 46 142 ?_
               refine pu3 47 143 ?_
               refine pu3 48 144 ?_
               refine pu3 49 145 ?_
               refine pu3 50 146 ?_
               refine pu3 53 149 ?_
               refine pu3 54 150 ?_
               refine tk27_3 51 147 ?_
               refine pu3 52 148 ?_
               refine pu3 55 151 ?_
               refine pu3 56 152 ?_
               refine pu3 57 2 ?_
               refine done_ (done_of HT_.out (by kernel_rfl)) ?_
               try go_wp2
               go_ret
               exact ⟨zlhpib, zjplfd⟩
              revert H
              refine itE_ (fun c87b0 c87b1 H => ?_) fun c87b0 c87b1 H => ?_
              rotate_left
              ·
               obtain rfl := Option.some.inj H
               exact absurd HRT.out (by decide)
              revert H
              refine itE_ (fun c88b0 c88b1 H => ?_) fun c88b0 c88b1 H => ?_
              rotate_left
              ·
               obtain rfl := Option.some.inj H
               exact absurd HRT.out (by decide)
              revert H
              refine itE_ (fun c89b0 c89b1 H => ?_) fun c89b0 c89b1 H => ?_
              rotate_left
              ·
               obtain rfl := Option.some.inj H
               exact absurd HRT.out (by decide)
              obtain rfl := Option.some.inj H
              try go_wp2
              replace HO_3 := aa (Kd.R_drew HO_3.out)
              replace HO_114002 := aa (Kd.R_drew HO_114002.out)
              replace HO_125002 := aa (Kd.R_drew HO_125002.out)
              replace HO_131002 := aa (Kd.R_drew HO_131002.out)
              replace HO_138002 := aa (Kd.R_drew HO_138002.out)
              replace BK113 := aa (blk_drew BK113.out)
              replace BK124 := aa (blk_drew BK124.out)
              replace BK130 := aa (blk_drew BK130.out)
              replace BK137 := aa (blk_drew BK137.out)
              replace HB := aa (below_drew1 HB.out)
              have p141 : 0 ≤ (0 : Int) := (by omega)
              have q141 : 0 < (t121.length : Int) := of_decide_eq_true zgglam
              obtain ⟨ad141, e141, hx141_0, hx141_1, hx141_2, hx141_3, hx141_4⟩ := at_T32 (Kd.R_reads' HO_125002.out).2.2 0 p141 q141
              cases e141
              have qi141 : (0 < t121.length) = True := eq_true (by omega)
              (try rw [show ((0 : Int)).toNat = 0 from rfl] at hx141_0)
              (try rw [show 0 * 5 = 0 from rfl] at hx141_0)
              (try rw [Addr.add_zero'] at hx141_0)
              (try rw [show ((0 : Int)).toNat = 0 from rfl] at hx141_1)
              (try rw [show 0 * 5 = 0 from rfl] at hx141_1)
              (try rw [Addr.add_zero'] at hx141_1)
              (try rw [show ((0 : Int)).toNat = 0 from rfl] at hx141_2)
              (try rw [show 0 * 5 = 0 from rfl] at hx141_2)
              (try rw [Addr.add_zero'] at hx141_2)
              (try rw [show ((0 : Int)).toNat = 0 from rfl] at hx141_3)
              (try rw [show 0 * 5 = 0 from rfl] at hx141_3)
              (try rw [Addr.add_zero'] at hx141_3)
              (try rw [show ((0 : Int)).toNat = 0 from rfl] at hx141_4)
              (try rw [show 0 * 5 = 0 from rfl] at hx141_4)
              (try rw [Addr.add_zero'] at hx141_4)
              replace p141 := eq_true p141
              replace q141 := eq_true q141
              have p142 : 0 ≤ (0 : Int) := (by omega)
              have q142 : 0 < (t121.length : Int) := of_decide_eq_true zgglam
              obtain ⟨ad142, e142, hx142_0, hx142_1, hx142_2, hx142_3, hx142_4⟩ := at_T32 (Kd.R_reads' HO_125002.out).2.2 0 p142 q142
              obtain rfl : ad141 = ad142 := (by injection e142)
              have qi142 : (0 < t121.length) = True := eq_true (by omega)
              (try rw [show ((0 : Int)).toNat = 0 from rfl] at hx142_0)
              (try rw [show 0 * 5 = 0 from rfl] at hx142_0)
              (try rw [Addr.add_zero'] at hx142_0)
              (try rw [show ((0 : Int)).toNat = 0 from rfl] at hx142_1)
              (try rw [show 0 * 5 = 0 from rfl] at hx142_1)
              (try rw [Addr.add_zero'] at hx142_1)
              (try rw [show ((0 : Int)).toNat = 0 from rfl] at hx142_2)
              (try rw [show 0 * 5 = 0 from rfl] at hx142_2)
              (try rw [Addr.add_zero'] at hx142_2)
              (try rw [show ((0 : Int)).toNat = 0 from rfl] at hx142_3)
              (try rw [show 0 * 5 = 0 from rfl] at hx142_3)
              (try rw [Addr.add_zero'] at hx142_3)
              (try rw [show ((0 : Int)).toNat = 0 from rfl] at hx142_4)
              (try rw [show 0 * 5 = 0 from rfl] at hx142_4)
              (try rw [Addr.add_zero'] at hx142_4)
              replace p142 := eq_true p142
              replace q142 := eq_true q142
              have p143 : 0 ≤ (0 : Int) := (by omega)
              have q143 : 0 < (t127.length : Int) := of_decide_eq_true zgglam
              obtain ⟨ad143, e143, hx143_0, hx143_1, hx143_2, hx143_3, hx143_4⟩ := at_T32 (Kd.R_reads' HO_131002.out).2.2 0 p143 q143
              obtain rfl : ad131 = ad143 := (by injection e143)
              have qi143 : (0 < t127.length) = True := eq_true (by omega)
              (try rw [show ((0 : Int)).toNat = 0 from rfl] at hx143_0)
              (try rw [show 0 * 5 = 0 from rfl] at hx143_0)
              (try rw [Addr.add_zero'] at hx143_0)
              (try rw [show ((0 : Int)).toNat = 0 from rfl] at hx143_1)
              (try rw [show 0 * 5 = 0 from rfl] at hx143_1)
              (try rw [Addr.add_zero'] at hx143_1)
              (try rw [show ((0 : Int)).toNat = 0 from rfl] at hx143_2)
              (try rw [show 0 * 5 = 0 from rfl] at hx143_2)
              (try rw [Addr.add_zero'] at hx143_2)
              (try rw [show ((0 : Int)).toNat = 0 from rfl] at hx143_3)
              (try rw [show 0 * 5 = 0 from rfl] at hx143_3)
              (try rw [Addr.add_zero'] at hx143_3)
              (try rw [show ((0 : Int)).toNat = 0 from rfl] at hx143_4)
              (try rw [show 0 * 5 = 0 from rfl] at hx143_4)
              (try rw [Addr.add_zero'] at hx143_4)
              replace p143 := eq_true p143
              replace q143 := eq_true q143
              have p144 : 0 ≤ (0 : Int) := (by omega)
              have q144 : 0 < (t127.length : Int) := of_decide_eq_true zgglam
              obtain ⟨ad144, e144, hx144_0, hx144_1, hx144_2, hx144_3, hx144_4⟩ := at_T32 (Kd.R_reads' HO_131002.out).2.2 0 p144 q144
              obtain rfl : ad131 = ad144 := (by injection e144)
              have qi144 : (0 < t127.length) = True := eq_true (by omega)
              (try rw [show ((0 : Int)).toNat = 0 from rfl] at hx144_0)
              (try rw [show 0 * 5 = 0 from rfl] at hx144_0)
              (try rw [Addr.add_zero'] at hx144_0)
              (try rw [show ((0 : Int)).toNat = 0 from rfl] at hx144_1)
              (try rw [show 0 * 5 = 0 from rfl] at hx144_1)
              (try rw [Addr.add_zero'] at hx144_1)
              (try rw [show ((0 : Int)).toNat = 0 from rfl] at hx144_2)
              (try rw [show 0 * 5 = 0 from rfl] at hx144_2)
              (try rw [Addr.add_zero'] at hx144_2)
              (try rw [show ((0 : Int)).toNat = 0 from rfl] at hx144_3)
              (try rw [show 0 * 5 = 0 from rfl] at hx144_3)
              (try rw [Addr.add_zero'] at hx144_3)
              (try rw [show ((0 : Int)).toNat = 0 from rfl] at hx144_4)
              (try rw [show 0 * 5 = 0 from rfl] at hx144_4)
              (try rw [Addr.add_zero'] at hx144_4)
              replace p144 := eq_true p144
              replace q144 := eq_true q144
              refine start_ (n := 58) (S := fun w' => w'.cell? ⟨gb113, 0, none⟩ = some (.int .i64 t108) ∧ w'.cell? ⟨gb113, 1, none⟩ = some (.string t109) ∧ w'.cell? ⟨gb113, 2, none⟩ = some (.slice Ao13 t110.length co13) ∧ w'.cell? ⟨gb124, 0, none⟩ = some (.int .i64 t119) ∧ w'.cell? ⟨gb124, 1, none⟩ = some (.string t120) ∧ w'.cell? ⟨gb124, 2, none⟩ = some (.slice (some ad141) t121.length co27) ∧ w'.cell? ⟨gb130, 0, none⟩ = some (.int .i64 t125) ∧ w'.cell? ⟨gb130, 1, none⟩ = some (.string t126) ∧ w'.cell? ⟨gb130, 2, none⟩ = some (.slice (some ad131) t127.length co33) ∧ w'.cell? ⟨gb137, 0, none⟩ = some (.int .i64 t132) ∧ w'.cell? ⟨gb137, 1, none⟩ = some (.string t133) ∧ w'.cell? ⟨gb137, 2, none⟩ = some (.slice Ao57 t134.length co57) ∧ w'.cell? ad141 = some (.string ((rd_T32 t121 0).f0)) ∧ w'.cell? ⟨ad141.block, ad141.off + 1, none⟩ = some (.int .i64 ((rd_T32 t121 0).f1)) ∧ w'.cell? ⟨ad141.block, ad141.off + 2, none⟩ = some (.int .i64 ((rd_T32 t121 0).f2)) ∧ w'.cell? ⟨ad141.block, ad141.off + 3, none⟩ = some (.int .i64 ((rd_T32 t121 0).f3)) ∧ w'.cell? ⟨ad141.block, ad141.off + 4, none⟩ = some (.int .i64 ((rd_T32 t121 0).f4)) ∧ w'.cell? ad141 = some (.string ((rd_T32 t121 0).f0)) ∧ w'.cell? ⟨ad141.block, ad141.off + 1, none⟩ = some (.int .i64 ((rd_T32 t121 0).f1)) ∧ w'.cell? ⟨ad141.block, ad141.off + 2, none⟩ = some (.int .i64 ((rd_T32 t121 0).f2)) ∧ w'.cell? ⟨ad141.block, ad141.off + 3, none⟩ = some (.int .i64 ((rd_T32 t121 0).f3)) ∧ w'.cell? ⟨ad141.block, ad141.off + 4, none⟩ = some (.int .i64 ((rd_T32 t121 0).f4)) ∧ w'.cell? ad131 = some (.string ((rd_T32 t127 0).f0)) ∧ w'.cell? ⟨ad131.block, ad131.off + 1, none⟩ = some (.int .i64 ((rd_T32 t127 0).f1)) ∧ w'.cell? ⟨ad131.block, ad131.off + 2, none⟩ = some (.int .i64 ((rd_T32 t127 0).f2)) ∧ w'.cell? ⟨ad131.block, ad131.off + 3, none⟩ = some (.int .i64 ((rd_T32 t127 0).f3)) ∧ w'.cell? ⟨ad131.block, ad131.off + 4, none⟩ = some (.int .i64 ((rd_T32 t127 0).f4)) ∧ w'.cell? ad131 = some (.string ((rd_T32 t127 0).f0)) ∧ w'.cell? ⟨ad131.block, ad131.off + 1, none⟩ = some (.int .i64 ((rd_T32 t127 0).f1)) ∧ w'.cell? ⟨ad131.block, ad131.off + 2, none⟩ = some (.int .i64 ((rd_T32 t127 0).f2)) ∧ w'.cell? ⟨ad131.block, ad131.off + 3, none⟩ = some (.int .i64 ((rd_T32 t127 0).f3)) ∧ w'.cell? ⟨ad131.block, ad131.off + 4, none⟩ = some (.int .i64 ((rd_T32 t127 0).f4))) (ds := []) #[false, false, false, false, false, false, false, false, false, false, false, false, false, false, false, false, false, false, false, false, false, false, false, false, false, false, false, false, false, false, false, false, false, false, false, false, false, false, false, false, false, false, false, false, false, false, false, false, false, false, false, false, false, false, false, false, false, false] (by kernel_rfl) rfl rfl ⟨(blk_cell BK113.out 0).trans rfl, (blk_cell BK113.out 1).trans rfl, (blk_cell BK113.out 2).trans rfl, (blk_cell BK124.out 0).trans rfl, (blk_cell BK124.out 1).trans rfl, (blk_cell BK124.out 2).trans rfl, (blk_cell BK130.out 0).trans rfl, (blk_cell BK130.out 1).trans rfl, (blk_cell BK130.out 2).trans rfl, (blk_cell BK137.out 0).trans rfl, (blk_cell BK137.out 1).trans rfl, (blk_cell BK137.out 2).trans rfl, hx141_0, hx141_1, hx141_2, hx141_3, hx141_4, hx142_0, hx142_1, hx142_2, hx142_3, hx142_4, hx143_0, hx143_1, hx143_2, hx143_3, hx143_4, hx144_0, hx144_1, hx144_2, hx144_3, hx144_4⟩ (fun hHeld => ?_); refine with_tabW laws_FnSets.tab18 laws_FnSets.bits18 (fun HT_ HW_ => ?_)
              generalize wc.drew = w90 at HO_3 HO_114002 HO_125002 HO_131002 HO_138002 BK113 BK124 BK130 BK137 HB hx141_0 hx141_1 hx141_2 hx141_3 hx141_4 hx142_0 hx142_1 hx142_2 hx142_3 hx142_4 hx143_0 hx143_1 hx143_2 hx143_3 hx143_4 hx144_0 hx144_1 hx144_2 hx144_3 hx144_4 hHeld ⊢
              refine pu3 0 96 ?_
              refine tk32_3 1 97 ?_
              refine one_ (i := 2) (N := some 98) #[true, true, true, false, false, false, false, false, false, false, false, false, false, false, false, false, false, false, false, false, false, false, false, false, false, false, false, false, false, false, false, false, false, false, false, false, false, false, false, false, false, false, false, false, false, false, false, false, false, false, false, false, false, false, false, false, false, false] rfl rfl (one_of HT_.out (by kernel_rfl)) (by decide) (fun K hK => ?_)
              refine goes_ Tryd.func12 (by kernel_rfl) rfl #[.slice Ao13 t110.length co13] (by rfl) rfl rfl zjnmae ?_
              with_reducible refine (impl_TreeFault.calls kj58 _ _ t110 t140 _ ?side1 ?side2 A72.out).mono ?_
              (case side1 => exact zficko)
              (case side2 => exact znoaai)
              rintro e w91 ⟨rfl, hb⟩
              have HS12_ := (hb.cell (World.block_lt_of_cell? _ _ (hHeld.2.2.2.2.2.2.2.2.2.2.2.2.1))).trans (hHeld.2.2.2.2.2.2.2.2.2.2.2.2.1)
              have HS13_ := (hb.cell (World.block_lt_of_cell? _ _ (hHeld.2.2.2.2.2.2.2.2.2.2.2.2.2.1))).trans (hHeld.2.2.2.2.2.2.2.2.2.2.2.2.2.1)
              have HS14_ := (hb.cell (World.block_lt_of_cell? _ _ (hHeld.2.2.2.2.2.2.2.2.2.2.2.2.2.2.1))).trans (hHeld.2.2.2.2.2.2.2.2.2.2.2.2.2.2.1)
              have HS15_ := (hb.cell (World.block_lt_of_cell? _ _ (hHeld.2.2.2.2.2.2.2.2.2.2.2.2.2.2.2.1))).trans (hHeld.2.2.2.2.2.2.2.2.2.2.2.2.2.2.2.1)
              have HS16_ := (hb.cell (World.block_lt_of_cell? _ _ (hHeld.2.2.2.2.2.2.2.2.2.2.2.2.2.2.2.2.1))).trans (hHeld.2.2.2.2.2.2.2.2.2.2.2.2.2.2.2.2.1)
              have HS17_ := (hb.cell (World.block_lt_of_cell? _ _ (hHeld.2.2.2.2.2.2.2.2.2.2.2.2.2.2.2.2.2.1))).trans (hHeld.2.2.2.2.2.2.2.2.2.2.2.2.2.2.2.2.2.1)
              have HS18_ := (hb.cell (World.block_lt_of_cell? _ _ (hHeld.2.2.2.2.2.2.2.2.2.2.2.2.2.2.2.2.2.2.1))).trans (hHeld.2.2.2.2.2.2.2.2.2.2.2.2.2.2.2.2.2.2.1)
              have HS19_ := (hb.cell (World.block_lt_of_cell? _ _ (hHeld.2.2.2.2.2.2.2.2.2.2.2.2.2.2.2.2.2.2.2.1))).trans (hHeld.2.2.2.2.2.2.2.2.2.2.2.2.2.2.2.2.2.2.2.1)
              have HS20_ := (hb.cell (World.block_lt_of_cell? _ _ (hHeld.2.2.2.2.2.2.2.2.2.2.2.2.2.2.2.2.2.2.2.2.1))).trans (hHeld.2.2.2.2.2.2.2.2.2.2.2.2.2.2.2.2.2.2.2.2.1)
              have HS21_ := (hb.cell (World.block_lt_of_cell? _ _ (hHeld.2.2.2.2.2.2.2.2.2.2.2.2.2.2.2.2.2.2.2.2.2.1))).trans (hHeld.2.2.2.2.2.2.2.2.2.2.2.2.2.2.2.2.2.2.2.2.2.1)
              have HS22_ := (hb.cell (World.block_lt_of_cell? _ _ (hHeld.2.2.2.2.2.2.2.2.2.2.2.2.2.2.2.2.2.2.2.2.2.2.1))).trans (hHeld.2.2.2.2.2.2.2.2.2.2.2.2.2.2.2.2.2.2.2.2.2.2.1)
              have HS23_ := (hb.cell (World.block_lt_of_cell? _ _ (hHeld.2.2.2.2.2.2.2.2.2.2.2.2.2.2.2.2.2.2.2.2.2.2.2.1))).trans (hHeld.2.2.2.2.2.2.2.2.2.2.2.2.2.2.2.2.2.2.2.2.2.2.2.1)
              have HS24_ := (hb.cell (World.block_lt_of_cell? _ _ (hHeld.2.2.2.2.2.2.2.2.2.2.2.2.2.2.2.2.2.2.2.2.2.2.2.2.1))).trans (hHeld.2.2.2.2.2.2.2.2.2.2.2.2.2.2.2.2.2.2.2.2.2.2.2.2.1)
              have HS25_ := (hb.cell (World.block_lt_of_cell? _ _ (hHeld.2.2.2.2.2.2.2.2.2.2.2.2.2.2.2.2.2.2.2.2.2.2.2.2.2.1))).trans (hHeld.2.2.2.2.2.2.2.2.2.2.2.2.2.2.2.2.2.2.2.2.2.2.2.2.2.1)
              have HS26_ := (hb.cell (World.block_lt_of_cell? _ _ (hHeld.2.2.2.2.2.2.2.2.2.2.2.2.2.2.2.2.2.2.2.2.2.2.2.2.2.2.1))).trans (hHeld.2.2.2.2.2.2.2.2.2.2.2.2.2.2.2.2.2.2.2.2.2.2.2.2.2.2.1)
              have HS27_ := (hb.cell (World.block_lt_of_cell? _ _ (hHeld.2.2.2.2.2.2.2.2.2.2.2.2.2.2.2.2.2.2.2.2.2.2.2.2.2.2.2.1))).trans (hHeld.2.2.2.2.2.2.2.2.2.2.2.2.2.2.2.2.2.2.2.2.2.2.2.2.2.2.2.1)
              have HS28_ := (hb.cell (World.block_lt_of_cell? _ _ (hHeld.2.2.2.2.2.2.2.2.2.2.2.2.2.2.2.2.2.2.2.2.2.2.2.2.2.2.2.2.1))).trans (hHeld.2.2.2.2.2.2.2.2.2.2.2.2.2.2.2.2.2.2.2.2.2.2.2.2.2.2.2.2.1)
              have HS29_ := (hb.cell (World.block_lt_of_cell? _ _ (hHeld.2.2.2.2.2.2.2.2.2.2.2.2.2.2.2.2.2.2.2.2.2.2.2.2.2.2.2.2.2.1))).trans (hHeld.2.2.2.2.2.2.2.2.2.2.2.2.2.2.2.2.2.2.2.2.2.2.2.2.2.2.2.2.2.1)
              have HS30_ := (hb.cell (World.block_lt_of_cell? _ _ (hHeld.2.2.2.2.2.2.2.2.2.2.2.2.2.2.2.2.2.2.2.2.2.2.2.2.2.2.2.2.2.2.1))).trans (hHeld.2.2.2.2.2.2.2.2.2.2.2.2.2.2.2.2.2.2.2.2.2.2.2.2.2.2.2.2.2.2.1)
              have HS31_ := (hb.cell (World.block_lt_of_cell? _ _ (hHeld.2.2.2.2.2.2.2.2.2.2.2.2.2.2.2.2.2.2.2.2.2.2.2.2.2.2.2.2.2.2.2))).trans (hHeld.2.2.2.2.2.2.2.2.2.2.2.2.2.2.2.2.2.2.2.2.2.2.2.2.2.2.2.2.2.2.2)
              refine ⟨_, rfl, ?_⟩
              replace HO_3 := aa (Kd.R_below (zcaken HO_3.out) hb)
              replace HO_114002 := aa (Kd.R_below (zcaken HO_114002.out) hb)
              replace HO_125002 := aa (Kd.R_below (zcaken HO_125002.out) hb)
              replace HO_131002 := aa (Kd.R_below (zcaken HO_131002.out) hb)
              replace HO_138002 := aa (Kd.R_below (zcaken HO_138002.out) hb)
              replace BK113 := aa (bb_ BK113.out hb)
              replace BK124 := aa (bb_ BK124.out hb)
              replace BK130 := aa (bb_ BK130.out hb)
              replace BK137 := aa (bb_ BK137.out hb)
              replace HB := aa (below_step zjplfd hb)
              (try clear hb)
              (try clear hb2)
              (try clear hk)
              (try clear hi)
              refine hK.out _ _ ⟨(blk_cell BK113.out 0).trans rfl, (blk_cell BK113.out 1).trans rfl, (blk_cell BK113.out 2).trans rfl, (blk_cell BK124.out 0).trans rfl, (blk_cell BK124.out 1).trans rfl, (blk_cell BK124.out 2).trans rfl, (blk_cell BK130.out 0).trans rfl, (blk_cell BK130.out 1).trans rfl, (blk_cell BK130.out 2).trans rfl, (blk_cell BK137.out 0).trans rfl, (blk_cell BK137.out 1).trans rfl, (blk_cell BK137.out 2).trans rfl, HS12_, HS13_, HS14_, HS15_, HS16_, HS17_, HS18_, HS19_, HS20_, HS21_, HS22_, HS23_, HS24_, HS25_, HS26_, HS27_, HS28_, HS29_, HS30_, HS31_⟩ (fun hHeld => ?_)
              clear hK K
              refine norm_ (a' := ?_) ?_ ?_
              rotate_left
              ·
               show Act.put _ (some 98) _ = _
               simp only [Act.put, List.setIfInBounds_toArray, List.set_cons_zero, List.set_cons_succ, i64_w, i32_w]
               rfl
              refine pu3 3 99 ?_
              refine pu3 4 100 ?_
              refine pu3 5 101 ?_
              refine pu3 10 106 ?_
              refine tk32_3 6 102 ?_
              refine pu3 7 103 ?_
              refine pu3 8 104 ?_
              refine tk32_3 9 105 ?_
              refine pu3 11 107 ?_
              refine pu3 12 108 ?_
              refine pu3 13 109 ?_
              refine pu3 14 110 ?_
              refine pu3 19 115 ?_
              refine tk32_3 15 111 ?_
              refine pu3 16 112 ?_
              refine pu3 17 113 ?_
              refine tk32_3 18 114 ?_
              refine tk32_3 20 116 ?_
              refine pu3 21 117 ?_
              refine pu3 22 118 ?_
              refine tk32_3 23 119 ?_
              refine pu3 24 120 ?_
              refine pu3 25 121 ?_
              refine pu3 26 122 ?_
              refine pu3 27 123 ?_
              refine pu3 28 124 ?_
              refine pu3 29 125 ?_
              refine pu3 30 126 ?_
              refine pu3 31 127 ?_
              refine pu3 32 128 ?_
              refine tk32_3 33 129 ?_
              refine pu3 34 130 ?_
              refine pu3 35 131 ?_
              refine tk32_3 36 132 ?_
              refine pu3 37 133 ?_
              refine pu3 38 134 ?_
              refine pu3 39 135 ?_
              refine pu3 40 136 ?_
              refine pu3 41 137 ?_
              refine tk32_3 42 138 ?_
              refine pu3 43 139 ?_
              refine pu3 44 140 ?_
              refine pu3 45 141 ?_
              refine pu3 46 142 ?_
              refine pu3 47 143 ?_
              refine pu3 48 144 ?_
              refine pu3 49 145 ?_
              refine pu3 50 146 ?_
              refine pu3 53 149 ?_
              refine pu3 54 150 ?_
              refine tk32_3 51 147 ?_
              refine pu3 52 148 ?_
              refine pu3 55 151 ?_
              refine pu3 56 152 ?_
              refine pu3 57 2 ?_
              refine done_ (done_of HT_.out (by kernel_rfl)) ?_
              try go_wp2
              go_ret
              exact ⟨zlhpib, zjplfd⟩
end Go.Proofs.YtegggpipggniaaaDoor.Qa
/- Arguments laid open: what a value of a type holds in memory, by the print's kinds; for every type that is met here. -/
namespace Go.Proofs.YtegggpipggniaaaDoor.Tro
open Go.ChangeShapes Go.WideShapes Go.RowKit Go.Deep Go.Proofs.YtegggpipggniaaaDoorW.PrintWords

/-- What can be read as data of type T holds a value of this kind, of which 'good' is so. -/
def Tr {α : Type} (P : Program) (k : Kd α) (T : TypeId) (good : α → Prop) : Prop :=
  ∀ {H : Type} (enc : TypeId × Value → H) (w : World) (fuel : Nat) (cs : List Value) (x : DataW H × List MemPlace), DataW.trod enc P w 0 (fun _ => true) true fuel T cs = some x → ∃ a : α, k.K w a cs ∧ good a
theorem tr_int {P : Program} {T : TypeId} {k : IntKind} (h : P.underlying T = some (.int k)) : Tr P (Kd.int k) T (fun a => (Lit.int k a).wf = true) := by
  intro H enc w fuel cs x hx
  obtain ⟨n, rfl, _, hw⟩ := DataW.trod_int h hx
  exact ⟨n, rfl, hw⟩
theorem tr_bool {P : Program} {T : TypeId} (h : P.underlying T = some .bool) : Tr P Kd.bool T (fun _ => True) := by
  intro H enc w fuel cs x hx
  obtain ⟨b, rfl, _⟩ := DataW.trod_bool h hx
  exact ⟨b, rfl, trivial⟩
theorem tr_string {P : Program} {T : TypeId} (h : P.underlying T = some .string) : Tr P Kd.string T (fun s => s.size ≤ 9223372036854775807) := by
  intro H enc w fuel cs x hx
  obtain ⟨s, rfl, _, hs⟩ := DataW.trod_string h hx
  exact ⟨s, rfl, hs⟩
theorem choose_list {α : Type} {p : Nat → α → Prop} : ∀ n : Nat, (∀ i, i < n → ∃ a, p i a) → ∃ xs : List α, xs.length = n ∧ ∀ i a, xs[i]? = some a → p i a
  | 0, _ => ⟨[], rfl, fun i a h => by simp at h⟩
  | n + 1, h => by
    obtain ⟨xs, hl, hx⟩ := choose_list n (fun i hi => h i (by omega))
    obtain ⟨a, ha⟩ := h n (by omega)
    refine ⟨xs ++ [a], by simp [hl], fun i b hb => ?_⟩
    rcases Nat.lt_or_ge i xs.length with hi | hi
    · rw [List.getElem?_append_left hi] at hb
      exact hx i b hb
    · rw [List.getElem?_append_right hi] at hb
      have hi' : i = xs.length := by
        rcases Nat.eq_or_lt_of_le hi with e | e
        · exact e.symm
        · rw [List.getElem?_eq_none (by simp; omega)] at hb
          cases hb
      subst hi'
      rw [Nat.sub_self] at hb
      cases hb
      rw [hl]
      exact ha
theorem tr_slice {α : Type} {P : Program} {T e : TypeId} {d : Kd α} {good : α → Prop} (h : P.underlying T = some (.slice e)) (hz : d.sz = P.cellsOf e) (he : Tr P d e good) :
    Tr P (Kd.slice e d) T (fun xs => xs.length ≤ 9223372036854775807 ∧ ∀ x ∈ xs, good x) := by
  intro H enc w fuel cs x hx
  rcases open_slice h hx with ⟨rfl, _⟩ | ⟨a, len, cap, m, n, D, Pl, rfl, _, hl, hm, hmm, _, hi⟩
  · exact ⟨[], ⟨none, 0, rfl, Nat.le_refl _, rfl, Nat.zero_le _, fun h0 => absurd h0 (Nat.lt_irrefl 0)⟩, Nat.zero_le _, fun x hx => by simp at hx⟩
  · have hmc : m = cap := by simpa using hmm
    have hcap : cap ≤ 9223372036854775807 := hm
    obtain ⟨xs, hxl, hxs⟩ := choose_list (p := fun i b => (∃ c, c.length = d.sz ∧ d.K w b c ∧ ∀ j u, c[j]? = some u → w.cell? (a.add (i * d.sz + j)) = some u) ∧ good b) len (fun i hil => by
      obtain ⟨cs', hc, ht⟩ := hi i (by omega)
      obtain ⟨b, hb, hg⟩ := he enc w n cs' _ ht
      refine ⟨b, ⟨cs', d.K_len hb, hb, fun j u hu => ?_⟩, hg⟩
      obtain ⟨_, hcl, hat⟩ := World.cells?_some hc
      have hj : j < P.cellsOf e := by rw [← hcl]; exact (List.getElem?_eq_some_iff.1 hu).1
      have := hat j hj
      rw [hz, ← Go.Deep.add_add, this, hu])
    refine ⟨xs, ⟨some a, cap, by rw [hxl], by omega, rfl, by omega, fun _ => ⟨a, rfl, fun j p hp => (hxs j p hp).1⟩⟩, by omega, fun b hb => ?_⟩
    obtain ⟨i, hil, he⟩ := List.getElem_of_mem hb
    exact (hxs i b (by rw [← he]; exact List.getElem?_eq_getElem hil)).2
end Go.Proofs.YtegggpipggniaaaDoor.Tro

namespace Go.Proofs.YtegggpipggniaaaDoor.Qa
open Go.RowKit Go.Proofs.YtegggpipggniaaaDoorW.PrintWords Go.Proofs.YtegggpipggniaaaDoorW.PrintLast Go.Proofs.YtegggpipggniaaaDoorW.PrintMore Go.ChangeShapes Go.WideShapes Go.Proofs.YtegggpipggniaaaDoor.Tro
attribute [local go_sem] max2_int min2_int max_two min_two max_three min_three max_four min_four   -- for this text's walks alone
set_option linter.unusedVariables false
set_option linter.unusedSimpArgs false
end Go.Proofs.YtegggpipggniaaaDoor.Qa
/- Small laws of the pure side: what ends, step by step; whole numbers; lists by places. -/
namespace Go.Proofs.YtegggpipggniaaaDoor.Aid
open Go.RowKit Go.Proofs.YtegggpipggniaaaDoorW.PrintWords

theorem wrap_id {x : Int} (h0 : -9223372036854775808 ≤ x) (h1 : x ≤ 9223372036854775807) : wrap64 x = x := by
  unfold wrap64
  omega
theorem wrap_up {i n : Nat} (h : i < n) (hn : n ≤ 4611686018427387904) : wrap64 ((i : Int) + 1) = ((i + 1 : Nat) : Int) := by
  rw [wrap_id (by omega) (by omega)]
  omega
theorem wf_lo {x : Int} (h : (Lit.int .i64 x).wf = true) : -9223372036854775808 ≤ x ∧ x ≤ 9223372036854775807 := by
  have h' : (decide (IntKind.i64.min ≤ x) && decide (x ≤ IntKind.i64.max)) = true := h
  simp only [Bool.and_eq_true, decide_eq_true_eq] at h'
  exact h'
/-- One round, then what is known of the rest. -/
theorem ev_step {α : Type} {g : Nat → Option α} (f : Nat → Option α) {r : α} (h : ∀ k, g (k + 1) = f k) (k : Ev f r) : Ev g r := Ev.step h k
theorem ev_done {α : Type} {g : Nat → Option α} {r : α} (h : ∀ k, g (k + 1) = some r) : Ev g r := Ev.step h (Ev.now r)
theorem ev_is {α : Type} {g : Nat → Option α} {r : α} (h : ∀ k, g k = some r) : Ev g r := ⟨0, fun k _ => h k⟩
/-- A call whose answer is known, then the rest. -/
theorem ev_call {α β : Type} {g : Nat → Option α} {f : Nat → α → Option β} {a : α} {r : β} (h : Ev g a) (k : Ev (fun n => f n a) r) : Ev (fun n => (g n).bind (f n)) r := Ev.bind h k
theorem ev_cong {α : Type} {g f : Nat → Option α} {r : α} (h : ∀ k, g k = f k) (k : Ev f r) : Ev g r := Ev.congr h k
theorem rd_at {l : List Int} {i : Nat} (h : i < l.length) : rd l (i : Int) = l[i] := by
  unfold rd
  rw [Int.toNat_natCast, List.getD_eq_getElem?_getD, List.getElem?_eq_getElem h]
  rfl
theorem drop_at {α : Type} {l : List α} {i : Nat} (h : i < l.length) : l.drop i = l[i] :: l.drop (i + 1) := List.drop_eq_getElem_cons h
theorem drop_end {α : Type} {l : List α} {i : Nat} (h : l.length ≤ i) : l.drop i = [] := List.drop_eq_nil_of_le h
theorem rd_set_at {l : List Int} {i : Nat} {v : Int} (h : i < l.length) : rd (l.set i v) (i : Int) = v := by
  rw [rd_at (by simpa using h)]
  simp
theorem rdOf_at {α : Type} {z : α} {l : List α} {i : Nat} (h : i < l.length) : rdOf z l (i : Int) = l[i] := by
  unfold rdOf
  rw [Int.toNat_natCast, List.getD_eq_getElem?_getD, List.getElem?_eq_getElem h]
  rfl
theorem rdOf_set_at {α : Type} {z : α} {l : List α} {i : Nat} {v : α} (h : i < l.length) : rdOf z (l.set i v) (i : Int) = v := by
  rw [rdOf_at (by simpa using h)]
  simp
theorem take_set_snoc {α : Type} {l : List α} {i : Nat} {v : α} (h : i < l.length) : (l.set i v).take (i + 1) = l.take i ++ [v] := by
  rw [List.take_succ_eq_append_getElem (by simpa using h), List.take_set_of_le (Nat.le_refl i)]
  simp
theorem take_set_next {α : Type} {m L : List α} {i : Nat} {v : α} (h : i < m.length) (h' : i < L.length) (ht : m.take i = L.take i) (hv : L[i] = v) : (m.set i v).take (i + 1) = L.take (i + 1) := by
  rw [take_set_snoc h, List.take_succ_eq_append_getElem h', ht, hv]
theorem wr1_ (m : Int) (h0 : -9223372036854775808 ≤ m + 1) (h1 : m + 1 ≤ 9223372036854775807) : wrap64 (m + 1) = m + 1 := wrap_id h0 h1
theorem wrn_ (m j j1 : Int) (e : j + 1 = j1) (h0 : -9223372036854775808 ≤ m + j + 1) (h1 : m + j + 1 ≤ 9223372036854775807) : wrap64 (m + j + 1) = m + j1 := by
  rw [wrap_id h0 h1]
  omega
theorem size_strOfNums (xs : List Int) : (strOfNums xs).size = xs.length := by
  simp [strOfNums, ByteArray.size]
theorem tdiv_lt {x : Int} (h : 0 < x) : 0 ≤ Int.tdiv x 10 ∧ Int.tdiv x 10 + 1 ≤ x := by
  have : Int.tdiv x 10 = x / 10 := Int.tdiv_eq_ediv_of_nonneg (by omega)
  rw [this]
  omega
/-- Where what is so stands ahead of what is not: how many are so is the place. -/
theorem take_pos {α : Type} (p : α → Bool) (l : List α) (hm : l.Pairwise (fun x y => p y = true → p x = true)) : ∀ j (hj : j < l.length), p l[j] = true ↔ j < (l.takeWhile p).length := by
  induction l with
  | nil => intro j hj; simp at hj
  | cons x l ih =>
    intro j hj
    obtain ⟨h1, h2⟩ := List.pairwise_cons.1 hm
    cases hx : p x with
    | true =>
      rw [List.takeWhile_cons_of_pos hx]
      cases j with
      | zero => simp [hx]
      | succ j => simpa using ih h2 j (by simpa using hj)
    | false =>
      rw [List.takeWhile_cons_of_neg (by simp [hx])]
      cases j with
      | zero => simp [hx]
      | succ j =>
        have hj' : j < l.length := by simpa using hj
        have : p l[j] = true → False := fun h => by
          have := h1 l[j] (List.getElem_mem hj') h
          rw [hx] at this
          cases this
        simp
        exact Bool.eq_false_iff.2 this
theorem take_pos_le {α : Type} (p : α → Bool) (l : List α) : (l.takeWhile p).length ≤ l.length := (List.takeWhile_prefix p).length_le
theorem mid_eq {a b : Nat} (h : a + b ≤ 4611686018427387904) : wrap64 ((IntKind.u64.wrap (wrap64 ((a : Int) + (b : Int)))) / 2) = ((((a + b) / 2 : Nat)) : Int) := by
  have e : wrap64 ((a : Int) + (b : Int)) = ((a + b : Nat) : Int) := by rw [wrap_id (by omega) (by omega)]; omega
  have e2 : IntKind.u64.wrap (((a + b : Nat)) : Int) = ((a + b : Nat) : Int) := by
    have : IntKind.u64.wrap (((a + b : Nat)) : Int) = (((a + b : Nat)) : Int) % 18446744073709551616 := rfl
    rw [this]
    omega
  rw [e, e2, wrap_id (by omega) (by omega)]
  omega
end Go.Proofs.YtegggpipggniaaaDoor.Aid

namespace Go.Proofs.YtegggpipggniaaaDoor.Qa
open Go.RowKit Go.Proofs.YtegggpipggniaaaDoorW.PrintWords Go.Proofs.YtegggpipggniaaaDoorW.PrintLast Go.Proofs.YtegggpipggniaaaDoor.Aid
set_option linter.unusedVariables false
set_option linter.unusedSimpArgs false
theorem rd_T32_at {l : List (S32)} {i : Nat} (h : i < l.length) : rd_T32 l (i : Int) = l[i] := by
  unfold rd_T32
  rw [Int.toNat_natCast, List.getD_eq_getElem?_getD, List.getElem?_eq_getElem h]
  rfl
theorem rd_T32_set {l : List (S32)} {i : Nat} {v : S32} (h : i < l.length) : rd_T32 (l.set i v) (i : Int) = v := by
  rw [rd_T32_at (by simpa using h)]
  simp
end Go.Proofs.YtegggpipggniaaaDoor.Qa
/- A number within bounds, by the program and by the reference. -/
namespace Go.Proofs.YtegggpipggniaaaDoor.Pure
open Go.RowKit Go.Proofs.YtegggpipggniaaaDoor.Qa Go.Proofs.YtegggpipggniaaaDoorW.PrintWords Go.Proofs.YtegggpipggniaaaDoorW.PrintLast Go.Proofs.YtegggpipggniaaaDoor.Aid
theorem spec_l1In_is (a lo hi : Int) : spec_l1In.f a lo hi = some (decide (lo ≤ a ∧ a ≤ hi)) := by
  unfold spec_l1In.f
  by_cases h : lo ≤ a
  · rw [if_pos h]; simp [h]
  · rw [if_neg h]; simp [h]
theorem impl_within_is (a lo hi : Int) : impl_within.f a lo hi = some (decide (lo ≤ a ∧ a ≤ hi)) := by
  unfold impl_within.f
  by_cases h : lo ≤ a
  · rw [if_pos h]; simp [h]
  · rw [if_neg h]; simp [h]
end Go.Proofs.YtegggpipggniaaaDoor.Pure

/- Names: what is one, by the program and by the reference: the same, for every text. -/
namespace Go.Proofs.YtegggpipggniaaaDoor.Pure
open Go.RowKit Go.Proofs.YtegggpipggniaaaDoor.Qa Go.Proofs.YtegggpipggniaaaDoorW.PrintWords Go.Proofs.YtegggpipggniaaaDoorW.PrintLast Go.Proofs.YtegggpipggniaaaDoor.Aid

theorem bt_at {s : ByteArray} {i : Nat} (h : i < s.data.toList.length) : bt s (i : Int) = ((s.data.toList[i]).toNat : Int) := by
  have h' : (i : Int).toNat < s.size := by rw [Int.toNat_natCast]; exact h
  unfold bt
  rw [dif_pos h']
  rfl
theorem size_list (s : ByteArray) : s.size = s.data.toList.length := rfl
/-- A sign of a name. -/
def okU (c : UInt8) : Bool := (decide (97 ≤ c.toNat) && decide (c.toNat ≤ 122)) || (decide (48 ≤ c.toNat) && decide (c.toNat ≤ 57))
def nameB (s : ByteArray) : Bool := s.data.toList.all okU && decide (1 ≤ (s.size : Int) ∧ (s.size : Int) ≤ 8)
theorem okU_true {c : UInt8} (h : okU c = true) : (97 ≤ (c.toNat : Int) ∧ (c.toNat : Int) ≤ 122) ∨ (48 ≤ (c.toNat : Int) ∧ (c.toNat : Int) ≤ 57) := by
  unfold okU at h
  simp only [Bool.or_eq_true, Bool.and_eq_true, decide_eq_true_eq] at h
  omega
theorem okU_false {c : UInt8} (h : okU c = false) : ¬ ((97 ≤ (c.toNat : Int) ∧ (c.toNat : Int) ≤ 122) ∨ (48 ≤ (c.toNat : Int) ∧ (c.toNat : Int) ≤ 57)) := by
  intro g
  have : okU c = true := by
    unfold okU
    simp only [Bool.or_eq_true, Bool.and_eq_true, decide_eq_true_eq]
    omega
  rw [h] at this
  cases this
theorem name_spec_l0 (s : ByteArray) (hl : s.size ≤ 4611686018427387904) (d : Nat) : ∀ (i : Nat), i + d = s.size → Ev (fun k => spec_l1Name.l0 k s (i : Int)) ((s.data.toList.drop i).all okU && decide (1 ≤ (s.size : Int) ∧ (s.size : Int) ≤ 8)) := by
  have hs := size_list s
  induction d with
  | zero =>
    intro i h
    rw [drop_end (by omega)]
    exact ev_done fun k => by simp only [spec_l1Name.l0]; rw [if_neg (by omega), spec_l1In_is]; rfl
  | succ d ih =>
    intro i h
    have hi : i < s.data.toList.length := by omega
    rw [drop_at hi, List.all_cons]
    cases c : okU s.data.toList[i] with
    | true =>
      have hc := okU_true c
      rw [Bool.true_and]
      refine ev_step (fun k => spec_l1Name.l0 k s ((i + 1 : Nat) : Int)) (fun k => ?_) (ih (i + 1) (by omega))
      simp only [spec_l1Name.l0]; rw [if_pos (by omega), if_pos (by omega), bt_at hi, wrap_up hi (by omega)]
      by_cases h1 : ((s.data.toList[i]).toNat : Int) < 97
      · rw [if_pos h1, if_neg (by omega), if_neg (by omega)]
      · rw [if_neg h1, if_neg (by omega)]
    | false =>
      have hc := okU_false c
      rw [Bool.false_and, Bool.false_and]
      refine ev_done fun k => ?_
      simp only [spec_l1Name.l0]; rw [if_pos (by omega), if_pos (by omega), bt_at hi]
      by_cases h1 : ((s.data.toList[i]).toNat : Int) < 97
      · rw [if_pos h1]
        by_cases h2 : ((s.data.toList[i]).toNat : Int) < 48
        · rw [if_pos h2]
        · rw [if_neg h2, if_pos (by omega)]
      · rw [if_neg h1, if_pos (by omega), if_neg (by omega), if_pos (by omega)]
theorem name_spec (s : ByteArray) (hl : s.size ≤ 4611686018427387904) : Ev (fun k => spec_l1Name.f k s) (nameB s) := by
  have h := name_spec_l0 s hl s.size 0 (by omega)
  rw [List.drop_zero] at h
  exact h
theorem name_impl_l0 (s : ByteArray) (hl : s.size ≤ 4611686018427387904) (d : Nat) : ∀ (i : Nat), i + d = s.size → Ev (fun k => impl_isName.l0 k s (s.size : Int) (i : Int)) ((s.data.toList.drop i).all okU && decide (1 ≤ (s.size : Int) ∧ (s.size : Int) ≤ 8)) := by
  have hs := size_list s
  induction d with
  | zero =>
    intro i h
    rw [drop_end (by omega)]
    exact ev_done fun k => by simp only [impl_isName.l0]; rw [if_neg (by omega), impl_within_is]; rfl
  | succ d ih =>
    intro i h
    have hi : i < s.data.toList.length := by omega
    rw [drop_at hi, List.all_cons]
    cases c : okU s.data.toList[i] with
    | true =>
      have hc := okU_true c
      rw [Bool.true_and]
      refine ev_step (fun k => impl_isName.l0 k s (s.size : Int) ((i + 1 : Nat) : Int)) (fun k => ?_) (ih (i + 1) (by omega))
      simp only [impl_isName.l0]; rw [if_pos (by omega), if_pos (by omega), if_pos (by omega), bt_at hi, wrap_up hi (by omega)]
      by_cases h1 : ((s.data.toList[i]).toNat : Int) < 97
      · rw [if_pos h1, if_neg (by omega), if_neg (by omega)]
      · rw [if_neg h1, if_neg (by omega)]
    | false =>
      have hc := okU_false c
      rw [Bool.false_and, Bool.false_and]
      refine ev_done fun k => ?_
      simp only [impl_isName.l0]; rw [if_pos (by omega), if_pos (by omega), if_pos (by omega), bt_at hi]
      by_cases h1 : ((s.data.toList[i]).toNat : Int) < 97
      · rw [if_pos h1]
        by_cases h2 : ((s.data.toList[i]).toNat : Int) < 48
        · rw [if_pos h2]
        · rw [if_neg h2, if_pos (by omega)]
      · rw [if_neg h1, if_pos (by omega), if_neg (by omega), if_pos (by omega)]
theorem name_impl (s : ByteArray) (hl : s.size ≤ 4611686018427387904) : Ev (fun k => impl_isName.f k s) (nameB s) := by
  have h := name_impl_l0 s hl s.size 0 (by omega)
  rw [List.drop_zero] at h
  exact h
end Go.Proofs.YtegggpipggniaaaDoor.Pure

/- Paths: a text cut at the marks, by the program (strings.Split) and by the reference: the same; what is wrong with a path: the same, for every text. -/
namespace Go.Proofs.YtegggpipggniaaaDoor.Pure
open Go.RowKit Go.Proofs.YtegggpipggniaaaDoor.Qa Go.Proofs.YtegggpipggniaaaDoorW.PrintWords Go.Proofs.YtegggpipggniaaaDoorW.PrintLast Go.Proofs.YtegggpipggniaaaDoor.Aid

def mkB (l : List UInt8) : ByteArray := ⟨⟨l⟩⟩
theorem eq_mk {t : ByteArray} {l : List UInt8} (h : t.data.toList = l) : t = mkB l := by subst h; rfl
theorem ext_list (s : ByteArray) (a b : Nat) : (s.extract a b).data.toList = (s.data.toList.drop a).take (b - a) := by
  rw [ByteArray.data_extract, Array.toList_extract]
theorem ext_mk (s : ByteArray) (a b : Nat) : s.extract a b = mkB ((s.data.toList.drop a).take (b - a)) := eq_mk (ext_list s a b)
theorem tl (s : ByteArray) : s.toList = s.data.toList := ByteArray.toList_eq s
/-- The pieces of a text between the marks; what stands ahead goes into the first one. -/
def splF : List UInt8 → List UInt8 → List (List UInt8)
  | P, [] => [P]
  | P, c :: l => if c = 47 then P :: splF [] l else splF (P ++ [c]) l
theorem splF_len (l : List UInt8) : ∀ P, (splF P l).length = l.count 47 + 1 := by
  induction l with
  | nil => intro P; rfl
  | cons c l ih =>
    intro P
    unfold splF
    by_cases h : c = 47
    · rw [if_pos h, List.length_cons, ih, h, List.count_cons_self]
    · rw [if_neg h, ih, List.count_cons_of_ne (by simpa using h)]
theorem splF_none (l : List UInt8) : ∀ P, l.count 47 = 0 → splF P l = [P ++ l] := by
  induction l with
  | nil => intro P _; simp [splF]
  | cons c l ih =>
    intro P h
    have hc : c ≠ 47 := fun e => by rw [e, List.count_cons_self] at h; omega
    rw [List.count_cons_of_ne (by simpa using hc)] at h
    unfold splF
    rw [if_neg hc, ih _ h, List.append_assoc]
    rfl
theorem splF_some (l : List UInt8) (h : 0 < l.count 47) : ∃ p, p < l.length ∧ Lib.indexByte l 47 = (p : Int) ∧ (∀ P, splF P l = (P ++ l.take p) :: splF [] (l.drop (p + 1))) ∧ (l.drop (p + 1)).count 47 + 1 = l.count 47 := by
  induction l with
  | nil => simp at h
  | cons c l ih =>
    by_cases hc : c = 47
    · subst hc
      refine ⟨0, by simp, by unfold Lib.indexByte; rfl, fun P => ?_, by simp⟩
      rw [show splF P (47 :: l) = P :: splF [] l from if_pos rfl]
      simp
    · rw [List.count_cons_of_ne (by simpa using hc)] at h ⊢
      obtain ⟨p, h1, h2, h3, h4⟩ := ih h
      refine ⟨p + 1, by simpa using h1, ?_, fun P => ?_, by simpa using h4⟩
      · unfold Lib.indexByte
        rw [if_neg (by simpa using hc), h2, if_neg (by simp)]
        omega
      · rw [show splF P (c :: l) = splF (P ++ [c]) l from if_neg hc, h3]
        simp
/-- The reference's cut. -/
theorem cut_l0 (s : ByteArray) (hs : s.size ≤ 4398046511104) (d : Nat) : ∀ (i f : Nat) (out : List ByteArray), i + d = s.size → f ≤ i → out.length ≤ i → Ev (fun k => spec_l1Cut.l0 k s 47 out (f : Int) (i : Int)) (out ++ (splF ((s.data.toList.drop f).take (i - f)) (s.data.toList.drop i)).map mkB) := by
  have hl := size_list s
  have fin : ∀ (n f : Nat) (out : List ByteArray), s.size < n → Ev (fun k => spec_l1Cut.l0 k s 47 out (f : Int) (n : Int)) out := fun n f out hn => ev_done fun k => by simp only [spec_l1Cut.l0]; rw [if_neg (by omega)]
  induction d with
  | zero =>
    intro i f out h hf ho
    have e : s.data.toList.drop i = [] := drop_end (by omega)
    rw [e]
    have hx := ext_mk s f i
    refine ev_step (fun k => spec_l1Cut.l0 k s 47 (out ++ [s.extract f i]) ((i + 1 : Nat) : Int) ((i + 1 : Nat) : Int)) (fun k => ?_) ?_
    · simp only [spec_l1Cut.l0]; rw [if_pos (by omega), if_pos (by omega), if_pos (by omega), if_pos (by omega), if_pos (by omega), wrap_id (by omega) (by omega)]; rfl
    · rw [hx]
      exact fin _ _ _ (by omega)
  | succ d ih =>
    intro i f out h hf ho
    have hi : i < s.data.toList.length := by omega
    rw [drop_at hi]
    by_cases c : s.data.toList[i] = 47
    · rw [splF, if_pos c]
      have IH := ih (i + 1) (i + 1) (out ++ [s.extract f i]) (by omega) (by omega) (by simp; omega)
      rw [Nat.sub_self, List.take_zero] at IH
      have e : out ++ (((s.data.toList.drop f).take (i - f)) :: splF [] (s.data.toList.drop (i + 1))).map mkB = (out ++ [s.extract f i]) ++ (splF [] (s.data.toList.drop (i + 1))).map mkB := by rw [ext_mk, List.map_cons, List.append_assoc]; rfl
      rw [e]
      refine ev_step (fun k => spec_l1Cut.l0 k s 47 (out ++ [s.extract f i]) ((i + 1 : Nat) : Int) ((i + 1 : Nat) : Int)) (fun k => ?_) IH
      simp only [spec_l1Cut.l0]; rw [if_pos (by omega), if_neg (by omega), if_pos (by omega), if_pos (by omega), bt_at hi, c, if_pos (show ((UInt8.toNat 47 : Nat) : Int) = 47 from rfl), if_pos (by omega), if_pos (by omega), if_pos (by omega), wrap_up hi (by omega)]; rfl
    · rw [splF, if_neg c]
      have e : (s.data.toList.drop f).take (i - f) ++ [s.data.toList[i]] = (s.data.toList.drop f).take (i + 1 - f) := by
        rw [show i + 1 - f = (i - f) + 1 by omega, List.take_succ_eq_append_getElem (by rw [List.length_drop]; omega)]
        congr 2
        rw [List.getElem_drop]
        congr 1
        omega
      rw [e]
      refine ev_step (fun k => spec_l1Cut.l0 k s 47 out (f : Int) ((i + 1 : Nat) : Int)) (fun k => ?_) (ih (i + 1) f out (by omega) (by omega) (by omega))
      have hne : ¬ (((s.data.toList[i]).toNat : Int) = 47) := fun e => c (by
        have e2 : (s.data.toList[i]).toNat = 47 := by omega
        exact UInt8.toNat_inj.1 e2)
      simp only [spec_l1Cut.l0]; rw [if_pos (by omega), if_neg (by omega), if_pos (by omega), if_pos (by omega), bt_at hi, if_neg hne, wrap_up hi (by omega)]
def pieces (s : ByteArray) : List ByteArray := (splF [] s.data.toList).map mkB
theorem pieces_len (s : ByteArray) : (pieces s).length = s.data.toList.count 47 + 1 := by unfold pieces; rw [List.length_map, splF_len]
theorem cut_spec (s : ByteArray) (hs : s.size ≤ 4398046511104) : Ev (fun k => spec_l1Cut.f k s 47) (pieces s) := by
  have h := cut_l0 s hs s.size 0 0 [] (by omega) (by omega) (by simp)
  rw [List.nil_append, Nat.sub_self, List.take_zero, List.drop_zero] at h
  exact h
theorem w_up (p : Nat) (h : p ≤ 4611686018427387904) : wrap64 ((p : Int) + 1) = ((p + 1 : Nat) : Int) := by rw [wrap_id (by omega) (by omega)]; omega
theorem w_one (p : Nat) (h : p ≤ 4611686018427387904) : wrap64 ((p : Int) + ((⟨#[47]⟩ : ByteArray).size : Int)) = ((p + 1 : Nat) : Int) := w_up p h
theorem w_zero (p : Nat) (h : p ≤ 4611686018427387904) : wrap64 ((p : Int) + 0) = (p : Int) := by rw [Int.add_zero]; exact wrap_id (by omega) (by omega)
/-- The program's cut. -/
theorem split_l0 (n : Nat) (hn : n ≤ 4398046511104) (d : Nat) : ∀ (i : Nat) (x : ByteArray) (a : List ByteArray), x.data.toList.count 47 = d → i + d = n → a.length = n + 1 → x.size ≤ 4398046511104 → Ev (fun k => strings_genSplit.l0 k x (⟨#[47]⟩ : ByteArray) 0 (n : Int) a (i : Int)) (a.take i ++ (splF [] x.data.toList).map mkB) := by
  have ix : ∀ x : ByteArray, strings_Index.f x (⟨#[47]⟩ : ByteArray) = some (Lib.indexByte x.data.toList 47) := fun x => if_pos rfl
  induction d with
  | zero =>
    intro i x a hc h ha hx
    have e : a.take i ++ (splF [] x.data.toList).map mkB = (a.set i x).take (i + 1) := by
      rw [splF_none _ _ hc, take_set_snoc (by omega)]
      rfl
    rw [e]
    refine ev_done fun k => ?_
    have q0 : ¬ ((i : Int) < (n : Int)) := by omega
    have q1 : (0 : Int) ≤ (i : Int) := by omega
    have q2 : (i : Int) < (a.length : Int) := by omega
    have q3 : (0 : Int) ≤ ((i + 1 : Nat) : Int) := by omega
    have q4 : ((i + 1 : Nat) : Int) ≤ (a.length : Int) := by omega
    have wi := w_up i (by omega)
    simp only [strings_genSplit.l0, wi, q0, q1, q2, q3, q4, if_true, if_false, Int.toNat_natCast]
  | succ d ih =>
    intro i x a hc h ha hx
    obtain ⟨p, h1, h2, h3, h4⟩ := splF_some x.data.toList (by omega)
    have hl := size_list x
    have e1 : x.extract 0 p = mkB (x.data.toList.take p) := by rw [ext_mk]; rfl
    have e2 : (x.extract (p + 1) x.size).data.toList = x.data.toList.drop (p + 1) := by rw [ext_list, List.take_of_length_le (by rw [List.length_drop]; omega)]
    have IH := ih (i + 1) (x.extract (p + 1) x.size) (a.set i (x.extract 0 p)) (by rw [e2]; omega) (by omega) (by rw [List.length_set]; exact ha) (by rw [size_list, e2, List.length_drop]; omega)
    have e : a.take i ++ (splF [] x.data.toList).map mkB = (a.set i (x.extract 0 p)).take (i + 1) ++ (splF [] (x.extract (p + 1) x.size).data.toList).map mkB := by
      rw [e2, h3, take_set_snoc (by omega), List.append_assoc, e1]
      rfl
    rw [e]
    refine ev_step (fun k => strings_genSplit.l0 k (x.extract (p + 1) x.size) (⟨#[47]⟩ : ByteArray) 0 (n : Int) (a.set i (x.extract 0 p)) ((i + 1 : Nat) : Int)) (fun k => ?_) IH
    have q0 : (i : Int) < (n : Int) := by omega
    have q1 : (0 : Int) ≤ (i : Int) := by omega
    have q2 : (i : Int) < (a.length : Int) := by omega
    have q3 : (0 : Int) ≤ ((p + 1 : Nat) : Int) := by omega
    have q4 : ((p + 1 : Nat) : Int) ≤ (x.size : Int) := by omega
    have q5 : (0 : Int) ≤ (p : Int) := by omega
    have q6 : (p : Int) ≤ (x.size : Int) := by omega
    have q7 : ¬ ((p : Int) < 0) := by omega
    have hp_ : p ≤ 4611686018427387904 := by omega
    have hi_ : i ≤ 4611686018427387904 := by omega
    have wi := w_up i hi_
    have w1 := w_one p hp_
    have w0 := w_zero p hp_
    simp only [strings_genSplit.l0]
    rw [if_pos q0, ix, Option.bind_some, h2, if_neg q7, w0, if_pos q5, if_pos q6, if_pos q1, if_pos q2, w1, if_pos q3, if_pos q4, wi, Int.toNat_natCast, Int.toNat_natCast, Int.toNat_natCast]
theorem split_impl (s : ByteArray) (hs : s.size ≤ 1099511627776) : Ev (fun k => strings_Split.f k s (⟨#[47]⟩ : ByteArray)) (pieces s) := by
  have hl := size_list s
  have hle : s.data.toList.count 47 ≤ s.size := by rw [hl]; exact List.count_le_length
  have h := split_l0 (s.data.toList.count 47) (by omega) (s.data.toList.count 47) 0 s (List.replicate (s.data.toList.count 47 + 1) (⟨#[]⟩ : ByteArray)) rfl (by omega) (by simp) (by omega)
  have ct : strings_Count.f s (⟨#[47]⟩ : ByteArray) = some ((s.data.toList.count 47 : Nat) : Int) := if_pos rfl
  have en : wrap64 (((s.data.toList.count 47 : Nat) : Int) + 1) = ((s.data.toList.count 47 + 1 : Nat) : Int) := by rw [wrap_id (by omega) (by omega)]; omega
  have hm : mn ((s.data.toList.count 47 + 1 : Nat) : Int) (wrap64 ((s.size : Int) + 1)) = ((s.data.toList.count 47 + 1 : Nat) : Int) := by
    rw [wrap_id (by omega) (by omega)]
    unfold mn
    by_cases h : (s.size : Int) + 1 < ((s.data.toList.count 47 + 1 : Nat) : Int)
    · omega
    · rw [if_neg h]
  have hm1 : wrap64 (((s.data.toList.count 47 + 1 : Nat) : Int) - 1) = ((s.data.toList.count 47 : Nat) : Int) := by rw [wrap_id (by omega) (by omega)]; omega
  rw [List.take_zero, List.nil_append] at h
  unfold strings_Split.f
  refine ev_call (a := pieces s) ?_ (Ev.now _)
  unfold strings_genSplit.f
  refine ev_cong (fun k => (if_neg (by omega)).trans ((if_neg (by rw [tl]; simp)).trans (if_pos (by omega)))) ?_
  simp only [ct, Option.bind_some, en]
  refine ev_step _ (fun k => ?_) h
  simp only [strings_genSplit.j0]; rw [hm, if_pos (by omega), if_pos (by omega), hm1, Int.toNat_natCast]; rfl
end Go.Proofs.YtegggpipggniaaaDoor.Pure

/- What is wrong with a path: by the program and by the reference the same, for every text. -/
namespace Go.Proofs.YtegggpipggniaaaDoor.Pure
open Go.RowKit Go.Proofs.YtegggpipggniaaaDoor.Qa Go.Proofs.YtegggpipggniaaaDoorW.PrintWords Go.Proofs.YtegggpipggniaaaDoorW.PrintLast Go.Proofs.YtegggpipggniaaaDoor.Aid

theorem splF_size (l : List UInt8) : ∀ P, ∀ x ∈ splF P l, x.length ≤ P.length + l.length := by
  induction l with
  | nil => intro P x hx; rw [splF, List.mem_singleton] at hx; subst hx; omega
  | cons c l ih =>
    intro P x hx
    unfold splF at hx
    by_cases h : c = 47
    · rw [if_pos h] at hx
      rcases List.mem_cons.1 hx with rfl | hx
      · omega
      · have := ih [] x hx; simp at this ⊢; omega
    · rw [if_neg h] at hx
      have := ih _ x hx
      simp at this ⊢
      omega
theorem pieces_size (s : ByteArray) : ∀ x ∈ pieces s, x.size ≤ s.size := by
  intro x hx
  obtain ⟨l, hl, rfl⟩ := List.mem_map.1 hx
  have := splF_size s.data.toList [] l hl
  have e : (mkB l).size = l.length := rfl
  rw [List.length_nil] at this
  rw [e, size_list s]
  omega
def headR (s : ByteArray) : ByteArray := rdOf ByteArray.empty (pieces s) 0
def namesR (s : ByteArray) : List ByteArray × Bool :=
  if s.data.toList = [47] then ([], true) else if (pieces s).length < 2 then ([], false) else if (headR s).data.toList = [] then (if ((pieces s).drop 1).all nameB = true then ((pieces s).drop 1, true) else ([], false)) else ([], false)
def faultR (s : ByteArray) : Int :=
  if 24 < s.size then 2 else if s.data.toList = [47] then 0 else if 5 < (pieces s).length then 2 else if (namesR s).2 = true then 0 else 5
theorem head_bne (s : ByteArray) : ((rdOf ByteArray.empty (pieces s) 0).toList != ([] : List UInt8)) = !decide ((headR s).data.toList = []) := by
  unfold headR
  rw [tl]
  by_cases h : (rdOf ByteArray.empty (pieces s) 0).data.toList = []
  · rw [h]; rfl
  · rw [decide_eq_false h]
    exact bne_iff_ne.2 h
theorem fault_l0 (W : List ByteArray) (hW : ∀ x ∈ W, x.size ≤ 1048576) (hl : W.length ≤ 1048576) (d : Nat) : ∀ (i : Nat), i + d = W.length → Ev (fun k => impl_PathFault.l0 k W (W.length : Int) (i : Int)) (if (W.drop i).all nameB = true then 0 else 5) := by
  induction d with
  | zero =>
    intro i h
    rw [drop_end (by omega)]
    exact ev_done fun k => by simp only [impl_PathFault.l0]; rw [if_neg (by omega)]; rfl
  | succ d ih =>
    intro i h
    have hi : i < W.length := by omega
    have hx := hW W[i] (List.getElem_mem hi)
    rw [drop_at hi, List.all_cons]
    refine ev_step _ (fun k => by simp only [impl_PathFault.l0]; rw [if_pos (by omega), if_pos (by omega), if_pos (by omega), rdOf_at hi, wrap_up hi (by omega)]) (ev_call (name_impl W[i] (by omega)) ?_)
    cases c : nameB W[i] with
    | true => exact ev_cong (fun k => if_pos rfl) (by rw [Bool.true_and]; exact ih (i + 1) (by omega))
    | false => exact ev_is fun k => if_neg (by simp)
theorem names_l0 (W : List ByteArray) (hW : ∀ x ∈ W, x.size ≤ 1048576) (hl : W.length ≤ 1048576) (h1 : 1 ≤ W.length) (d : Nat) : ∀ (i : Nat), i + d = W.length → Ev (fun k => spec_l1Names.l0 k W (i : Int)) (if (W.drop i).all nameB = true then (W.drop 1, true) else ([], false)) := by
  induction d with
  | zero =>
    intro i h
    rw [drop_end (by omega)]
    exact ev_done fun k => by simp only [spec_l1Names.l0]; rw [if_neg (by omega), if_pos (by omega)]; rfl
  | succ d ih =>
    intro i h
    have hi : i < W.length := by omega
    have hx := hW W[i] (List.getElem_mem hi)
    rw [drop_at hi, List.all_cons]
    refine ev_step _ (fun k => by simp only [spec_l1Names.l0]; rw [if_pos (by omega), if_pos (by omega), rdOf_at hi, wrap_up hi (by omega)]) (ev_call (name_spec W[i] (by omega)) ?_)
    cases c : nameB W[i] with
    | true => exact ev_cong (fun k => if_pos rfl) (by rw [Bool.true_and]; exact ih (i + 1) (by omega))
    | false => exact ev_is fun k => if_neg (by simp)
theorem pieces_le (s : ByteArray) : (pieces s).length ≤ s.size + 1 := by
  have : s.data.toList.count 47 ≤ s.data.toList.length := List.count_le_length
  rw [pieces_len, size_list]
  omega
theorem names_spec (s : ByteArray) (hs : s.size ≤ 24) : Ev (fun k => spec_l1Names.f k s) (namesR s) := by
  have hl := pieces_le s
  unfold spec_l1Names.f namesR
  by_cases h : s.data.toList = [47]
  · rw [if_pos h]
    exact ev_is fun k => if_pos (by rw [tl]; exact h)
  · rw [if_neg h]
    refine ev_cong (fun k => if_neg (by rw [tl]; exact h)) (ev_call (cut_spec s (by omega)) ?_)
    by_cases h2 : (pieces s).length < 2
    · rw [if_pos h2]
      exact ev_cong (fun k => if_pos (by omega)) (ev_done fun k => by simp only [spec_l1Names.j0]; exact if_pos trivial)
    · rw [if_neg h2]
      refine ev_cong (fun k => (if_neg (by omega)).trans (if_pos (by omega))) ?_
      rw [head_bne]
      by_cases h3 : (headR s).data.toList = []
      · rw [if_pos h3]
        refine ev_step _ (fun k => by simp only [spec_l1Names.j0]; rw [if_neg (by simp [h3])]) ?_
        exact names_l0 (pieces s) (fun x hx => by have := pieces_size s x hx; omega) (by omega) (by omega) ((pieces s).length - 1) 1 (by omega)
      · rw [if_neg h3]
        exact ev_done fun k => by simp only [spec_l1Names.j0]; exact if_pos (by simp [h3])
theorem fault_spec (s : ByteArray) : Ev (fun k => spec_l1Fault.f k s) (faultR s) := by
  unfold spec_l1Fault.f faultR
  by_cases h : 24 < s.size
  · rw [if_pos h]
    exact ev_cong (fun k => if_pos (by omega)) (ev_done fun k => by simp only [spec_l1Fault.j0]; exact if_pos trivial)
  · rw [if_neg h]
    have tail : Ev (fun k => spec_l1Fault.j0 k s false) (if (namesR s).2 = true then 0 else 5) := by
      refine ev_step _ (fun k => by simp only [spec_l1Fault.j0]; rw [if_neg (by simp)]) (ev_call (names_spec s (by omega)) ?_)
      exact ev_is fun k => by by_cases h4 : (namesR s).2 = true <;> simp [h4]
    refine ev_cong (fun k => if_neg (by omega)) ?_
    by_cases h47 : s.data.toList = [47]
    · rw [if_pos h47]
      refine ev_cong (fun k => if_pos (by rw [tl]; exact h47)) ?_
      have e : (namesR s).2 = true := by unfold namesR; rw [if_pos h47]
      rw [if_pos e] at tail
      exact tail
    · rw [if_neg h47]
      refine ev_cong (fun k => if_neg (by rw [tl]; exact h47)) (ev_call (cut_spec s (by omega)) ?_)
      by_cases h5 : 5 < (pieces s).length
      · rw [if_pos h5, show decide (((pieces s).length : Int) > 5) = true from decide_eq_true (by omega)]
        exact ev_done fun k => by simp only [spec_l1Fault.j0]; exact if_pos trivial
      · rw [if_neg h5, show decide (((pieces s).length : Int) > 5) = false from decide_eq_false (by omega)]
        exact tail
theorem fault_impl (s : ByteArray) : Ev (fun k => impl_PathFault.f k s) (faultR s) := by
  unfold impl_PathFault.f faultR
  by_cases h : 24 < s.size
  · rw [if_pos h]
    exact ev_cong (fun k => if_pos (by omega)) (ev_done fun k => by simp only [impl_PathFault.j0]; exact if_pos trivial)
  · rw [if_neg h]
    have ct : strings_Count.f s (⟨#[47]⟩ : ByteArray) = some ((s.data.toList.count 47 : Nat) : Int) := if_pos rfl
    have pl := pieces_len s
    have hl := pieces_le s
    refine ev_cong (fun k => (if_neg (by omega)).trans (by rw [ct, Option.bind_some])) ?_
    by_cases h47 : s.data.toList = [47]
    · rw [if_pos h47, h47]
      refine ev_done fun k => ?_
      simp only [impl_PathFault.j0]; rw [if_neg (by decide), if_pos (by rw [tl]; exact h47)]
    · rw [if_neg h47]
      by_cases h5 : 5 < (pieces s).length
      · rw [if_pos h5, show decide (((s.data.toList.count 47 : Nat) : Int) > 4) = true from decide_eq_true (by omega)]
        exact ev_done fun k => by simp only [impl_PathFault.j0]; exact if_pos trivial
      · rw [if_neg h5, show decide (((s.data.toList.count 47 : Nat) : Int) > 4) = false from decide_eq_false (by omega)]
        refine ev_step _ (fun k => by simp only [impl_PathFault.j0]; rw [if_neg (by simp), if_neg (by rw [tl]; exact h47)]) (ev_call (split_impl s (by omega)) ?_)
        unfold namesR
        rw [if_neg h47]
        by_cases h2 : (pieces s).length < 2
        · rw [if_pos h2, if_neg (by simp)]
          exact ev_cong (fun k => if_pos (by omega)) (ev_done fun k => by simp only [impl_PathFault.j1]; exact if_pos trivial)
        · rw [if_neg h2]
          refine ev_cong (fun k => (if_neg (by omega)).trans (if_pos (by omega))) ?_
          rw [head_bne]
          by_cases h3 : (headR s).data.toList = []
          · rw [if_pos h3]
            refine ev_step _ (fun k => by simp only [impl_PathFault.j1]; rw [if_neg (by simp [h3]), if_pos (by omega), Option.bind_some]) ?_
            have := fault_l0 ((pieces s).drop 1) (fun x hx => by have := pieces_size s x (List.mem_of_mem_drop hx); omega) (by rw [List.length_drop]; omega) ((pieces s).drop 1).length 0 (by omega)
            rw [List.drop_zero] at this
            by_cases h6 : ((pieces s).drop 1).all nameB = true
            · rw [if_pos h6] at this ⊢; exact this
            · rw [if_neg h6] at this ⊢; exact this
          · rw [if_neg h3, if_neg (by simp)]
            exact ev_done fun k => by simp only [impl_PathFault.j1]; exact if_pos (by simp [h3])
/-- What is known of a path that has no fault. -/
theorem fault_zero {s : ByteArray} (h : faultR s = 0) : s.size ≤ 24 ∧ (s.data.toList = [47] ∨ s.data.toList ≠ [47] ∧ namesR s = ((pieces s).drop 1, true) ∧ 0 < s.data.toList.count 47) := by
  unfold faultR at h
  by_cases h1 : 24 < s.size
  · rw [if_pos h1] at h; omega
  · rw [if_neg h1] at h
    refine ⟨by omega, ?_⟩
    by_cases h2 : s.data.toList = [47]
    · exact .inl h2
    · rw [if_neg h2] at h
      refine .inr ⟨h2, ?_⟩
      by_cases h5 : 5 < (pieces s).length
      · rw [if_pos h5] at h; omega
      · rw [if_neg h5] at h
        have pl := pieces_len s
        by_cases h6 : (namesR s).2 = true
        · have h7 := h6
          unfold namesR at h6 ⊢
          rw [if_neg h2] at h6 ⊢
          by_cases h8 : (pieces s).length < 2
          · rw [if_pos h8] at h6; cases h6
          · rw [if_neg h8] at h6 ⊢
            by_cases h9 : (headR s).data.toList = []
            · rw [if_pos h9] at h6 ⊢
              by_cases h10 : ((pieces s).drop 1).all nameB = true
              · rw [if_pos h10]; exact ⟨rfl, by omega⟩
              · rw [if_neg h10] at h6; cases h6
            · rw [if_neg h9] at h6; cases h6
        · rw [if_neg h6] at h; omega
end Go.Proofs.YtegggpipggniaaaDoor.Pure

/- The last mark of a path: by the program (strings.LastIndex) and by the reference the same. -/
namespace Go.Proofs.YtegggpipggniaaaDoor.Pure
open Go.RowKit Go.Proofs.YtegggpipggniaaaDoor.Qa Go.Proofs.YtegggpipggniaaaDoorW.PrintWords Go.Proofs.YtegggpipggniaaaDoorW.PrintLast Go.Proofs.YtegggpipggniaaaDoor.Aid
theorem last_exists (l : List UInt8) (h : 0 < l.count 47) : ∃ (p : Nat) (hp : p < l.length), l[p] = 47 ∧ ∀ (j : Nat) (hj : j < l.length), p < j → l[j] ≠ 47 := by
  induction l with
  | nil => simp at h
  | cons c l ih =>
    by_cases h0 : 0 < l.count 47
    · obtain ⟨p, hp, h1, h2⟩ := ih h0
      refine ⟨p + 1, by simpa using hp, by simpa using h1, fun j hj hlt => ?_⟩
      cases j with
      | zero => omega
      | succ j => simpa using h2 j (by simpa using hj) (by omega)
    · have hc : c = 47 := by
        by_cases hc : c = 47
        · exact hc
        · rw [List.count_cons_of_ne (by simpa using hc)] at h
          exact absurd h h0
      refine ⟨0, by simp, by simpa using hc, fun j hj hlt => ?_⟩
      cases j with
      | zero => omega
      | succ j =>
        intro e
        have e' : l[j]'(by simpa using hj) = 47 := by simpa using e
        exact h0 (List.count_pos_iff.2 (e' ▸ List.getElem_mem _))
theorem ne_int {c : UInt8} (h : c ≠ 47) : ¬ ((c.toNat : Int) = 47) := fun e => h (by
  have e2 : c.toNat = 47 := by omega
  exact UInt8.toNat_inj.1 e2)
theorem last_spec_l0 (s : ByteArray) (hs : s.size ≤ 24) (p : Nat) (hp : p < s.data.toList.length) (h1 : s.data.toList[p] = 47) (h2 : ∀ (j : Nat) (hj : j < s.data.toList.length), p < j → s.data.toList[j] ≠ 47) (d : Nat) : ∀ (i : Nat) (x : Int), i + d = s.size → (p < i → x = (p : Int)) → Ev (fun k => spec_l1Last.l0 k s x (i : Int)) (p : Int) := by
  have hl := size_list s
  induction d with
  | zero =>
    intro i x h hx
    rw [hx (by omega)]
    exact ev_done fun k => by simp only [spec_l1Last.l0]; rw [if_neg (by omega)]
  | succ d ih =>
    intro i x h hx
    have hi : i < s.data.toList.length := by omega
    have q0 : (i : Int) < (s.size : Int) := by omega
    have q1 : (0 : Int) ≤ (i : Int) := by omega
    have wi := w_up i (by omega)
    by_cases c : s.data.toList[i] = 47
    · have hip : ¬ p < i := fun hlt => h2 i hi hlt c
      refine ev_step (fun k => spec_l1Last.l0 k s (i : Int) ((i + 1 : Nat) : Int)) (fun k => ?_) (ih (i + 1) (i : Int) (by omega) (fun hlt => by omega))
      simp only [spec_l1Last.l0]; rw [if_pos q0, if_pos q1, bt_at hi, c, if_pos (show ((UInt8.toNat 47 : Nat) : Int) = 47 from rfl), wi]
    · have hip : i ≠ p := fun e => c (by subst e; exact h1)
      refine ev_step (fun k => spec_l1Last.l0 k s x ((i + 1 : Nat) : Int)) (fun k => ?_) (ih (i + 1) x (by omega) (fun hlt => hx (by omega)))
      simp only [spec_l1Last.l0]; rw [if_pos q0, if_pos q1, bt_at hi, if_neg (ne_int c), wi]
theorem last_impl_l0 (s : ByteArray) (hs : s.size ≤ 24) (p : Nat) (hp : p < s.data.toList.length) (h1 : s.data.toList[p] = 47) (h2 : ∀ (j : Nat) (hj : j < s.data.toList.length), p < j → s.data.toList[j] ≠ 47) (d : Nat) : p + d < s.data.toList.length → Ev (fun k => bytealg_LastIndexByteString.l0 k s 47 ((p + d : Nat) : Int)) (p : Int) := by
  have hl := size_list s
  induction d with
  | zero =>
    intro _
    have q0 : ((p + 0 : Nat) : Int) < (s.size : Int) := by omega
    have q1 : (0 : Int) ≤ ((p + 0 : Nat) : Int) := by omega
    refine ev_done fun k => ?_
    simp only [bytealg_LastIndexByteString.l0]; rw [if_pos q1, if_pos q1, if_pos q0, bt_at (show p + 0 < s.data.toList.length from hp), if_pos (by simp only [Nat.add_zero, h1]; rfl)]
    rfl
  | succ d ih =>
    intro hd
    have q0 : ((p + (d + 1) : Nat) : Int) < (s.size : Int) := by omega
    have q1 : (0 : Int) ≤ ((p + (d + 1) : Nat) : Int) := by omega
    have wi : wrap64 (((p + (d + 1) : Nat) : Int) - 1) = ((p + d : Nat) : Int) := by rw [wrap_id (by omega) (by omega)]; omega
    refine ev_step (fun k => bytealg_LastIndexByteString.l0 k s 47 ((p + d : Nat) : Int)) (fun k => ?_) (ih (by omega))
    simp only [bytealg_LastIndexByteString.l0]; rw [if_pos q1, if_pos q1, if_pos q0, bt_at hd, if_neg (ne_int (h2 _ hd (by omega))), wi]
/-- Where the last mark is. -/
theorem last_both (s : ByteArray) (hs : s.size ≤ 24) (h : 0 < s.data.toList.count 47) : ∃ (p : Nat) (hp : p < s.data.toList.length), s.data.toList[p] = 47 ∧ Ev (fun k => spec_l1Last.f k s) (p : Int) ∧ Ev (fun k => strings_LastIndex.f k s (⟨#[47]⟩ : ByteArray)) (p : Int) := by
  have hl := size_list s
  obtain ⟨p, hp, h1, h2⟩ := last_exists _ h
  refine ⟨p, hp, h1, last_spec_l0 s hs p hp h1 h2 s.size 0 0 (by omega) (fun h => by omega), ?_⟩
  have hd := last_impl_l0 s hs p hp h1 h2 (s.data.toList.length - 1 - p) (by omega)
  have e : wrap64 ((s.size : Int) - 1) = ((p + (s.data.toList.length - 1 - p) : Nat) : Int) := by rw [wrap_id (by omega) (by omega)]; omega
  have e1 : ((⟨#[47]⟩ : ByteArray).size : Int) = 1 := rfl
  have e2 : bt (⟨#[47]⟩ : ByteArray) 0 = 47 := rfl
  unfold strings_LastIndex.f
  rw [e1, e2]
  refine ev_cong (fun k => (if_neg (by omega)).trans ((if_pos rfl).trans (if_pos (by omega)))) (ev_call (a := (p : Int)) ?_ (Ev.now _))
  unfold bytealg_LastIndexByteString.f
  rw [e]
  exact hd
theorem parted_both (s : ByteArray) (hs : s.size ≤ 24) (h : 0 < s.data.toList.count 47) : ∃ (u n : ByteArray), Ev (fun k => impl_parted.f k s) (u, n) ∧ (∃ p : Nat, p < s.size ∧ n = s.extract (p + 1) s.size ∧ u = (if p = 0 then (⟨#[47]⟩ : ByteArray) else s.extract 0 p) ∧ Ev (fun k => spec_l1Last.f k s) (p : Int)) := by
  have hl := size_list s
  obtain ⟨p, hp, h1, h2, h3⟩ := last_both s hs h
  have hz : s.extract 0 1 = mkB [s.data.toList[0]] := by
    rw [ext_mk]
    congr 1
    rw [show (1 : Nat) - 0 = 0 + 1 from rfl, List.drop_zero, List.take_succ_eq_append_getElem (by omega)]
    rfl
  refine ⟨if p = 0 then (⟨#[47]⟩ : ByteArray) else s.extract 0 p, s.extract (p + 1) s.size, ?_, p, by omega, rfl, rfl, h2⟩
  unfold impl_parted.f
  refine ev_call h3 (ev_is fun k => ?_)
  have wi := w_up p (by omega)
  have q3 : (0 : Int) ≤ ((p + 1 : Nat) : Int) := by omega
  have q4 : ((p + 1 : Nat) : Int) ≤ (s.size : Int) := by omega
  by_cases c : p = 0
  · subst c
    have m : mx ((0 : Nat) : Int) 1 = 1 := rfl
    rw [m, if_pos (by omega), if_pos (by omega), wi, if_pos q3, if_pos q4, if_pos rfl, show ((1 : Int).toNat) = 1 from rfl, hz, h1, Int.toNat_natCast]
    rfl
  · have m : mx (p : Int) 1 = (p : Int) := by unfold mx; rw [if_neg (by omega)]
    rw [m, if_pos (by omega), if_pos (by omega), wi, if_pos q3, if_pos q4, if_neg c, Int.toNat_natCast, Int.toNat_natCast]
end Go.Proofs.YtegggpipggniaaaDoor.Pure

/- Texts in order: what a comparison of two texts says of their bytes; searches in rising lists. -/
namespace Go.Proofs.YtegggpipggniaaaDoor.Aid
open Go.RowKit Go.Proofs.YtegggpipggniaaaDoorW.PrintWords

theorem u8_tri (a b : UInt8) (h1 : ¬ a < b) (h2 : ¬ b < a) : a = b := by
  have e1 : ¬ a.toNat < b.toNat := h1
  have e2 : ¬ b.toNat < a.toNat := h2
  exact UInt8.toNat_inj.1 (by omega)
theorem bl_lt : ∀ (x y : List UInt8), Op.bytesLess x y = decide (x < y)
  | [], [] => by simp [Op.bytesLess]
  | _ :: _, [] => by simp [Op.bytesLess]
  | [], _ :: _ => by simp [Op.bytesLess]
  | a :: x, b :: y => by
    rw [Op.bytesLess, bl_lt x y]
    rw [Bool.eq_iff_iff]
    simp [List.cons_lt_cons_iff]
theorem cmp_is : ∀ (x y : List UInt8), Lib.compareBytes x y = if x < y then -1 else if x = y then 0 else 1
  | [], [] => by simp [Lib.compareBytes]
  | _ :: _, [] => by simp [Lib.compareBytes]
  | [], _ :: _ => by simp [Lib.compareBytes]
  | a :: x, b :: y => by
    rw [Lib.compareBytes, cmp_is x y]
    by_cases h1 : a < b
    · rw [if_pos h1, if_pos (List.cons_lt_cons_iff.2 (.inl h1))]
    · rw [if_neg h1]
      by_cases h2 : b < a
      · have hne : a ≠ b := fun e => by subst e; exact h1 h2
        rw [if_pos h2, if_neg (fun h => by
          rcases List.cons_lt_cons_iff.1 h with h | ⟨h, _⟩
          · exact h1 h
          · exact hne h), if_neg (fun h => hne (List.cons.inj h).1)]
      · have e := u8_tri a b h1 h2
        subst e
        rw [if_neg h2]
        by_cases h3 : x < y
        · rw [if_pos h3, if_pos (List.cons_lt_cons_iff.2 (.inr ⟨rfl, h3⟩))]
        · have h5 : ¬ (a :: x < a :: y) := fun h => by
            rcases List.cons_lt_cons_iff.1 h with h | ⟨_, h⟩
            · exact h1 h
            · exact h3 h
          rw [if_neg h3, if_neg h5]
          by_cases h4 : x = y
          · subst h4
            rw [if_pos rfl, if_pos rfl]
          · have h6 : ¬ (a :: x = a :: y) := fun h => h4 (List.cons.inj h).2
            rw [if_neg h4, if_neg h6]
theorem lt_irr (x : List UInt8) : ¬ x < x := List.lt_irrefl x
theorem lt_tr {x y z : List UInt8} (h : x < y) (k : y < z) : x < z := List.lt_trans h k
theorem lt_tri {x y : List UInt8} (h : ¬ x < y) (k : ¬ x = y) : y < x := by
  have := cmp_is x y
  rw [if_neg h, if_neg k] at this
  rcases Decidable.em (y < x) with c | c
  · exact c
  · exact absurd (List.le_antisymm c h) k
theorem ba_ext {a b : ByteArray} (h : a.data.toList = b.data.toList) : a = b := by
  obtain ⟨⟨a⟩⟩ := a
  obtain ⟨⟨b⟩⟩ := b
  exact congrArg (fun l => (⟨⟨l⟩⟩ : ByteArray)) h
/-- The place of a key in a list that rises. -/
def posK {α : Type} (key : α → List UInt8) (l : List α) (q : List UInt8) : Nat := (l.takeWhile (fun z => decide (key z < q))).length
def hereK {α : Type} (key : α → List UInt8) (l : List α) (q : List UInt8) : Bool := match l[posK key l q]? with
  | some z => decide (key z = q)
  | none => false
def Rises {α : Type} (key : α → List UInt8) (l : List α) : Prop := l.Pairwise (fun x y => key x < key y)
theorem posK_le {α : Type} (key : α → List UInt8) (l : List α) (q : List UInt8) : posK key l q ≤ l.length := take_pos_le _ l
theorem posK_iff {α : Type} {key : α → List UInt8} {l : List α} (h : Rises key l) (q : List UInt8) (j : Nat) (hj : j < l.length) : key l[j] < q ↔ j < posK key l q := by
  have := take_pos (fun z : α => decide (key z < q)) l (h.imp (fun {x y} hxy hy => decide_eq_true (lt_tr hxy (of_decide_eq_true hy)))) j hj
  rw [decide_eq_true_eq] at this
  exact this
theorem hereK_lt {α : Type} {key : α → List UInt8} {l : List α} {q : List UInt8} (h : hereK key l q = true) : posK key l q < l.length := by
  unfold hereK at h
  cases hp : l[posK key l q]? with
  | none => rw [hp] at h; cases h
  | some s => exact (List.getElem?_eq_some_iff.1 hp).1
theorem hereK_eq {α : Type} {key : α → List UInt8} {l : List α} {q : List UInt8} (h : hereK key l q = true) : key (l[posK key l q]'(hereK_lt h)) = q := by
  have hp := hereK_lt h
  unfold hereK at h
  rw [List.getElem?_eq_getElem hp] at h
  exact of_decide_eq_true h
theorem hereK_at {α : Type} {key : α → List UInt8} {l : List α} (h : Rises key l) (j : Nat) (hj : j < l.length) : posK key l (key l[j]) = j ∧ hereK key l (key l[j]) = true := by
  have h1 := (posK_iff h (key l[j]) j hj)
  have h2 : ¬ j < posK key l (key l[j]) := fun c => lt_irr _ (h1.2 c)
  have h3 : ¬ posK key l (key l[j]) < j := fun c => by
    have hp : posK key l (key l[j]) < l.length := by omega
    have := (List.pairwise_iff_getElem.1 h) _ _ hp hj c
    have := (posK_iff h (key l[j]) _ hp).1 this
    omega
  have e : posK key l (key l[j]) = j := by omega
  refine ⟨e, ?_⟩
  unfold hereK
  rw [e, List.getElem?_eq_getElem hj]
  exact decide_eq_true rfl
theorem hereK_mem {α : Type} {key : α → List UInt8} {l : List α} (h : Rises key l) {z : α} (hz : z ∈ l) : hereK key l (key z) = true := by
  obtain ⟨j, hj, rfl⟩ := List.getElem_of_mem hz
  exact (hereK_at h j hj).2
/-- Behind its place all are greater. -/
theorem posK_gt {α : Type} {key : α → List UInt8} {l : List α} (h : Rises key l) (q : List UInt8) (hq : hereK key l q = false) (j : Nat) (hj : j < l.length) : key l[j] ≠ q := by
  intro e
  have := (hereK_at h j hj).2
  rw [e, hq] at this
  cases this
end Go.Proofs.YtegggpipggniaaaDoor.Aid

/- What is wrong with a tree, in plain words of lists; paths' parents. -/
namespace Go.Proofs.YtegggpipggniaaaDoor.Pure
open Go.RowKit Go.Proofs.YtegggpipggniaaaDoor.Qa Go.Proofs.YtegggpipggniaaaDoorW.PrintWords Go.Proofs.YtegggpipggniaaaDoorW.PrintLast Go.Proofs.YtegggpipggniaaaDoor.Aid

theorem splF_head : ∀ (l P : List UInt8), P ≠ [] → ∃ x r, splF P l = x :: r ∧ x ≠ []
  | [], P, h => ⟨P, [], rfl, h⟩
  | c :: l, P, h => by
    unfold splF
    by_cases hc : c = 47
    · rw [if_pos hc]; exact ⟨P, _, rfl, h⟩
    · rw [if_neg hc]; exact splF_head l _ (by simp)
/-- A path that has no fault begins with a mark. -/
theorem path_mark {s : ByteArray} (h : faultR s = 0) : s.size ≤ 24 ∧ (∃ t, s.data.toList = 47 :: t) ∧ 0 < s.data.toList.count 47 := by
  have hl := size_list s
  obtain ⟨h1, h2⟩ := fault_zero h
  refine ⟨h1, ?_⟩
  rcases h2 with h2 | ⟨h2, h3, h4⟩
  · rw [h2]; exact ⟨⟨[], rfl⟩, by decide⟩
  · refine ⟨?_, h4⟩
    have hn : (namesR s).2 = true := by rw [h3]
    unfold namesR at hn
    rw [if_neg h2] at hn
    by_cases h5 : (pieces s).length < 2
    · rw [if_pos h5] at hn; cases hn
    · rw [if_neg h5] at hn
      by_cases h6 : (headR s).data.toList = []
      · cases hs : s.data.toList with
        | nil => rw [hs] at h4; simp at h4
        | cons c t =>
          by_cases hc : c = 47
          · exact ⟨t, by rw [hc]⟩
          · exfalso
            obtain ⟨x, r, hx, hne⟩ := splF_head t [c] (by simp)
            have e : pieces s = (x :: r).map mkB := by
              unfold pieces
              rw [hs, splF, if_neg hc, List.nil_append, hx]
            unfold headR at h6
            rw [e, List.map_cons] at h6
            exact hne h6
      · rw [if_neg h6] at hn; cases hn

/-- The parent and the last name of a path. -/
theorem up_ex (s : ByteArray) (h : faultR s = 0) : ∃ un : ByteArray × ByteArray, Ev (fun k => impl_parted.f k s) un ∧ ∃ p : Nat, p < s.size ∧ un.2 = s.extract (p + 1) s.size ∧ un.1 = (if p = 0 then (⟨#[47]⟩ : ByteArray) else s.extract 0 p) ∧ Ev (fun k => spec_l1Last.f k s) (p : Int) := by
  obtain ⟨h1, _, h3⟩ := path_mark h
  obtain ⟨u, n, h4, p, h5⟩ := parted_both s h1 h3
  exact ⟨(u, n), h4, p, h5⟩
open Classical in
noncomputable def upN (s : ByteArray) : ByteArray × ByteArray := if h : faultR s = 0 then (up_ex s h).choose else (⟨#[]⟩, ⟨#[]⟩)
noncomputable def upR (s : ByteArray) : ByteArray := (upN s).1
noncomputable def nmR (s : ByteArray) : ByteArray := (upN s).2
theorem upN_spec {s : ByteArray} (h : faultR s = 0) : Ev (fun k => impl_parted.f k s) (upN s) ∧ ∃ p : Nat, p < s.size ∧ nmR s = s.extract (p + 1) s.size ∧ upR s = (if p = 0 then (⟨#[47]⟩ : ByteArray) else s.extract 0 p) ∧ Ev (fun k => spec_l1Last.f k s) (p : Int) := by
  unfold nmR upR upN
  rw [dif_pos h]
  exact (up_ex s h).choose_spec
theorem parted_is {s : ByteArray} (h : faultR s = 0) : Ev (fun k => impl_parted.f k s) (upR s, nmR s) := (upN_spec h).1
theorem parent_is {s : ByteArray} (h : faultR s = 0) : Ev (fun k => spec_l1Parent.f k s) (upR s) := by
  obtain ⟨_, p, h6, _, h8, h9⟩ := upN_spec h
  unfold spec_l1Parent.f
  refine ev_call h9 (ev_is fun k => ?_)
  rw [h8]
  by_cases c : p = 0
  · rw [if_pos (by omega), if_pos c]
  · rw [if_neg (by omega), if_pos (by omega), if_pos (by omega), if_neg c, Int.toNat_natCast]
theorem upR_size {s : ByteArray} (h : faultR s = 0) : (upR s).size ≤ 24 ∧ (nmR s).size ≤ 24 := by
  obtain ⟨_, p, h6, h7, h8, _⟩ := upN_spec h
  have := (path_mark h).1
  have sz : ∀ a b : Nat, b ≤ 24 → (s.extract a b).size ≤ 24 := fun a b hb => by
    rw [size_list, ext_list, List.length_take, List.length_drop]
    omega
  rw [h7, h8]
  refine ⟨?_, sz _ _ this⟩
  by_cases c : p = 0
  · rw [if_pos c]; decide
  · rw [if_neg c]; exact sz _ _ (by omega)
theorem top_fault : faultR (⟨#[47]⟩ : ByteArray) = 0 := by unfold faultR; decide
theorem upR_top (s : ByteArray) (hs : s.data.toList = [47]) : upR s = (⟨#[47]⟩ : ByteArray) := by
  have h : faultR s = 0 := by unfold faultR; rw [if_neg (by rw [size_list, hs]; decide), if_pos hs]
  obtain ⟨_, p, h6, _, h8, _⟩ := upN_spec h
  rw [size_list, hs] at h6
  rw [h8, if_pos (by simpa using h6)]

abbrev ZZ := S32
def pk (z : ZZ) : List UInt8 := z.f0.data.toList
def zIn (z : ZZ) : Bool := decide (0 ≤ z.f1 ∧ z.f1 ≤ 9999) && (decide (0 ≤ z.f2 ∧ z.f2 ≤ 999) && (decide (0 ≤ z.f3 ∧ z.f3 ≤ 9) && decide (0 ≤ z.f4 ∧ z.f4 ≤ 100)))
/-- What is wrong with one node. -/
def zOwn (z : ZZ) : Int := if faultR z.f0 = 0 then (if zIn z = true then 0 else 3) else faultR z.f0
def zOne (prev : Option (List UInt8)) (z : ZZ) : Int := if zOwn z = 0 then (match prev with
  | some p => if p < pk z then 0 else 1
  | none => 0) else zOwn z
def zFrom : Option (List UInt8) → List ZZ → Int
  | _, [] => 0
  | prev, z :: r => if zOne prev z = 0 then zFrom (some (pk z)) r else zOne prev z
theorem zFrom_cons {prev : Option (List UInt8)} {z : ZZ} {r : List ZZ} : zFrom prev (z :: r) = if zOne prev z = 0 then zFrom (some (pk z)) r else zOne prev z := rfl
theorem zOwn_ok {z : ZZ} (h : zOwn z = 0) : faultR z.f0 = 0 ∧ zIn z = true := by
  unfold zOwn at h
  by_cases h1 : faultR z.f0 = 0
  · rw [if_pos h1] at h
    by_cases h2 : zIn z = true
    · exact ⟨h1, h2⟩
    · rw [if_neg h2] at h; cases h
  · rw [if_neg h1] at h; exact absurd h h1
theorem zFrom_ok : ∀ (l : List ZZ) (prev : Option (List UInt8)), zFrom prev l = 0 → (∀ z ∈ l, zOwn z = 0) ∧ Rises pk l ∧ ∀ p, prev = some p → ∀ z ∈ l, p < pk z
  | [], _, _ => ⟨by simp, List.Pairwise.nil, by simp⟩
  | z :: r, prev, h => by
    rw [zFrom_cons] at h
    by_cases h1 : zOne prev z = 0
    · rw [if_pos h1] at h
      obtain ⟨g1, g2, g3⟩ := zFrom_ok r (some (pk z)) h
      have hg : zOwn z = 0 := by
        unfold zOne at h1
        by_cases c : zOwn z = 0
        · exact c
        · rw [if_neg c] at h1; exact h1
      have hp : ∀ p, prev = some p → p < pk z := by
        intro p hp
        subst hp
        unfold zOne at h1
        rw [if_pos hg] at h1
        by_cases c : p < pk z
        · exact c
        · simp [c] at h1
      refine ⟨?_, List.pairwise_cons.2 ⟨fun y hy => g3 _ rfl y hy, g2⟩, ?_⟩
      · intro x hx
        rcases List.mem_cons.1 hx with rfl | hx
        · exact hg
        · exact g1 x hx
      · intro p he x hx
        rcases List.mem_cons.1 hx with rfl | hx
        · exact hp p he
        · exact lt_tr (hp p he) (g3 _ rfl x hx)
    · rw [if_neg h1] at h; exact absurd h h1
noncomputable def upK (z : ZZ) : List UInt8 := (upR z.f0).data.toList
noncomputable def upHere (l : List ZZ) (z : ZZ) : Bool := hereK pk l (upK z)
noncomputable def upOwn (l : List ZZ) (z : ZZ) : Bool := !decide ((rd_T32 l (posK pk l (upK z) : Int)).f3 = 0)
/-- What is wrong with a tree. -/
noncomputable def treeR (l : List ZZ) : Int :=
  if l.length > 20 then 2 else if zFrom none l = 0 then
    (if hereK pk l [47] = true then (if l.all (upHere l) = true then (if l.any (upOwn l) = true then 1 else 0) else 4) else 4)
  else zFrom none l
/-- A tree that has no fault. -/
structure RightT (l : List ZZ) : Prop where
  few : l.length ≤ 20
  good : ∀ z ∈ l, zOwn z = 0
  rise : Rises pk l
  top : hereK pk l [47] = true
  ups : ∀ z ∈ l, upHere l z = true
  free : ∀ z ∈ l, upOwn l z = false
theorem right_of {l : List ZZ} (h : treeR l = 0) : RightT l := by
  unfold treeR at h
  by_cases h1 : l.length > 20
  · rw [if_pos h1] at h; cases h
  · rw [if_neg h1] at h
    by_cases h2 : zFrom none l = 0
    · rw [if_pos h2] at h
      obtain ⟨g1, g2, _⟩ := zFrom_ok l none h2
      by_cases h3 : hereK pk l [47] = true
      · rw [if_pos h3] at h
        by_cases h4 : l.all (upHere l) = true
        · rw [if_pos h4] at h
          by_cases h5 : l.any (upOwn l) = true
          · rw [if_pos h5] at h; cases h
          · refine ⟨by omega, g1, g2, h3, List.all_eq_true.1 h4, fun z hz => ?_⟩
            cases c : upOwn l z with
            | false => rfl
            | true => exact absurd (List.any_eq_true.2 ⟨z, hz, c⟩) h5
        · rw [if_neg h4] at h; cases h
      · rw [if_neg h3] at h; cases h
    · rw [if_neg h2] at h; exact absurd h h2
theorem RightT.zero {l : List ZZ} (h : RightT l) (hz : zFrom none l = 0) : treeR l = 0 := by
  unfold treeR
  rw [if_neg (by have := h.few; omega), if_pos hz, if_pos h.top, if_pos (List.all_eq_true.2 h.ups), if_neg (fun c => by
    obtain ⟨z, hz, c⟩ := List.any_eq_true.1 c
    rw [h.free z hz] at c
    cases c)]
theorem top_first {l : List ZZ} (hg : ∀ z ∈ l, zOwn z = 0) (hr : Rises pk l) (h : hereK pk l [47] = true) : posK pk l [47] = 0 := by
  have hp := hereK_lt h
  have h0 : 0 < l.length := by omega
  have hn : ¬ pk l[0] < [47] := by
    obtain ⟨_, ⟨t, ht⟩, _⟩ := path_mark (zOwn_ok (hg _ (List.getElem_mem h0))).1
    unfold pk
    rw [ht]
    intro c
    rcases List.cons_lt_cons_iff.1 c with c | ⟨_, c⟩
    · exact UInt8.lt_irrefl _ c
    · exact absurd c (by simp)
  have := (not_congr (posK_iff hr [47] 0 h0)).1 hn
  omega
end Go.Proofs.YtegggpipggniaaaDoor.Pure

/- What is wrong with a tree: by the program (a search by halves) and by the reference (one by one) the same, for every list of nodes. -/
namespace Go.Proofs.YtegggpipggniaaaDoor.Pure
open Go.RowKit Go.Proofs.YtegggpipggniaaaDoor.Qa Go.Proofs.YtegggpipggniaaaDoorW.PrintWords Go.Proofs.YtegggpipggniaaaDoorW.PrintLast Go.Proofs.YtegggpipggniaaaDoor.Aid

theorem bl_pk (a b : ByteArray) : (Op.bytesLess a.toList b.toList = true) = (a.data.toList < b.data.toList) := by
  rw [tl, tl, bl_lt]
  exact decide_eq_true_eq
theorem order_is (z : ZZ) (q : ByteArray) : impl_pathOrder.f z.f0 z.f1 z.f2 z.f3 z.f4 q = some (if pk z < q.data.toList then -1 else if pk z = q.data.toList then 0 else 1) := by
  unfold impl_pathOrder.f strings_Compare.f
  rw [cmp_is]
  rfl
/-- The search by halves. -/
theorem find_l0 {l : List ZZ} (h : Rises pk l) (hl : l.length ≤ 1048576000) (q : ByteArray) (d : Nat) : ∀ (lo hi : Nat), hi - lo ≤ d → lo ≤ posK pk l q.data.toList → posK pk l q.data.toList ≤ hi → hi ≤ l.length → Ev (fun k => slices_BinarySearchFunc_impl_Znode_impl_Znode_string.l0 k l q (l.length : Int) (lo : Int) (hi : Int)) ((posK pk l q.data.toList : Int), hereK pk l q.data.toList) := by
  induction d with
  | zero =>
    intro lo hi hd h1 h2 h3
    have e : lo = posK pk l q.data.toList := by omega
    subst e
    refine ev_done fun k => ?_
    simp only [slices_BinarySearchFunc_impl_Znode_impl_Znode_string.l0]
    rw [if_neg (by omega)]
    by_cases hp : posK pk l q.data.toList < l.length
    · rw [if_pos (by omega), if_pos (by omega), if_pos (by omega), rd_T32_at hp, order_is, Option.bind_some]
      have hn : ¬ pk (l[posK pk l q.data.toList]) < q.data.toList := fun c => by have := (posK_iff h q.data.toList _ hp).1 c; omega
      have e : hereK pk l q.data.toList = decide (pk (l[posK pk l q.data.toList]) = q.data.toList) := by unfold hereK; rw [List.getElem?_eq_getElem hp]
      rw [e, if_neg hn]
      by_cases c : pk (l[posK pk l q.data.toList]) = q.data.toList
      · rw [if_pos c, decide_eq_true c]; rfl
      · rw [if_neg c, decide_eq_false c]; rfl
    · rw [if_neg (by omega)]
      have e : hereK pk l q.data.toList = false := by unfold hereK; rw [List.getElem?_eq_none (by omega)]
      rw [e]
  | succ d ih =>
    intro lo hi hd h1 h2 h3
    by_cases hlt : lo < hi
    · have hm : (lo + hi) / 2 < l.length := by omega
      have hiff := posK_iff h q.data.toList _ hm
      have hmid := mid_eq (a := lo) (b := hi) (by omega)
      by_cases c : pk (l[(lo + hi) / 2]) < q.data.toList
      · refine ev_step (fun k => slices_BinarySearchFunc_impl_Znode_impl_Znode_string.l0 k l q (l.length : Int) (((lo + hi) / 2 + 1 : Nat) : Int) (hi : Int)) (fun k => ?_) (ih _ _ (by omega) (by have := hiff.1 c; omega) h2 h3)
        simp only [slices_BinarySearchFunc_impl_Znode_impl_Znode_string.l0]
        rw [hmid, if_pos (by omega), if_pos (by omega), if_pos (by omega), rd_T32_at hm, order_is, if_pos c, Option.bind_some, if_pos (by omega), wrap_up hm (by omega)]
      · refine ev_step (fun k => slices_BinarySearchFunc_impl_Znode_impl_Znode_string.l0 k l q (l.length : Int) (lo : Int) (((lo + hi) / 2 : Nat) : Int)) (fun k => ?_) (ih _ _ (by omega) h1 (by have := (not_congr hiff).1 c; omega) (by omega))
        simp only [slices_BinarySearchFunc_impl_Znode_impl_Znode_string.l0]
        rw [hmid, if_pos (by omega), if_pos (by omega), if_pos (by omega), rd_T32_at hm, order_is, if_neg c, Option.bind_some, if_neg (by split <;> omega)]
    · exact (fun e : hi - lo ≤ d => ih lo hi e h1 h2 h3) (by omega)
theorem find_is {l : List ZZ} (h : Rises pk l) (hl : l.length ≤ 1048576000) (q : ByteArray) : Ev (fun k => impl_find.f k l q) ((posK pk l q.data.toList : Int), hereK pk l q.data.toList) := by
  unfold impl_find.f slices_BinarySearchFunc_impl_Znode_impl_Znode_string.f
  exact ev_call (find_l0 h hl q l.length 0 l.length (by omega) (by omega) (posK_le pk l _) (Nat.le_refl _)) (Ev.now _)
/-- One by one. -/
theorem at_l0 {l : List ZZ} (h : Rises pk l) (hl : l.length ≤ 1048576000) (q : ByteArray) (d : Nat) : ∀ (i : Nat), i + d = l.length → (hereK pk l q.data.toList = true → i ≤ posK pk l q.data.toList) → Ev (fun k => spec_l2At.l0 k l q (i : Int)) (if hereK pk l q.data.toList then (posK pk l q.data.toList : Int) else -1) := by
  induction d with
  | zero =>
    intro i hd hi
    have e : hereK pk l q.data.toList = false := by
      cases c : hereK pk l q.data.toList with
      | false => rfl
      | true => have := hereK_lt c; have := hi c; omega
    rw [e]
    exact ev_done fun k => by simp only [spec_l2At.l0]; rw [if_neg (by omega)]; rfl
  | succ d ih =>
    intro i hd hi
    have hil : i < l.length := by omega
    by_cases c : pk l[i] = q.data.toList
    · obtain ⟨e1, e2⟩ := hereK_at h i hil
      rw [c] at e1 e2
      rw [e2, e1]
      exact ev_done fun k => by simp only [spec_l2At.l0]; rw [if_pos (by omega), if_pos (by omega), rd_T32_at hil, tl, tl, if_pos (show (l[i]).f0.data.toList = q.data.toList from c)]; rfl
    · refine ev_step (fun k => spec_l2At.l0 k l q ((i + 1 : Nat) : Int)) (fun k => ?_) (ih (i + 1) (by omega) (fun hh => ?_))
      · simp only [spec_l2At.l0]; rw [if_pos (by omega), if_pos (by omega), rd_T32_at hil, tl, tl, if_neg (show ¬ (l[i]).f0.data.toList = q.data.toList from c), wrap_up hil (by omega)]
      · have h1 := hi hh
        have h2 := hereK_eq hh
        have : i ≠ posK pk l q.data.toList := fun e => c (by
          have : ∀ (j : Nat) (hj : j < l.length), i = j → pk l[j] = q.data.toList → pk l[i] = q.data.toList := fun j hj e => by subst e; exact id
          exact this _ (hereK_lt hh) e h2)
        omega
theorem at_is {l : List ZZ} (h : Rises pk l) (hl : l.length ≤ 1048576000) (q : ByteArray) : Ev (fun k => spec_l2At.f k l q) (if hereK pk l q.data.toList then (posK pk l q.data.toList : Int) else -1) := at_l0 h hl q l.length 0 (by omega) (fun _ => Nat.zero_le _)

/-- One node, by the program. -/
theorem nodeFault_is (z : ZZ) : Ev (fun k => impl_nodeFault.f k z.f0 z.f1 z.f2 z.f3 z.f4) (zOwn z) := by
  unfold impl_nodeFault.f zOwn
  refine ev_call (fault_impl z.f0) (ev_is fun k => ?_)
  by_cases h : faultR z.f0 = 0
  · rw [if_pos h, if_pos h]
    unfold impl_isData.f impl_isOwner.f zIn
    rw [impl_within_is, impl_within_is, impl_within_is, impl_within_is]
    by_cases c1 : 0 ≤ z.f1 ∧ z.f1 ≤ 9999 <;> by_cases c2 : 0 ≤ z.f2 ∧ z.f2 ≤ 999 <;> by_cases c3 : 0 ≤ z.f3 ∧ z.f3 ≤ 9 <;> by_cases c4 : 0 ≤ z.f4 ∧ z.f4 ≤ 100 <;> simp [c1, c2, c3, c4]
  · rw [if_neg h, if_neg h]
def prevK (l : List ZZ) : Nat → Option (List UInt8)
  | 0 => none
  | i + 1 => some (pk (rd_T32 l (i : Int)))
theorem wrap_dn {i : Nat} (h : i < 4611686018427387904) : wrap64 (((i + 1 : Nat) : Int) - 1) = (i : Int) := by
  rw [wrap_id (by omega) (by omega)]
  omega
/-- What is left when the nodes one by one are right. -/
theorem impl_l0 (l : List ZZ) (hl : l.length ≤ 20) (r : Int) (hr : zFrom none l = 0 → Ev (fun k => impl_TreeFault.l0 k l l (l.length : Int) (l.length : Int)) r) (d : Nat) : ∀ (i : Nat), i + d = l.length → (zFrom none l = zFrom (prevK l i) (l.drop i)) → Ev (fun k => impl_TreeFault.l0 k l l (l.length : Int) (i : Int)) (if zFrom none l = 0 then r else zFrom none l) := by
  induction d with
  | zero =>
    intro i h he
    have e : i = l.length := by omega
    subst e
    rw [List.drop_length] at he
    have h0 : zFrom none l = 0 := he
    rw [if_pos h0]
    exact hr h0
  | succ d ih =>
    intro i h he
    have hi : i < l.length := by omega
    have hrd := rd_T32_at hi
    rw [drop_at hi, zFrom_cons] at he
    have hp : prevK l (i + 1) = some (pk l[i]) := by rw [prevK, hrd]
    refine ev_step (fun k => (impl_nodeFault.f k (l[i]).f0 (l[i]).f1 (l[i]).f2 (l[i]).f3 (l[i]).f4).bind fun t103 => (if t103 = 0 then (if (i : Int) > 0 then (if 0 ≤ (wrap64 ((i : Int) - 1)) then (if (wrap64 ((i : Int) - 1)) < (l.length : Int) then (if ((Op.bytesLess (((rd_T32 l (wrap64 ((i : Int) - 1))).f0).toList) (((l[i]).f0).toList)) = true) then (impl_TreeFault.l0 k l l (l.length : Int) ((i + 1 : Nat) : Int)) else (some 1)) else (none)) else (none)) else (impl_TreeFault.l0 k l l (l.length : Int) ((i + 1 : Nat) : Int))) else (some t103))) (fun k => ?_) (ev_call (nodeFault_is l[i]) ?_)
    · simp only [impl_TreeFault.l0]
      rw [if_pos (by omega), if_pos (by omega), if_pos (by omega), hrd, wrap_up hi (by omega)]
    · by_cases ho : zOwn l[i] = 0
      · refine ev_cong (fun k => if_pos ho) ?_
        cases i with
        | zero =>
          have e1 : zOne (prevK l 0) l[0] = 0 := by unfold zOne; rw [if_pos ho]; rfl
          rw [if_pos e1] at he
          rw [← hp] at he
          exact ev_cong (fun k => if_neg (by omega)) (ih 1 (by omega) he)
        | succ j =>
          have hj : j < l.length := by omega
          have wd := wrap_dn (i := j) (by omega)
          refine ev_cong (fun k => (if_pos (by omega)).trans ?_) (f := fun k => if ((Op.bytesLess (((rd_T32 l (j : Int)).f0).toList) (((l[j + 1]).f0).toList)) = true) then (impl_TreeFault.l0 k l l (l.length : Int) ((j + 1 + 1 : Nat) : Int)) else (some 1)) ?_
          · rw [wd, if_pos (by omega), if_pos (by omega)]
          · by_cases c : pk (rd_T32 l (j : Int)) < pk l[j + 1]
            · have e1 : zOne (prevK l (j + 1)) l[j + 1] = 0 := by unfold zOne; rw [if_pos ho]; exact if_pos c
              rw [if_pos e1, ← hp] at he
              refine ev_cong (fun k => if_pos (by rw [bl_pk]; exact c)) (ih (j + 1 + 1) (by omega) he)
            · have e1 : zOne (prevK l (j + 1)) l[j + 1] = 1 := by unfold zOne; rw [if_pos ho]; exact if_neg c
              rw [e1, if_neg (by omega)] at he
              rw [he, if_neg (by omega)]
              exact ev_is fun k => if_neg (by rw [bl_pk]; exact c)
      · have e1 : zOne (prevK l i) l[i] = zOwn l[i] := by unfold zOne; rw [if_neg ho]
        rw [e1, if_neg ho] at he
        rw [he, if_neg ho]
        exact ev_is fun k => if_neg ho
theorem spec_l0 (l : List ZZ) (hl : l.length ≤ 20) (r : Int) (hr : zFrom none l = 0 → Ev (fun k => spec_l2Fault.l0 k l (l.length : Int)) r) (d : Nat) : ∀ (i : Nat), i + d = l.length → (zFrom none l = zFrom (prevK l i) (l.drop i)) → Ev (fun k => spec_l2Fault.l0 k l (i : Int)) (if zFrom none l = 0 then r else zFrom none l) := by
  induction d with
  | zero =>
    intro i h he
    have e : i = l.length := by omega
    subst e
    rw [List.drop_length] at he
    have h0 : zFrom none l = 0 := he
    rw [if_pos h0]
    exact hr h0
  | succ d ih =>
    intro i h he
    have hi : i < l.length := by omega
    have hrd := rd_T32_at hi
    rw [drop_at hi, zFrom_cons] at he
    have hp : prevK l (i + 1) = some (pk l[i]) := by rw [prevK, hrd]
    refine ev_step (fun k => (spec_l1Fault.f k (l[i]).f0).bind fun t103 => (if t103 = 0 then spec_l2Fault.j1 k l (i : Int) (!zIn l[i]) else (some t103))) (fun k => ?_) (ev_call (fault_spec (l[i]).f0) ?_)
    · simp only [spec_l2Fault.l0]
      rw [if_pos (by omega), if_pos (by omega), hrd]
      refine congrArg (fun z => Option.bind _ z) (funext fun t => ?_)
      unfold spec_l2Data.f spec_l2Owner.f zIn
      rw [spec_l1In_is, spec_l1In_is, spec_l1In_is, spec_l1In_is]
      by_cases c0 : t = 0
      · rw [if_pos c0, if_pos c0]
        by_cases c1 : 0 ≤ (l[i]).f1 ∧ (l[i]).f1 ≤ 9999 <;> by_cases c2 : 0 ≤ (l[i]).f2 ∧ (l[i]).f2 ≤ 999 <;> by_cases c3 : 0 ≤ (l[i]).f3 ∧ (l[i]).f3 ≤ 9 <;> by_cases c4 : 0 ≤ (l[i]).f4 ∧ (l[i]).f4 ≤ 100 <;> simp [c1, c2, c3, c4]
      · rw [if_neg c0, if_neg c0]
    · by_cases hf : faultR (l[i]).f0 = 0
      · refine ev_cong (fun k => if_pos hf) ?_
        cases hz : zIn l[i] with
        | false =>
          have ho : zOwn l[i] = 3 := by unfold zOwn; rw [if_pos hf, if_neg (by simp [hz])]
          have e1 : zOne (prevK l i) l[i] = 3 := by unfold zOne; rw [if_neg (by omega), ho]
          rw [e1, if_neg (by omega)] at he
          rw [he, if_neg (by omega)]
          exact ev_done fun k => by simp only [spec_l2Fault.j1]; exact if_pos rfl
        | true =>
          have ho : zOwn l[i] = 0 := by unfold zOwn; rw [if_pos hf, if_pos hz]
          cases i with
          | zero =>
            have e1 : zOne (prevK l 0) l[0] = 0 := by unfold zOne; rw [if_pos ho]; rfl
            rw [if_pos e1, ← hp] at he
            refine ev_step (fun k => spec_l2Fault.l0 k l ((0 + 1 : Nat) : Int)) (fun k => ?_) (ih 1 (by omega) he)
            simp only [spec_l2Fault.j1]; rw [if_neg (by simp), if_neg (by omega), wrap_up hi (by omega)]
          | succ j =>
            have hj : j < l.length := by omega
            have wd := wrap_dn (i := j) (by omega)
            by_cases c : pk (rd_T32 l (j : Int)) < pk l[j + 1]
            · have e1 : zOne (prevK l (j + 1)) l[j + 1] = 0 := by unfold zOne; rw [if_pos ho]; exact if_pos c
              rw [if_pos e1, ← hp] at he
              refine ev_step (fun k => spec_l2Fault.l0 k l ((j + 1 + 1 : Nat) : Int)) (fun k => ?_) (ih (j + 1 + 1) (by omega) he)
              simp only [spec_l2Fault.j1]; rw [if_neg (by simp), if_pos (by omega), if_pos (by omega), if_pos (by omega), wd, if_pos (by omega), if_pos (by omega), if_pos (by rw [hrd, bl_pk]; exact c), wrap_up hi (by omega)]
            · have e1 : zOne (prevK l (j + 1)) l[j + 1] = 1 := by unfold zOne; rw [if_pos ho]; exact if_neg c
              rw [e1, if_neg (by omega)] at he
              rw [he, if_neg (by omega)]
              exact ev_done fun k => by simp only [spec_l2Fault.j1]; rw [if_neg (by simp), if_pos (by omega), if_pos (by omega), if_pos (by omega), wd, if_pos (by omega), if_pos (by omega), if_neg (by rw [hrd, bl_pk]; exact c)]
      · have ho : zOwn l[i] = faultR (l[i]).f0 := by unfold zOwn; rw [if_neg hf]
        have e1 : zOne (prevK l i) l[i] = zOwn l[i] := by unfold zOne; rw [if_neg (by rw [ho]; exact hf)]
        rw [e1, ho, if_neg hf] at he
        rw [he, if_neg hf]
        exact ev_is fun k => if_neg hf
/-- The parents, by the reference: they are there .. -/
theorem spec_l1_ (l : List ZZ) (hg : ∀ z ∈ l, zOwn z = 0) (hR : Rises pk l) (hl : l.length ≤ 20) (r : Int) (hr : l.all (upHere l) = true → Ev (fun k => spec_l2Fault.l2 k l 0) r) (d : Nat) : ∀ (i : Nat), i + d = l.length → (l.all (upHere l) = (l.drop i).all (upHere l)) → Ev (fun k => spec_l2Fault.l1 k l (i : Int)) (if l.all (upHere l) = true then r else 4) := by
  induction d with
  | zero =>
    intro i h he
    rw [drop_end (by omega)] at he
    have he' : l.all (upHere l) = true := he
    rw [if_pos he']
    refine ev_step _ (fun k => ?_) (hr he')
    simp only [spec_l2Fault.l1]; rw [if_neg (by omega)]
  | succ d ih =>
    intro i h he
    have hi : i < l.length := by omega
    have hrd := rd_T32_at hi
    rw [drop_at hi, List.all_cons] at he
    have hgi := zOwn_ok (hg _ (List.getElem_mem hi))
    refine ev_step (fun k => (spec_l1Parent.f k (l[i]).f0).bind fun t116 => ((spec_l2At.f k l t116).bind fun t117 => (if t117 < 0 then (some 4) else (spec_l2Fault.l1 k l ((i + 1 : Nat) : Int))))) (fun k => ?_) (ev_call (parent_is hgi.1) (ev_call (at_is hR (by omega) (upR (l[i]).f0)) ?_))
    · simp only [spec_l2Fault.l1]; rw [if_pos (by omega), if_pos (by omega), hrd, wrap_up hi (by omega)]
    · have e : hereK pk l (upR (l[i]).f0).data.toList = upHere l l[i] := rfl
      rw [e]
      cases c : upHere l l[i] with
      | true =>
        rw [c, Bool.true_and] at he
        exact ev_cong (fun k => if_neg (by rw [if_pos rfl]; omega)) (ih (i + 1) (by omega) he)
      | false =>
        rw [c, Bool.false_and] at he
        rw [he, if_neg (by simp)]
        exact ev_is fun k => if_pos (by simp)
/-- .. and nobody's. -/
theorem spec_l2_ (l : List ZZ) (hg : ∀ z ∈ l, zOwn z = 0) (hR : Rises pk l) (hl : l.length ≤ 20) (hA : l.all (upHere l) = true) (d : Nat) : ∀ (i : Nat), i + d = l.length → (l.any (upOwn l) = (l.drop i).any (upOwn l)) → Ev (fun k => spec_l2Fault.l2 k l (i : Int)) (if l.any (upOwn l) = true then 1 else 0) := by
  induction d with
  | zero =>
    intro i h he
    rw [drop_end (by omega)] at he
    have he' : l.any (upOwn l) = false := he
    rw [he', if_neg (by simp)]
    exact ev_done fun k => by simp only [spec_l2Fault.l2]; rw [if_neg (by omega)]
  | succ d ih =>
    intro i h he
    have hi : i < l.length := by omega
    have hrd := rd_T32_at hi
    rw [drop_at hi, List.any_cons] at he
    have hgi := zOwn_ok (hg _ (List.getElem_mem hi))
    have hh : hereK pk l (upR (l[i]).f0).data.toList = true := List.all_eq_true.1 hA _ (List.getElem_mem hi)
    have hp := hereK_lt hh
    have ho : upOwn l l[i] = !decide ((rd_T32 l (posK pk l (upR (l[i]).f0).data.toList : Int)).f3 = 0) := rfl
    refine ev_step (fun k => (spec_l1Parent.f k (l[i]).f0).bind fun t119 => ((spec_l2At.f k l t119).bind fun t120 => (if 0 ≤ t120 then (if t120 < (l.length : Int) then (if ((rd_T32 l t120).f3) = 0 then (spec_l2Fault.l2 k l ((i + 1 : Nat) : Int)) else (some 1)) else (none)) else (none)))) (fun k => ?_) (ev_call (parent_is hgi.1) (ev_call (at_is hR (by omega) (upR (l[i]).f0)) ?_))
    · simp only [spec_l2Fault.l2]; rw [if_pos (by omega), if_pos (by omega), hrd, wrap_up hi (by omega)]
    · rw [hh]
      generalize hP : posK pk l (upR (l[i]).f0).data.toList = P at hp ho
      refine ev_cong (f := fun k => (if ((rd_T32 l (P : Int)).f3) = 0 then (spec_l2Fault.l2 k l ((i + 1 : Nat) : Int)) else (some 1))) (fun k => ?_) ?_
      · rw [if_pos rfl, if_pos (by omega), if_pos (by omega)]
      · by_cases c : (rd_T32 l (P : Int)).f3 = 0
        · have : upOwn l l[i] = false := by rw [ho, decide_eq_true c]; rfl
          rw [this, Bool.false_or] at he
          exact ev_cong (fun k => if_pos c) (ih (i + 1) (by omega) he)
        · have : upOwn l l[i] = true := by rw [ho, decide_eq_false c]; rfl
          rw [this, Bool.true_or] at he
          rw [he, if_pos rfl]
          exact ev_is fun k => if_neg c
theorem treeR_spec (l : List ZZ) : Ev (fun k => spec_l2Fault.f k l) (treeR l) := by
  unfold spec_l2Fault.f treeR
  by_cases h : l.length > 20
  · rw [if_pos h]
    exact ev_is fun k => if_pos (by omega)
  · rw [if_neg h]
    refine ev_cong (fun k => if_neg (by omega)) (spec_l0 l (by omega) _ (fun hz => ?_) l.length 0 (by omega) rfl)
    obtain ⟨hg, hR, _⟩ := zFrom_ok l none hz
    refine ev_step (fun k => (spec_l2At.f k l (⟨#[47]⟩ : ByteArray)).bind fun t114 => (if t114 < 0 then (some 4) else (spec_l2Fault.l1 k l 0))) (fun k => ?_) (ev_call (at_is hR (by omega) (⟨#[47]⟩ : ByteArray)) ?_)
    · simp only [spec_l2Fault.l0]; rw [if_neg (by omega)]
    · have e : (⟨#[47]⟩ : ByteArray).data.toList = [47] := rfl
      rw [e]
      cases c : hereK pk l [47] with
      | false =>
        rw [if_neg (by simp)]
        exact ev_is fun k => if_pos (by simp)
      | true =>
        rw [if_pos rfl]
        refine ev_cong (fun k => if_neg (by omega)) (spec_l1_ l hg hR (by omega) _ (fun hA => ?_) l.length 0 (by omega) rfl)
        exact spec_l2_ l hg hR (by omega) hA l.length 0 (by omega) rfl
/-- The parents, by the program: all but the first node's. -/
theorem impl_l1_ (l m : List ZZ) (hm : ∀ z ∈ m, zOwn z = 0) (hR : Rises pk l) (hl : l.length ≤ 20) (hml : m.length ≤ 20) (d : Nat) : ∀ (i : Nat) (b : Bool), i + d = m.length → Ev (fun k => impl_TreeFault.l1 k l b m (m.length : Int) (i : Int)) (if (m.drop i).all (upHere l) = true then (if (b || (m.drop i).any (upOwn l)) = true then 1 else 0) else 4) := by
  induction d with
  | zero =>
    intro i b h
    rw [drop_end (by omega)]
    refine ev_done fun k => ?_
    simp only [impl_TreeFault.l1]
    rw [if_neg (by omega), List.all_nil, if_pos rfl, List.any_nil, Bool.or_false]
    cases b <;> rfl
  | succ d ih =>
    intro i b h
    have hi : i < m.length := by omega
    have hrd := rd_T32_at hi
    have hgi := zOwn_ok (hm _ (List.getElem_mem hi))
    rw [drop_at hi, List.all_cons, List.any_cons]
    refine ev_step (fun k => (impl_parted.f k (m[i]).f0).bind fun bt114 => ((impl_find.f k l bt114.1).bind fun bt116 => (if bt116.2 = true then (if b = true then (impl_TreeFault.l1 k l true m (m.length : Int) ((i + 1 : Nat) : Int)) else (if 0 ≤ bt116.1 then (if bt116.1 < (l.length : Int) then (impl_TreeFault.l1 k l (((rd_T32 l bt116.1).f3) != 0) m (m.length : Int) ((i + 1 : Nat) : Int)) else (none)) else (none))) else (some 4)))) (fun k => ?_) (ev_call (parted_is hgi.1) (ev_call (find_is hR (by omega) (upR (m[i]).f0)) ?_))
    · simp only [impl_TreeFault.l1]; rw [if_pos (by omega), if_pos (by omega), if_pos (by omega), hrd, wrap_up hi (by omega)]
    · have e : hereK pk l (upR (m[i]).f0).data.toList = upHere l m[i] := rfl
      have ho : upOwn l m[i] = !decide ((rd_T32 l (posK pk l (upR (m[i]).f0).data.toList : Int)).f3 = 0) := rfl
      have hp : upHere l m[i] = true → posK pk l (upR (m[i]).f0).data.toList < l.length := fun c => hereK_lt c
      generalize hP : posK pk l (upR (m[i]).f0).data.toList = P at ho hp
      rw [e]
      cases c : upHere l m[i] with
      | false =>
        rw [Bool.false_and, if_neg (by simp)]
        exact ev_is fun k => if_neg (by simp)
      | true =>
        have hp := hp c
        rw [Bool.true_and]
        cases b with
        | true =>
          have IH := ih (i + 1) true (by omega)
          rw [Bool.true_or] at IH ⊢
          exact ev_cong (fun k => (if_pos rfl).trans (if_pos rfl)) IH
        | false =>
          have e2 : (((rd_T32 l (P : Int)).f3) != 0) = upOwn l m[i] := by
            rw [ho]
            by_cases c2 : (rd_T32 l (P : Int)).f3 = 0
            · rw [decide_eq_true c2, c2]; rfl
            · rw [decide_eq_false c2]; exact bne_iff_ne.2 c2
          have IH := ih (i + 1) (upOwn l m[i]) (by omega)
          rw [Bool.false_or]
          refine ev_cong (fun k => ?_) IH
          rw [if_pos rfl, if_neg (by simp), if_pos (by show 0 ≤ (P : Int); omega), if_pos (by show (P : Int) < (l.length : Int); omega)]
          show impl_TreeFault.l1 k l (((rd_T32 l (P : Int)).f3) != 0) m (m.length : Int) ((i + 1 : Nat) : Int) = _
          rw [e2]
theorem treeR_impl (l : List ZZ) : Ev (fun k => impl_TreeFault.f k l) (treeR l) := by
  unfold impl_TreeFault.f treeR
  by_cases h : l.length > 20
  · rw [if_pos h]
    exact ev_is fun k => if_pos (by omega)
  · rw [if_neg h]
    refine ev_cong (fun k => if_neg (by omega)) (impl_l0 l (by omega) _ (fun hz => ?_) l.length 0 (by omega) rfl)
    obtain ⟨hg, hR, _⟩ := zFrom_ok l none hz
    refine ev_step (fun k => (impl_find.f k l (⟨#[47]⟩ : ByteArray)).bind fun bt105 => (if bt105.2 = true then (if 0 < (l.length : Int) then (if 1 ≤ (l.length : Int) then ((some (l.drop 1 : List ZZ)).bind fun y108 => (impl_TreeFault.l1 k l (((rd_T32 l 0).f3) != 0) y108 (y108.length : Int) 0)) else (none)) else (none)) else (some 4))) (fun k => ?_) (ev_call (find_is hR (by omega) (⟨#[47]⟩ : ByteArray)) ?_)
    · simp only [impl_TreeFault.l0]; rw [if_neg (by omega)]
    · have e : (⟨#[47]⟩ : ByteArray).data.toList = [47] := rfl
      rw [e]
      cases c : hereK pk l [47] with
      | false =>
        rw [if_neg (by simp)]
        exact ev_is fun k => if_neg (by simp)
      | true =>
        rw [if_pos rfl]
        have hp := hereK_lt c
        have h0 := top_first hg hR c
        have hlen : 0 < l.length := by omega
        have hk : pk l[0] = [47] := by
          have := hereK_eq c
          have g : ∀ (j : Nat) (hj : j < l.length), j = 0 → pk l[j] = [47] → pk l[0] = [47] := fun j hj e => by subst e; exact id
          exact g _ hp h0 this
        have hsplit : l = l[0] :: l.drop 1 := by
          have := drop_at hlen
          rwa [List.drop_zero] at this
        have hu : upR (l[0]).f0 = (⟨#[47]⟩ : ByteArray) := upR_top _ hk
        have hu0 : upHere l l[0] = true := by unfold upHere upK; rw [hu]; exact c
        have ho0 : upOwn l l[0] = (((rd_T32 l 0).f3) != 0) := by
          unfold upOwn upK
          rw [hu]
          have e3 : (⟨#[47]⟩ : ByteArray).data.toList = [47] := rfl
          rw [e3, h0]
          show (!decide ((rd_T32 l 0).f3 = 0)) = ((rd_T32 l 0).f3 != 0)
          by_cases c2 : (rd_T32 l 0).f3 = 0
          · rw [decide_eq_true c2, c2]; rfl
          · rw [decide_eq_false c2]; exact (bne_iff_ne.2 c2).symm
        have hall : l.all (upHere l) = (l.drop 1).all (upHere l) := by
          have g : ∀ m : List ZZ, m = l[0] :: l.drop 1 → m.all (upHere l) = (l.drop 1).all (upHere l) := fun m hm => by rw [hm, List.all_cons, hu0, Bool.true_and]
          exact g l hsplit
        have hany : l.any (upOwn l) = ((((rd_T32 l 0).f3) != 0) || (l.drop 1).any (upOwn l)) := by
          have g : ∀ m : List ZZ, m = l[0] :: l.drop 1 → m.any (upOwn l) = ((((rd_T32 l 0).f3) != 0) || (l.drop 1).any (upOwn l)) := fun m hm => by rw [hm, List.any_cons, ho0]
          exact g l hsplit
        rw [hall, hany]
        have := impl_l1_ l (l.drop 1) (fun z hz => hg z (List.mem_of_mem_drop hz)) hR (by omega) (by rw [List.length_drop]; omega) (l.drop 1).length 0 (((rd_T32 l 0).f3) != 0) (by omega)
        rw [List.drop_zero] at this
        refine ev_cong (fun k => ?_) this
        rw [if_pos rfl, if_pos (by omega), if_pos (by omega), Option.bind_some]
        rfl
end Go.Proofs.YtegggpipggniaaaDoor.Pure

/- When a tree is right: told by its members. -/
namespace Go.Proofs.YtegggpipggniaaaDoor.Pure
open Go.RowKit Go.Proofs.YtegggpipggniaaaDoor.Qa Go.Proofs.YtegggpipggniaaaDoorW.PrintWords Go.Proofs.YtegggpipggniaaaDoorW.PrintLast Go.Proofs.YtegggpipggniaaaDoor.Aid
theorem zFrom_of : ∀ (l : List ZZ) (prev : Option (List UInt8)), (∀ z ∈ l, zOwn z = 0) → Rises pk l → (∀ p, prev = some p → ∀ z ∈ l, p < pk z) → zFrom prev l = 0
  | [], _, _, _, _ => rfl
  | z :: r, prev, h1, h2, h3 => by
    obtain ⟨g1, g2⟩ := List.pairwise_cons.1 h2
    have ho : zOne prev z = 0 := by
      unfold zOne
      rw [if_pos (h1 z (by simp))]
      cases prev with
      | none => rfl
      | some p => exact if_pos (h3 p rfl z (by simp))
    rw [zFrom_cons, if_pos ho]
    exact zFrom_of r (some (pk z)) (fun x hx => h1 x (List.mem_cons_of_mem _ hx)) g2 (fun p hp x hx => by cases hp; exact g1 x hx)
theorem RightT.code {l : List ZZ} (h : RightT l) : treeR l = 0 := h.zero (zFrom_of l none h.good h.rise (fun p hp => by cases hp))
theorem at_of {l : List ZZ} (hr : Rises pk l) {y : ZZ} (hy : y ∈ l) : rd_T32 l (posK pk l (pk y) : Int) = y := by
  obtain ⟨j, hj, rfl⟩ := List.getElem_of_mem hy
  rw [(hereK_at hr j hj).1, rd_T32_at hj]
theorem mem_of_here {l : List ZZ} {q : List UInt8} (h : hereK pk l q = true) : ∃ y ∈ l, pk y = q := ⟨l[posK pk l q]'(hereK_lt h), List.getElem_mem _, hereK_eq h⟩
theorem same_key {l : List ZZ} (hr : Rises pk l) {x y : ZZ} (hx : x ∈ l) (hy : y ∈ l) (e : pk x = pk y) : x = y := by
  have h1 := at_of hr hx
  rw [e, at_of hr hy] at h1
  exact h1.symm
/-- A right tree, by its members. -/
structure TreeM (l : List ZZ) : Prop where
  few : l.length ≤ 20
  good : ∀ z ∈ l, zOwn z = 0
  rise : Rises pk l
  top : ∃ z ∈ l, pk z = [47]
  ups : ∀ z ∈ l, ∃ y ∈ l, pk y = upK z ∧ y.f3 = 0
theorem TreeM.of {l : List ZZ} (h : RightT l) : TreeM l := by
  refine ⟨h.few, h.good, h.rise, mem_of_here h.top, fun z hz => ?_⟩
  obtain ⟨y, hy, e⟩ := mem_of_here (h.ups z hz)
  refine ⟨y, hy, e, ?_⟩
  have := h.free z hz
  unfold upOwn at this
  rw [← e, at_of h.rise hy] at this
  simpa using this
theorem TreeM.right {l : List ZZ} (h : TreeM l) : RightT l := by
  refine ⟨h.few, h.good, h.rise, ?_, fun z hz => ?_, fun z hz => ?_⟩
  · obtain ⟨y, hy, e⟩ := h.top
    rw [← e]
    exact hereK_mem h.rise hy
  · obtain ⟨y, hy, e, _⟩ := h.ups z hz
    unfold upHere
    rw [← e]
    exact hereK_mem h.rise hy
  · obtain ⟨y, hy, e, h0⟩ := h.ups z hz
    unfold upOwn
    rw [← e, at_of h.rise hy, h0]
    rfl
theorem TreeM.code {l : List ZZ} (h : TreeM l) : treeR l = 0 := h.right.code
theorem tree_m {l : List ZZ} (h : treeR l = 0) : TreeM l := TreeM.of (right_of h)
/-- The top owns nothing. -/
theorem TreeM.top_free {l : List ZZ} (h : TreeM l) {z : ZZ} (hz : z ∈ l) (e : pk z = [47]) : z.f3 = 0 := by
  obtain ⟨y, hy, e2, h0⟩ := h.ups z hz
  have : upK z = [47] := by unfold upK; rw [upR_top z.f0 e]
  rw [this] at e2
  rw [same_key h.rise hz hy (by rw [e, e2])]
  exact h0
/-- What is there, and what is not. -/
theorem here_iff {l : List ZZ} (hr : Rises pk l) (q : List UInt8) : hereK pk l q = true ↔ ∃ y ∈ l, pk y = q := ⟨mem_of_here, fun ⟨y, hy, e⟩ => by rw [← e]; exact hereK_mem hr hy⟩
end Go.Proofs.YtegggpipggniaaaDoor.Pure

/- Answers that hold nodes. -/

namespace Go.Proofs.YtegggpipggniaaaDoor.Pure
open Go.RowKit Go.Proofs.YtegggpipggniaaaDoor.Qa Go.Proofs.YtegggpipggniaaaDoorW.PrintWords Go.Proofs.YtegggpipggniaaaDoorW.PrintLast Go.Proofs.YtegggpipggniaaaDoor.Aid
abbrev ZR := Int × ByteArray × List ZZ
def badZ (c : Int) : ZR := (c, (⟨#[]⟩ : ByteArray), [])
end Go.Proofs.YtegggpipggniaaaDoor.Pure

/- A row of nodes copied, by the reference. -/
namespace Go.Proofs.YtegggpipggniaaaDoor.Pure
open Go.RowKit Go.Proofs.YtegggpipggniaaaDoor.Qa Go.Proofs.YtegggpipggniaaaDoorW.PrintWords Go.Proofs.YtegggpipggniaaaDoorW.PrintLast Go.Proofs.YtegggpipggniaaaDoor.Aid
theorem copy_spec (l : List ZZ) (hl : l.length ≤ 1048576000) : spec_l2Copy.f l = some l := by
  unfold spec_l2Copy.f
  simp only [Option.bind_some, List.nil_append, List.length_nil, Nat.zero_add]
  rw [if_pos (by omega)]
end Go.Proofs.YtegggpipggniaaaDoor.Pure

/- A node's data set in a right tree, by the reference. -/
namespace Go.Proofs.YtegggpipggniaaaDoor.Pure
open Go.RowKit Go.Proofs.YtegggpipggniaaaDoor.Qa Go.Proofs.YtegggpipggniaaaDoorW.PrintWords Go.Proofs.YtegggpipggniaaaDoorW.PrintLast Go.Proofs.YtegggpipggniaaaDoor.Aid
def putD (l : List ZZ) (i : Int) (d : Int) : List ZZ := l.set i.toNat (⟨(rd_T32 l i).f0, d, (rd_T32 l i).f2, (rd_T32 l i).f3, (rd_T32 l i).f4⟩ : ZZ)
def putV (l : List ZZ) (i : Int) : List ZZ := l.set i.toNat (⟨(rd_T32 l i).f0, (rd_T32 l i).f1, wrap64 (((rd_T32 l i).f2) + 1), (rd_T32 l i).f3, (rd_T32 l i).f4⟩ : ZZ)
def setAt (l : List ZZ) (p : Nat) (d v : Int) : ZR :=
  if v = -1 ∨ v = (rd_T32 l (p : Int)).f2 then (if (rd_T32 l (p : Int)).f2 = 999 then badZ 2 else (0, (⟨#[]⟩ : ByteArray), putV (putD l (p : Int) d) (p : Int))) else badZ 7
noncomputable def setIn (l : List ZZ) (q : ByteArray) (d v : Int) : ZR :=
  if 0 ≤ d ∧ d ≤ 9999 then (if hereK pk l q.data.toList = true then setAt l (posK pk l q.data.toList) d v else badZ 4) else badZ 3
theorem ver_le {l : List ZZ} (hg : ∀ z ∈ l, zOwn z = 0) {p : Nat} (hp : p < l.length) : 0 ≤ (rd_T32 l (p : Int)).f2 ∧ (rd_T32 l (p : Int)).f2 ≤ 999 := by
  rw [rd_T32_at hp]
  have := (zOwn_ok (hg _ (List.getElem_mem hp))).2
  unfold zIn at this
  simp only [Bool.and_eq_true, decide_eq_true_eq] at this
  exact this.2.1
theorem set_j0 {l : List ZZ} (hg : ∀ z ∈ l, zOwn z = 0) (hl : l.length ≤ 20) {p : Nat} (hp : p < l.length) (d v : Int) (b : Bool) (hb : b = true ↔ ¬ (v = -1 ∨ v = (rd_T32 l (p : Int)).f2)) : Ev (fun k => spec_l2Set.j0 k l d (p : Int) b) (setAt l p d v) := by
  have hv := ver_le hg hp
  unfold setAt
  cases b with
  | true =>
    rw [if_neg (hb.1 rfl)]
    exact ev_done fun k => by simp only [spec_l2Set.j0]; rw [if_pos trivial]; rfl
  | false =>
    have hn : v = -1 ∨ v = (rd_T32 l (p : Int)).f2 := Decidable.byContradiction fun c => by have := hb.2 c; cases this
    rw [if_pos hn]
    refine ev_done fun k => ?_
    simp only [spec_l2Set.j0]
    rw [if_neg (by simp), if_pos (by omega), if_pos (by omega), copy_spec l (by omega)]
    by_cases c : (rd_T32 l (p : Int)).f2 = 999
    · rw [if_pos (by omega), if_pos c]; rfl
    · rw [if_neg (by omega), if_neg c, Option.bind_some, if_pos (by omega)]; rfl
theorem set_in_spec {l : List ZZ} (hg : ∀ z ∈ l, zOwn z = 0) (hl : l.length ≤ 20) (hr : Rises pk l) (q : ByteArray) (d v : Int) : Ev (fun k => spec_l2Set.f k l q d v) (setIn l q d v) := by
  unfold spec_l2Set.f spec_l2Data.f setIn
  rw [spec_l1In_is]
  simp only [Option.bind_some]
  by_cases h1 : 0 ≤ d ∧ d ≤ 9999
  · rw [if_pos h1]
    refine ev_cong (fun k => if_pos (decide_eq_true h1)) (ev_call (at_is hr (by omega) q) ?_)
    cases c : hereK pk l q.data.toList with
    | false =>
      rw [if_neg (by simp), if_neg (by simp)]
      exact ev_is fun k => if_pos (by omega)
    | true =>
      have hp := hereK_lt c
      rw [if_pos rfl, if_pos rfl]
      generalize posK pk l q.data.toList = p at hp
      refine ev_cong (fun k => if_neg (by omega)) ?_
      by_cases h2 : v = -1
      · exact ev_cong (fun k => if_pos h2) (set_j0 hg hl hp d v false ⟨fun h => by simp at h, fun h => absurd (.inl h2) h⟩)
      · refine ev_cong (fun k => (if_neg h2).trans ((if_pos (by omega)).trans (if_pos (by omega)))) (set_j0 hg hl hp d v _ ⟨fun h => ?_, fun h => ?_⟩)
        · have := bne_iff_ne.1 h
          rintro (h3 | h3)
          · exact h2 h3
          · exact this h3
        · exact bne_iff_ne.2 fun h3 => h (.inr h3)
  · rw [if_neg h1]
    exact ev_is fun k => (if_neg (by simpa using h1)).trans rfl
end Go.Proofs.YtegggpipggniaaaDoor.Pure

/- A name with a number behind it, by the reference. -/
namespace Go.Proofs.YtegggpipggniaaaDoor.Pure
open Go.RowKit Go.Proofs.YtegggpipggniaaaDoor.Qa Go.Proofs.YtegggpipggniaaaDoorW.PrintWords Go.Proofs.YtegggpipggniaaaDoorW.PrintLast Go.Proofs.YtegggpipggniaaaDoor.Aid
def twoN (n : Int) : List Int := [(wrap64 (48 + (wrap64 (Int.tdiv n 10)))) % 256, (wrap64 (48 + (Int.tmod n 10))) % 256]
def seqT (s : ByteArray) (n : Int) : ByteArray := s ++ strOfNums (twoN n)
def seqR (s : ByteArray) (n : Int) : Int × ByteArray := if nameB s then (if 0 ≤ n ∧ n ≤ 99 then (if nameB (seqT s n) then (0, seqT s n) else (5, ⟨#[]⟩)) else (3, ⟨#[]⟩)) else (5, ⟨#[]⟩)
theorem strOfNums_two (a b : Int) : strOfNums [a] ++ strOfNums [b] = strOfNums [a, b] := by
  unfold strOfNums
  apply ByteArray.ext
  simp
theorem digit (d : Int) (h0 : 0 ≤ d) (h1 : d < 10) : Ev (fun k => spec_l1Digits.f k d) (strOfNums [(wrap64 (48 + d)) % 256]) :=
  ev_done fun k => by simp only [spec_l1Digits.f]; rw [if_neg (by omega), if_pos h1]
theorem tdiv10 {n : Int} (h : 0 ≤ n ∧ n ≤ 99) : wrap64 (Int.tdiv n 10) = n / 10 ∧ Int.tmod n 10 = n % 10 := by
  have h1 : Int.tdiv n 10 = n / 10 := Int.tdiv_eq_ediv_of_nonneg h.1
  have h2 : Int.tmod n 10 = n % 10 := Int.tmod_eq_emod_of_nonneg h.1
  rw [h1, h2, wrap_id (by omega) (by omega)]
  exact ⟨rfl, rfl⟩
theorem seq_spec (s : ByteArray) (n : Int) (hs : s.size ≤ 1048576) (hn : 0 ≤ n ∧ n ≤ 99) : Ev (fun k => spec_l1Seq.f k s n) (seqT s n) := by
  obtain ⟨e1, e2⟩ := tdiv10 hn
  unfold spec_l1Seq.f
  have e : seqT s n = (s ++ strOfNums [(wrap64 (48 + (wrap64 (Int.tdiv n 10)))) % 256]) ++ strOfNums [(wrap64 (48 + (Int.tmod n 10))) % 256] := by
    unfold seqT twoN
    rw [ByteArray.append_assoc, strOfNums_two]
  rw [e]
  refine ev_call (digit (wrap64 (Int.tdiv n 10)) (by rw [e1]; omega) (by rw [e1]; omega)) (ev_cong (fun k => if_pos (by rw [size_strOfNums]; simp; omega)) ?_)
  refine ev_call (digit (Int.tmod n 10) (by rw [e2]; omega) (by rw [e2]; omega)) (ev_is fun k => if_pos (by rw [ByteArray.size_append, size_strOfNums, size_strOfNums]; simp; omega))
theorem seqT_size (s : ByteArray) (n : Int) : (seqT s n).size = s.size + 2 := by
  unfold seqT twoN
  rw [ByteArray.size_append, size_strOfNums]
  rfl
end Go.Proofs.YtegggpipggniaaaDoor.Pure

/- A path joined, by the reference. -/
namespace Go.Proofs.YtegggpipggniaaaDoor.Pure
open Go.RowKit Go.Proofs.YtegggpipggniaaaDoor.Qa Go.Proofs.YtegggpipggniaaaDoorW.PrintWords Go.Proofs.YtegggpipggniaaaDoorW.PrintLast Go.Proofs.YtegggpipggniaaaDoor.Aid
def joinR (s n : ByteArray) : ByteArray := if s.data.toList = [47] then s ++ n else (s ++ (⟨#[47]⟩ : ByteArray)) ++ n
theorem cat_size (s n : ByteArray) : (s ++ n).size = s.size + n.size := ByteArray.size_append
theorem join_spec (s n : ByteArray) (hs : s.size ≤ 24) (hn : n.size ≤ 1048576) : spec_l1Join.f s n = some (joinR s n) := by
  unfold spec_l1Join.f joinR
  rw [tl, cat_size]
  have e1 : (⟨#[47]⟩ : ByteArray).size = 1 := rfl
  by_cases h : s.data.toList = [47]
  · have e : s = (⟨#[47]⟩ : ByteArray) := eq_mk h
    rw [if_pos h, if_pos h, if_pos (by omega), e]
  · rw [if_neg h, if_neg h, if_pos (by omega), if_pos (by omega)]
end Go.Proofs.YtegggpipggniaaaDoor.Pure

/- A node put to a right tree, by the reference. -/
namespace Go.Proofs.YtegggpipggniaaaDoor.Pure
open Go.RowKit Go.Proofs.YtegggpipggniaaaDoor.Qa Go.Proofs.YtegggpipggniaaaDoorW.PrintWords Go.Proofs.YtegggpipggniaaaDoorW.PrintLast Go.Proofs.YtegggpipggniaaaDoor.Aid
theorem ev_one {α : Type} {g : Nat → Option α} {a b : α} (h : Ev g a) (k : Ev g b) : a = b := by
  obtain ⟨n, hn⟩ := h
  obtain ⟨m, hm⟩ := k
  have h1 := hn (n + m) (by omega)
  have h2 := hm (n + m) (by omega)
  rw [h1] at h2
  exact Option.some.inj h2
theorem splF_tail (l : List UInt8) : ∀ (P : List UInt8) (p : Nat) (hp : p < l.length), l[p] = 47 → (∀ (j : Nat) (hj : j < l.length), p < j → l[j] ≠ 47) → l.drop (p + 1) ∈ (splF P l).drop 1 := by
  induction l with
  | nil => intro P p hp; simp at hp
  | cons c t ih =>
    intro P p hp h1 h2
    unfold splF
    by_cases hc : c = 47
    · rw [if_pos hc, List.drop_succ_cons, List.drop_zero]
      cases p with
      | zero =>
        have h0 : t.count 47 = 0 := List.count_eq_zero.2 fun hm => by
          obtain ⟨j, hj, e⟩ := List.getElem_of_mem hm
          exact h2 (j + 1) (by simpa using hj) (by omega) (by simpa using e)
        rw [splF_none t [] h0]
        simp
      | succ p =>
        have := ih [] p (by simpa using hp) (by simpa using h1) (fun j hj hlt => by
          have := h2 (j + 1) (by simpa using hj) (by omega)
          rwa [List.getElem_cons_succ] at this)
        rw [List.drop_succ_cons]
        exact List.mem_of_mem_drop this
    · rw [if_neg hc]
      cases p with
      | zero => exact absurd (by simpa using h1) hc
      | succ p =>
        have := ih (P ++ [c]) p (by simpa using hp) (by simpa using h1) (fun j hj hlt => by
          have := h2 (j + 1) (by simpa using hj) (by omega)
          rwa [List.getElem_cons_succ] at this)
        rw [List.drop_succ_cons]
        exact this
theorem nm_name {s : ByteArray} (h : faultR s = 0) (ht : s.data.toList ≠ [47]) : nameB (nmR s) = true := by
  have hl := size_list s
  obtain ⟨hs, h2⟩ := fault_zero h
  rcases h2 with h2 | ⟨_, h3, h4⟩
  · exact absurd h2 ht
  · have hall : ((pieces s).drop 1).all nameB = true := by
      have hn : (namesR s).2 = true := by rw [h3]
      unfold namesR at hn
      rw [if_neg ht] at hn
      by_cases c1 : (pieces s).length < 2
      · rw [if_pos c1] at hn; cases hn
      · rw [if_neg c1] at hn
        by_cases c2 : (headR s).data.toList = []
        · rw [if_pos c2] at hn
          by_cases c3 : ((pieces s).drop 1).all nameB = true
          · exact c3
          · rw [if_neg c3] at hn; cases hn
        · rw [if_neg c2] at hn; cases hn
    obtain ⟨_, p, _, h7, _, h9⟩ := upN_spec h
    obtain ⟨p', hp', e1, e2⟩ := last_exists _ h4
    have h10 : Ev (fun k => spec_l1Last.f k s) (p' : Int) := last_spec_l0 s hs p' hp' e1 e2 s.size 0 0 (by omega) (fun h => by omega)
    have e : p = p' := by have := ev_one h9 h10; omega
    subst e
    have hm := splF_tail s.data.toList [] p hp' e1 e2
    refine List.all_eq_true.1 hall _ ?_
    have e3 : nmR s = mkB (s.data.toList.drop (p + 1)) := by
      rw [h7, ext_mk, List.take_of_length_le (by rw [List.length_drop]; omega)]
    rw [e3]
    unfold pieces
    rw [← List.map_drop]
    exact List.mem_map.2 ⟨_, hm, rfl⟩

theorem posK_map {α : Type} (key : α → List UInt8) (l : List α) (q : List UInt8) : posK key l q = ((l.map key).takeWhile (fun x => decide (x < q))).length := by
  unfold posK
  rw [List.takeWhile_map, List.length_map]
  rfl
theorem hereK_map {α : Type} (key : α → List UInt8) (l : List α) (q : List UInt8) : hereK key l q = (match (l.map key)[posK key l q]? with
    | some x => decide (x = q)
    | none => false) := by
  unfold hereK
  rw [List.getElem?_map]
  cases l[posK key l q]? <;> rfl
theorem same_keys {α : Type} {key : α → List UInt8} {l m : List α} (h : l.map key = m.map key) (q : List UInt8) : posK key l q = posK key m q ∧ hereK key l q = hereK key m q := by
  have e : posK key l q = posK key m q := by rw [posK_map, posK_map, h]
  exact ⟨e, by rw [hereK_map, hereK_map, h, e]⟩
theorem same_rise {α : Type} {key : α → List UInt8} {l m : List α} (h : l.map key = m.map key) (hr : Rises key l) : Rises key m := by
  have : (l.map key).Pairwise (· < ·) := List.pairwise_map.2 hr
  rw [h] at this
  exact List.pairwise_map.1 this
theorem set_keys {α : Type} {key : α → List UInt8} {l : List α} {i : Nat} (hi : i < l.length) {z : α} (hz : key z = key l[i]) : (l.set i z).map key = l.map key := by
  apply List.ext_getElem
  · simp
  · intro j h1 h2
    rw [List.getElem_map, List.getElem_map, List.getElem_set]
    by_cases c : i = j
    · subst c; rw [if_pos rfl, hz]
    · rw [if_neg c]

def insAt (l : List ZZ) (p : Nat) (z : ZZ) : List ZZ := l.take p ++ [z] ++ l.drop p
noncomputable def makeR (l : List ZZ) (q : ByteArray) (d o : Int) : ZR :=
  if hereK pk l q.data.toList = true then badZ 6 else if l.length = 20 then badZ 2 else (0, q, insAt l (posK pk l q.data.toList) ⟨q, d, 0, o, 0⟩)
def nextUp (l : List ZZ) (i : Int) : List ZZ := l.set i.toNat (⟨(rd_T32 l i).f0, (rd_T32 l i).f1, (rd_T32 l i).f2, (rd_T32 l i).f3, wrap64 (((rd_T32 l i).f4) + 1)⟩ : ZZ)
theorem nextUp_keys (l : List ZZ) (p : Nat) (hp : p < l.length) : (nextUp l (p : Int)).map pk = l.map pk := by
  unfold nextUp
  rw [Int.toNat_natCast]
  refine set_keys hp ?_
  rw [rd_T32_at hp]
  rfl
theorem nextUp_len (l : List ZZ) (i : Int) : (nextUp l i).length = l.length := by unfold nextUp; rw [List.length_set]
theorem put_l0 {l : List ZZ} (hr : Rises pk l) (hl : l.length ≤ 20) (z : ZZ) (d : Nat) : ∀ (i : Nat), i + d = l.length → i ≤ posK pk l (pk z) → Ev (fun k => spec_l2Put.l0 k l (i : Int) z.f0 z.f1 z.f2 z.f3 z.f4) (insAt l (posK pk l (pk z)) z) := by
  have fin : ∀ i : Nat, i ≤ l.length → (i < l.length → ¬ pk (rd_T32 l (i : Int)) < pk z) → Ev (fun k => spec_l2Put.l0 k l (i : Int) z.f0 z.f1 z.f2 z.f3 z.f4) (insAt l i z) := by
    intro i hi hn
    have ht : (l.take i).length ≤ 20 := by rw [List.length_take]; omega
    have hd : (l.drop i).length ≤ 20 := by rw [List.length_drop]; omega
    refine ev_done fun k => ?_
    simp only [spec_l2Put.l0, Option.bind_some, List.nil_append, List.length_nil, Nat.zero_add, Int.toNat_natCast]
    by_cases c : i < l.length
    · have hb : ¬ Op.bytesLess (((rd_T32 l (i : Int)).f0).toList) z.f0.toList = true := by rw [bl_pk]; exact hn c
      rw [if_pos (by omega), if_pos (by omega), if_neg hb, if_pos (by omega), if_pos (by omega), if_pos (by omega), if_pos (by rw [List.length_append, List.length_singleton]; omega)]
      rfl
    · rw [if_neg (by omega), if_pos (by omega), if_pos (by omega), if_pos (by omega), if_pos (by omega), if_pos (by rw [List.length_append, List.length_singleton]; omega)]
      rfl
  induction d with
  | zero =>
    intro i h hp
    have e : i = posK pk l (pk z) := by have := posK_le pk l (pk z); omega
    rw [← e]
    exact fin i (by omega) (fun c => by omega)
  | succ d ih =>
    intro i h hp
    have hi : i < l.length := by omega
    have hrd := rd_T32_at hi
    by_cases c : pk l[i] < pk z
    · refine ev_step (fun k => spec_l2Put.l0 k l ((i + 1 : Nat) : Int) z.f0 z.f1 z.f2 z.f3 z.f4) (fun k => ?_) (ih (i + 1) (by omega) ((posK_iff hr _ i hi).1 c))
      have hb : Op.bytesLess (((rd_T32 l (i : Int)).f0).toList) z.f0.toList = true := by rw [bl_pk, hrd]; exact c
      simp only [spec_l2Put.l0]; rw [if_pos (by omega), if_pos (by omega), if_pos hb, wrap_up hi (by omega)]
    · have e : i = posK pk l (pk z) := by have := (not_congr (posK_iff hr _ i hi)).1 c; omega
      rw [← e]
      exact fin i (by omega) (fun _ => by rw [hrd]; exact c)
theorem put_is {l : List ZZ} (hr : Rises pk l) (hl : l.length ≤ 20) (z : ZZ) : Ev (fun k => spec_l2Put.f k l z.f0 z.f1 z.f2 z.f3 z.f4) (insAt l (posK pk l (pk z)) z) := put_l0 hr hl z l.length 0 (by omega) (Nat.zero_le _)
theorem make_spec {l m : List ZZ} (hk : l.map pk = m.map pk) (hr : Rises pk l) (hl : l.length ≤ 20) (q : ByteArray) (d o : Int) : Ev (fun k => spec_l2Create.j1 k l q d o m) (makeR m q d o) := by
  have hlm : m.length = l.length := by have := congrArg List.length hk; simpa using this.symm
  obtain ⟨e1, e2⟩ := same_keys hk q.data.toList
  unfold makeR
  refine ev_step _ (fun k => by simp only [spec_l2Create.j1]; rfl) (ev_call (at_is hr (by omega) q) ?_)
  rw [e1, e2]
  cases c : hereK pk m q.data.toList with
  | true =>
    rw [if_pos rfl, if_pos rfl]
    exact ev_is fun k => if_pos (by omega)
  | false =>
    rw [if_neg (by simp), if_neg (by simp)]
    refine ev_cong (fun k => if_neg (by omega)) ?_
    by_cases c2 : m.length = 20
    · rw [if_pos c2]
      exact ev_is fun k => if_pos (by omega)
    · rw [if_neg c2]
      exact ev_cong (fun k => if_neg (by omega)) (ev_call (put_is (same_rise hk hr) (by omega) (⟨q, d, 0, o, 0⟩ : ZZ)) (Ev.now _))
noncomputable def createUp (l : List ZZ) (q : ByteArray) (p : Nat) (d o : Int) (b : Bool) : ZR :=
  if b = true then (if (rd_T32 l (p : Int)).f4 = 100 then badZ 3 else
    (if nameB (seqT (nmR q) (rd_T32 l (p : Int)).f4) = true then
      (if faultR (joinR (upR q) (seqT (nmR q) (rd_T32 l (p : Int)).f4)) = 0 then makeR (nextUp l (p : Int)) (joinR (upR q) (seqT (nmR q) (rd_T32 l (p : Int)).f4)) d o else badZ (faultR (joinR (upR q) (seqT (nmR q) (rd_T32 l (p : Int)).f4))))
      else badZ 5)) else makeR l q d o
noncomputable def createIn (l : List ZZ) (q : ByteArray) (d o : Int) (b : Bool) : ZR :=
  if (0 ≤ d ∧ d ≤ 9999) ∧ (0 ≤ o ∧ o ≤ 9) then (if q.data.toList = [47] then badZ 1 else
    (if hereK pk l (upR q).data.toList = true then
      (if (rd_T32 l (posK pk l (upR q).data.toList : Int)).f3 = 0 then createUp l q (posK pk l (upR q).data.toList) d o b else badZ 8) else badZ 4)) else badZ 3
theorem next_le {l : List ZZ} (hg : ∀ z ∈ l, zOwn z = 0) {p : Nat} (hp : p < l.length) : 0 ≤ (rd_T32 l (p : Int)).f4 ∧ (rd_T32 l (p : Int)).f4 ≤ 100 := by
  rw [rd_T32_at hp]
  have := (zOwn_ok (hg _ (List.getElem_mem hp))).2
  unfold zIn at this
  simp only [Bool.and_eq_true, decide_eq_true_eq] at this
  exact this.2.2.2
set_option maxHeartbeats 1000000 in
theorem create_j0_spec {l : List ZZ} (hg : ∀ z ∈ l, zOwn z = 0) (hr : Rises pk l) (hl : l.length ≤ 20) {q : ByteArray} (hq : faultR q = 0) (d o : Int) (b : Bool) (hdo : (0 ≤ d ∧ d ≤ 9999) ∧ (0 ≤ o ∧ o ≤ 9)) : Ev (fun k => spec_l2Create.j0 k l q d o b false) (createIn l q d o b) := by
  have hsz := upR_size hq
  unfold createIn
  rw [if_pos hdo]
  by_cases h1 : q.data.toList = [47]
  · rw [if_pos h1]
    exact ev_done fun k => by simp only [spec_l2Create.j0]; rw [if_neg (by simp), if_pos (by rw [tl]; exact h1)]; rfl
  · rw [if_neg h1]
    refine ev_step _ (fun k => by simp only [spec_l2Create.j0]; rw [if_neg (by simp), if_neg (by rw [tl]; exact h1)]) (ev_call (parent_is hq) (ev_call (at_is hr (by omega) (upR q)) ?_))
    cases c : hereK pk l (upR q).data.toList with
    | false =>
      rw [if_neg (by simp), if_neg (by simp)]
      exact ev_is fun k => if_pos (by omega)
    | true =>
      have hp := hereK_lt c
      rw [if_pos rfl, if_pos rfl]
      generalize posK pk l (upR q).data.toList = p at hp
      refine ev_cong (fun k => (if_neg (by omega)).trans ((if_pos (by omega)).trans (if_pos (by omega)))) ?_
      by_cases c2 : (rd_T32 l (p : Int)).f3 = 0
      · rw [if_pos c2]
        refine ev_cong (fun k => if_pos c2) (ev_call (ev_is fun _ => copy_spec l (by omega)) ?_)
        unfold createUp
        cases b with
        | false =>
          rw [if_neg (by simp)]
          exact ev_cong (fun k => if_neg (by simp)) (make_spec rfl hr hl q d o)
        | true =>
          rw [if_pos rfl]
          refine ev_cong (fun k => if_pos rfl) ?_
          have hn := next_le hg hp
          by_cases c3 : (rd_T32 l (p : Int)).f4 = 100
          · rw [if_pos c3]
            exact ev_is fun k => if_pos (by omega)
          · rw [if_neg c3]
            obtain ⟨_, m, h6, h7, _, h9⟩ := upN_spec hq
            have hq24 := (path_mark hq).1
            have hseq := seq_spec (nmR q) (rd_T32 l (p : Int)).f4 (by omega) (by omega)
            have hsl := seqT_size (nmR q) (rd_T32 l (p : Int)).f4
            generalize hS : seqT (nmR q) (rd_T32 l (p : Int)).f4 = S at hseq hsl
            refine ev_cong (fun k => if_neg (by omega)) (ev_call h9 ?_)
            rw [h7] at hseq
            refine ev_cong (f := fun k => (spec_l1Seq.f k (q.extract (m + 1) q.size) (rd_T32 l (p : Int)).f4).bind fun t137 => ((spec_l1Name.f k t137).bind fun t138 => (if t138 = true then ((spec_l1Parent.f k q).bind fun t144 => ((spec_l1Seq.f k (q.extract (m + 1) q.size) (rd_T32 l (p : Int)).f4).bind fun t145 => ((spec_l1Join.f t144 t145).bind fun t146 => ((spec_l1Fault.f k t146).bind fun t147 => (if t147 = 0 then (if (p : Int) < (l.length : Int) then (spec_l2Create.j1 k l t146 d o (nextUp l (p : Int))) else (none)) else ((spec_l2Bad.f t147).bind fun bt149 => (some (bt149.1, bt149.2.1, bt149.2.2)))))))) else ((spec_l2Bad.f 5).bind fun bt139 => (some (bt139.1, bt139.2.1, bt139.2.2)))))) (fun k => ?_) ?_
            · have b1 : (0 : Int) ≤ ((m + 1 : Nat) : Int) := by omega
              have b2 : ((m + 1 : Nat) : Int) ≤ (q.size : Int) := by omega
              have wm := w_up m (by omega)
              rw [wm, if_pos b1, if_pos b2, Int.toNat_natCast]; rfl
            · refine ev_call hseq (ev_call (name_spec S (by omega)) ?_)
              by_cases c4 : nameB S = true
              · rw [if_pos c4]
                refine ev_cong (fun k => if_pos c4) (ev_call (parent_is hq) (ev_call hseq (ev_call (ev_is fun _ => join_spec (upR q) S hsz.1 (by omega)) (ev_call (fault_spec _) ?_))))
                by_cases c5 : faultR (joinR (upR q) S) = 0
                · rw [if_pos c5]
                  exact ev_cong (fun k => (if_pos c5).trans (if_pos (by omega))) (make_spec (nextUp_keys l p hp).symm hr hl _ d o)
                · rw [if_neg c5]
                  exact ev_is fun k => if_neg c5
              · rw [if_neg c4]
                exact ev_is fun k => if_neg c4
      · rw [if_neg c2]
        exact ev_is fun k => if_neg c2
theorem create_in_spec {l : List ZZ} (hg : ∀ z ∈ l, zOwn z = 0) (hr : Rises pk l) (hl : l.length ≤ 20) {q : ByteArray} (hq : faultR q = 0) (d o : Int) (b : Bool) : Ev (fun k => spec_l2Create.f k l q d o b) (createIn l q d o b) := by
  unfold spec_l2Create.f spec_l2Data.f spec_l2Owner.f
  rw [spec_l1In_is, spec_l1In_is]
  simp only [Option.bind_some]
  by_cases h1 : 0 ≤ d ∧ d ≤ 9999
  · refine ev_cong (fun k => if_pos (decide_eq_true h1)) ?_
    by_cases h2 : 0 ≤ o ∧ o ≤ 9
    · rw [decide_eq_true h2]
      exact create_j0_spec hg hr hl hq d o b ⟨h1, h2⟩
    · rw [decide_eq_false h2]
      unfold createIn
      rw [if_neg (fun h => h2 h.2)]
      exact ev_done fun k => by simp only [spec_l2Create.j0]; rw [if_pos (by simp)]; rfl
  · refine ev_cong (fun k => if_neg (by simpa using h1)) ?_
    unfold createIn
    rw [if_neg (fun h => h1 h.1)]
    exact ev_done fun k => by simp only [spec_l2Create.j0]; rw [if_pos trivial]; rfl
theorem makeR_len (l : List ZZ) (q : ByteArray) (d o : Int) : (makeR l q d o).2.2.length ≤ l.length + 1 := by
  unfold makeR badZ
  split
  · simp
  · split
    · simp
    · show (insAt l _ _).length ≤ _
      unfold insAt
      rw [List.length_append, List.length_append, List.length_take, List.length_drop, List.length_singleton]
      omega
end Go.Proofs.YtegggpipggniaaaDoor.Pure

/- The names of kids, by the reference. -/
namespace Go.Proofs.YtegggpipggniaaaDoor.Pure
open Go.RowKit Go.Proofs.YtegggpipggniaaaDoor.Qa Go.Proofs.YtegggpipggniaaaDoorW.PrintWords Go.Proofs.YtegggpipggniaaaDoorW.PrintLast Go.Proofs.YtegggpipggniaaaDoor.Aid
noncomputable def kidsL (q : ByteArray) : List ZZ → List ByteArray
  | [] => []
  | z :: r => if pk z = [47] then kidsL q r else if (upR z.f0).data.toList = q.data.toList then nmR z.f0 :: kidsL q r else kidsL q r
theorem kidsL_cons (q : ByteArray) (z : ZZ) (r : List ZZ) : kidsL q (z :: r) = if pk z = [47] then kidsL q r else if (upR z.f0).data.toList = q.data.toList then nmR z.f0 :: kidsL q r else kidsL q r := rfl
theorem kidsL_len (q : ByteArray) : ∀ l : List ZZ, (kidsL q l).length ≤ l.length
  | [] => Nat.le_refl _
  | z :: r => by
    have := kidsL_len q r
    rw [kidsL_cons, List.length_cons]
    split
    · omega
    · split
      · rw [List.length_cons]; omega
      · omega
theorem kids_spec_l0 {l : List ZZ} (hg : ∀ z ∈ l, zOwn z = 0) (hl : l.length ≤ 20) (q : ByteArray) (d : Nat) : ∀ (i : Nat) (out : List ByteArray), i + d = l.length → out.length ≤ i → Ev (fun k => spec_l2Kids.l0 k l q out (i : Int)) (out ++ kidsL q (l.drop i)) := by
  induction d with
  | zero =>
    intro i out h ho
    rw [drop_end (by omega)]
    exact ev_done fun k => by simp only [spec_l2Kids.l0]; rw [if_neg (by omega)]; simp [kidsL]
  | succ d ih =>
    intro i out h ho
    have hi : i < l.length := by omega
    have hrd := rd_T32_at hi
    have wi := wrap_up hi (by omega)
    obtain ⟨hf, _⟩ := zOwn_ok (hg _ (List.getElem_mem hi))
    rw [drop_at hi, kidsL_cons]
    by_cases c : pk l[i] = [47]
    · rw [if_pos c]
      refine ev_step (fun k => spec_l2Kids.l0 k l q out ((i + 1 : Nat) : Int)) (fun k => ?_) (ih (i + 1) out (by omega) (by omega))
      simp only [spec_l2Kids.l0]; rw [if_pos (by omega), if_pos (by omega), hrd, if_pos (show (l[i]).f0.toList = [47] by rw [tl]; exact c), wi]
    · rw [if_neg c]
      refine ev_step (fun k => (spec_l1Parent.f k (l[i]).f0).bind fun t105 => (if t105.toList = q.toList then ((spec_l1Last.f k (l[i]).f0).bind fun t106 => (if 0 ≤ (wrap64 (t106 + 1)) then (if (wrap64 (t106 + 1)) ≤ ((l[i]).f0.size : Int) then (if out.length < 8796093022208 then (spec_l2Kids.l0 k l q (out ++ [((l[i]).f0).extract ((wrap64 (t106 + 1)) : Int).toNat (l[i]).f0.size]) ((i + 1 : Nat) : Int)) else (none)) else (none)) else (none))) else (spec_l2Kids.l0 k l q out ((i + 1 : Nat) : Int)))) (fun k => ?_) (ev_call (parent_is hf) ?_)
      · simp only [spec_l2Kids.l0]; rw [if_pos (by omega), if_pos (by omega), hrd, if_neg (show ¬ (l[i]).f0.toList = [47] by rw [tl]; exact c), wi]
      · by_cases c2 : (upR (l[i]).f0).data.toList = q.data.toList
        · rw [if_pos c2]
          obtain ⟨_, p, h6, h7, _, h9⟩ := upN_spec hf
          have hsz := (path_mark hf).1
          have wp := w_up p (by omega)
          have IH := ih (i + 1) (out ++ [nmR (l[i]).f0]) (by omega) (by rw [List.length_append]; simp; omega)
          rw [List.append_assoc] at IH
          refine ev_cong (fun k => if_pos (by rw [tl, tl]; exact c2)) (ev_call h9 (ev_cong (fun k => ?_) IH))
          rw [wp, if_pos (by omega), if_pos (by omega), if_pos (by omega), Int.toNat_natCast, ← h7]
        · rw [if_neg c2]
          exact ev_cong (fun k => if_neg (by rw [tl, tl]; exact c2)) (ih (i + 1) out (by omega) (by omega))
theorem kids_spec {l : List ZZ} (hg : ∀ z ∈ l, zOwn z = 0) (hl : l.length ≤ 20) (q : ByteArray) : Ev (fun k => spec_l2Kids.f k l q) (kidsL q l) := by
  have := kids_spec_l0 hg hl q l.length 0 [] (by omega) (Nat.le_refl _)
  rw [List.nil_append, List.drop_zero] at this
  exact this
end Go.Proofs.YtegggpipggniaaaDoor.Pure

/- A node taken from a right tree, by the reference. -/
namespace Go.Proofs.YtegggpipggniaaaDoor.Pure
open Go.RowKit Go.Proofs.YtegggpipggniaaaDoor.Qa Go.Proofs.YtegggpipggniaaaDoorW.PrintWords Go.Proofs.YtegggpipggniaaaDoorW.PrintLast Go.Proofs.YtegggpipggniaaaDoor.Aid
def goneAt (l : List ZZ) (p : Nat) : List ZZ := l.take p ++ l.drop (p + 1)
noncomputable def deleteIn (l : List ZZ) (q : ByteArray) (v : Int) : ZR :=
  if q.data.toList = [47] then badZ 1 else if hereK pk l q.data.toList = true then
    (if v = -1 ∨ v = (rd_T32 l (posK pk l q.data.toList : Int)).f2 then (if kidsL q l = [] then (0, (⟨#[]⟩ : ByteArray), goneAt l (posK pk l q.data.toList)) else badZ 8) else badZ 7) else badZ 4
theorem del_top {l : List ZZ} {q : ByteArray} {v : Int} (h : q.data.toList = [47]) : deleteIn l q v = badZ 1 := by unfold deleteIn; exact if_pos h
theorem del_none {l : List ZZ} {q : ByteArray} {v : Int} (h : ¬ q.data.toList = [47]) (c : ¬ hereK pk l q.data.toList = true) : deleteIn l q v = badZ 4 := by unfold deleteIn; exact (if_neg h).trans (if_neg c)
theorem del_ver {l : List ZZ} {q : ByteArray} {v : Int} (h : ¬ q.data.toList = [47]) (c : hereK pk l q.data.toList = true) (hv : ¬ (v = -1 ∨ v = (rd_T32 l (posK pk l q.data.toList : Int)).f2)) : deleteIn l q v = badZ 7 := by unfold deleteIn; exact (if_neg h).trans ((if_pos c).trans (if_neg hv))
theorem del_kids {l : List ZZ} {q : ByteArray} {v : Int} (h : ¬ q.data.toList = [47]) (c : hereK pk l q.data.toList = true) (hv : v = -1 ∨ v = (rd_T32 l (posK pk l q.data.toList : Int)).f2) (hk : ¬ kidsL q l = []) : deleteIn l q v = badZ 8 := by unfold deleteIn; exact (if_neg h).trans ((if_pos c).trans ((if_pos hv).trans (if_neg hk)))
theorem del_ok {l : List ZZ} {q : ByteArray} {v : Int} (h : ¬ q.data.toList = [47]) (c : hereK pk l q.data.toList = true) (hv : v = -1 ∨ v = (rd_T32 l (posK pk l q.data.toList : Int)).f2) (hk : kidsL q l = []) : deleteIn l q v = (0, (⟨#[]⟩ : ByteArray), goneAt l (posK pk l q.data.toList)) := by unfold deleteIn; exact (if_neg h).trans ((if_pos c).trans ((if_pos hv).trans (if_pos hk)))
theorem kids_pos {q : ByteArray} {l : List ZZ} (h : ¬ kidsL q l = []) : ((kidsL q l).length : Int) > 0 := by
  cases hk : kidsL q l with
  | nil => exact absurd hk h
  | cons x r => rw [List.length_cons]; omega
theorem delete_l2 {l : List ZZ} (hg : ∀ z ∈ l, zOwn z = 0) (hl : l.length ≤ 20) (q : ByteArray) (p : Nat) (hp : p < l.length) (b : Bool) (R : ZR) (h7 : b = true → R = badZ 7) (h8 : b = false → ¬ kidsL q l = [] → R = badZ 8) (h0 : b = false → kidsL q l = [] → R = (0, (⟨#[]⟩ : ByteArray), goneAt l p)) : Ev (fun k => spec_l2Delete.j0 k l q (p : Int) b) R := by
  cases b with
  | true =>
    rw [h7 rfl]
    exact ev_done fun k => by simp only [spec_l2Delete.j0]; rw [if_pos trivial]; rfl
  | false =>
    refine ev_step _ (fun k => by simp only [spec_l2Delete.j0]; rw [if_neg (by simp)]) (ev_call (kids_spec hg hl q) ?_)
    by_cases hk : kidsL q l = []
    · rw [h0 rfl hk, hk]
      have ht : (l.take p).length ≤ 20 := by rw [List.length_take]; omega
      have hd : (l.drop (p + 1)).length ≤ 20 := by rw [List.length_drop]; omega
      have b0 : (0 : Int) ≤ (p : Int) := by omega
      have b1 : (p : Int) ≤ (l.length : Int) := by omega
      have b2 : (l.take p).length < 2932031007402 := by omega
      have b3 : (0 : Int) ≤ ((p + 1 : Nat) : Int) := by omega
      have b4 : ((p + 1 : Nat) : Int) ≤ (l.length : Int) := by omega
      have b5 : (l.take p).length + (l.drop (p + 1)).length < 2932031007402 := by omega
      have wp := w_up p (by omega)
      refine ev_is fun k => ?_
      rw [if_neg (show ¬ (([] : List ByteArray).length : Int) > 0 by simp)]
      simp only [Option.bind_some, List.nil_append, List.length_nil, Nat.zero_add, Int.toNat_natCast, wp, b0, b1, b2, b3, b4, b5, if_true]
      rfl
    · rw [h8 rfl hk]
      exact ev_is fun k => if_pos (kids_pos hk)
theorem delete_in_spec {l : List ZZ} (hg : ∀ z ∈ l, zOwn z = 0) (hr : Rises pk l) (hl : l.length ≤ 20) (q : ByteArray) (v : Int) : Ev (fun k => spec_l2Delete.f k l q v) (deleteIn l q v) := by
  unfold spec_l2Delete.f
  by_cases h : q.data.toList = [47]
  · rw [del_top h]
    exact ev_is fun k => if_pos (by rw [tl]; exact h)
  · refine ev_cong (fun k => if_neg (by rw [tl]; exact h)) (ev_call (at_is hr (by omega) q) ?_)
    by_cases c : hereK pk l q.data.toList = true
    · have hp := hereK_lt c
      have ei : (if hereK pk l q.data.toList = true then (posK pk l q.data.toList : Int) else -1) = (posK pk l q.data.toList : Int) := if_pos c
      have h7 : ¬ (v = -1 ∨ v = (rd_T32 l (posK pk l q.data.toList : Int)).f2) → deleteIn l q v = badZ 7 := del_ver h c
      have h8 := fun hv hk => del_kids (l := l) (q := q) (v := v) h c hv hk
      have h0 := fun hv hk => del_ok (l := l) (q := q) (v := v) h c hv hk
      rw [ei]
      generalize posK pk l q.data.toList = p at hp h7 h8 h0
      refine ev_cong (fun k => if_neg (by omega)) ?_
      by_cases h2 : v = -1
      · exact ev_cong (fun k => if_pos h2) (delete_l2 hg hl q p hp false _ (fun h => by cases h) (fun _ hk => h8 (.inl h2) hk) (fun _ hk => h0 (.inl h2) hk))
      · refine ev_cong (fun k => (if_neg h2).trans ((if_pos (by omega)).trans (if_pos (by omega)))) (delete_l2 hg hl q p hp _ _ (fun hb => h7 ?_) (fun hb hk => h8 ?_ hk) (fun hb hk => h0 ?_ hk))
        · have := bne_iff_ne.1 hb
          rintro (h3 | h3)
          · exact h2 h3
          · exact this h3
        · exact .inr (by simpa using hb)
        · exact .inr (by simpa using hb)
    · rw [del_none h c]
      have ei : (if hereK pk l q.data.toList = true then (posK pk l q.data.toList : Int) else -1) = -1 := if_neg c
      rw [ei]
      exact ev_is fun k => if_pos (by omega)
end Go.Proofs.YtegggpipggniaaaDoor.Pure
