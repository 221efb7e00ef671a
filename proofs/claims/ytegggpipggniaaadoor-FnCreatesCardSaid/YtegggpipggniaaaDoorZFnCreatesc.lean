/- A part of the proof that for every input the law FnCreates returns true: no condition. Functions of the translation, each proved to do what a plain Lean function tells, and what these tell. -/
import Derived.Test.YtegggpipggniaaaDoorQax0
import Derived.Test.YtegggpipggniaaaDoorQax15
import Derived.Test.YtegggpipggniaaaDoorQax19
import Derived.Test.YtegggpipggniaaaDoorQax2
import Derived.Test.YtegggpipggniaaaDoorQax20
import Derived.Test.YtegggpipggniaaaDoorQax22
import Derived.Test.YtegggpipggniaaaDoorQax66
import Derived.Test.YtegggpipggniaaaDoorZFnCreatesa
import Derived.Test.YtegggpipggniaaaDoorZFnCreatesb
import Derived.Test.YtegggpipggniaaaDoorWWords
import Derived.Deep.Slices
import Derived.ChangeArms
import Derived.Test.YtegggpipggniaaaDoorQax7
import Derived.Test.YtegggpipggniaaaDoorQax10
import Derived.Test.YtegggpipggniaaaDoorQax11
import Derived.Test.YtegggpipggniaaaDoorQax12
import Derived.Test.YtegggpipggniaaaDoorQax13
import Derived.Test.YtegggpipggniaaaDoorQax14
import Derived.Test.YtegggpipggniaaaDoorQax17
import Derived.Test.YtegggpipggniaaaDoorQax18
import Derived.Lib.Bytealg
import Derived.Test.YtegggpipggniaaaDoorQax16
import Derived.Test.YtegggpipggniaaaDoorQax3
import Derived.Test.YtegggpipggniaaaDoorQax4
import Derived.Test.YtegggpipggniaaaDoorQax5
import Derived.Test.YtegggpipggniaaaDoorQax6
import Derived.Test.YtegggpipggniaaaDoorQax8
import Derived.Test.YtegggpipggniaaaDoorQax9
namespace Go.Proofs.YtegggpipggniaaaDoor.Qa
open Go.RowKit Go.Proofs.YtegggpipggniaaaDoorW.PrintWords Go.Proofs.YtegggpipggniaaaDoorW.PrintLast Go.Proofs.YtegggpipggniaaaDoorW.PrintMore
attribute [local go_sem] max2_int min2_int max_two min_two max_three min_three max_four min_four
set_option linter.unusedVariables false
set_option linter.unusedSimpArgs false
set_option maxHeartbeats 8000000
set_option maxRecDepth 100000
def impl_ParentOf.f (k : Nat) (a0 : ByteArray) : Option (Int × ByteArray) := (impl_PathFault.f k a0).bind fun t102 => (if t102 = 0 then (if a0.toList = ([47] : List UInt8) then (some (4, (⟨#[]⟩ : ByteArray))) else ((impl_parted.f k a0).bind fun bt103 => (some (0, bt103.1)))) else (some (t102, (⟨#[]⟩ : ByteArray))))
theorem impl_ParentOf.mono : ∀ a0 k, LeO (impl_ParentOf.f k a0) (impl_ParentOf.f (k + 1) a0) := by
 intro a0 k
 unfold impl_ParentOf.f
 with_reducible repeat' first | exact impl_PathFault.mono _ _ | exact impl_parted.mono _ _ | exact LeO.refl _ | exact LeO.none _ | refine LeO.ite ?_ ?_ | refine LeO.bind ?_ (fun _ => ?_)
theorem impl_ParentOf.calls (k : Nat) (a0 : ByteArray) (r1 : Int) (r2 : ByteArray) (w : World) (h : impl_ParentOf.f k a0 = some (r1, r2)) :
  Calls Tryd.prog 21 #[.string a0] w fun e w' => e = .returned (.agg #[.int .i64 r1, .string r2]) ∧ Below w.heap.size w w' := by
 have hu46 := Tryd.underlying46
 have HB := aa (Below.refl w.heap.size w)
 have H : ((impl_PathFault.f k a0).bind fun t102 => (if t102 = 0 then (if a0.toList = ([47] : List UInt8) then (some (4, (⟨#[]⟩ : ByteArray))) else ((impl_parted.f k a0).bind fun bt103 => (some (0, bt103.1)))) else (some (t102, (⟨#[]⟩ : ByteArray))))) = some (r1, r2) := h
 clear h
 revert H
 refine obs_ fun t102 A2 H => ?_
 revert H
 refine itE_ (fun c3b0 c3b1 H => ?_) fun c3b0 c3b1 H => ?_
 ·
  revert H
  refine itE_ (fun c4b0 c4b1 H => ?_) fun c4b0 c4b1 H => ?_
  ·
   simp only [Option.some.injEq, Prod.mk.injEq] at H
   obtain ⟨rfl, rfl⟩ := H
   go_enter Tryd.func21, Tryd.ntmps21
   go_wp2_with (first | (refine be_ 2 #[.int .i64 0, .string (⟨#[]⟩ : ByteArray)] 46 ?_; intro gb101 hg w5 hbox hb; have n0_ := aa (below_step zjjbob hb); have n1_ := aa (hbox); have n2_ := aa ((zkpfjp : w.heap.size ≤ gb101)); have n3_ := aa ((zkpfjp : w.heap.size ≤ gb101)); clear HB; have HB := n0_; have BK101 := n1_; have GW101 := n2_; have GE101 := n3_; clear n0_ n1_ n2_ n3_; clear hb hbox hg) | (refine gc_ Tryd.func44 (some 7) #[.string a0] ?_; (with_reducible refine (impl_PathFault.calls k a0 t102 _ A2.out).mono ?_); rintro e w6 ⟨rfl, hb⟩; refine ⟨_, rfl, ?_⟩; replace BK101 := aa (bb_ BK101.out hb); replace HB := aa (below_step zkmbdh hb); (try clear hb hk hi); obtain ⟨hcz7_0, hcz7_1, hfz7_0, hfz7_1⟩ := blk2_ BK101.out))
   refine bodyPost_ret (results_cell_row rfl _ _ gb101 46 #[.int .i64 4, .string (⟨#[]⟩ : ByteArray)] (0, 0) _ rfl (by (with_reducible repeat (first | refine blk_drewN ?_ _ | refine blk_drew ?_ | refine blk_alloc ?_ _)); refine blk_put (cs := #[.int .i64 4, .string (⟨#[]⟩ : ByteArray)]) ?_ 1 _ rfl; (with_reducible repeat (first | refine blk_drewN ?_ _ | refine blk_drew ?_ | refine blk_alloc ?_ _)); refine blk_put (cs := #[.int .i64 0, .string (⟨#[]⟩ : ByteArray)]) ?_ 0 _ rfl; (with_reducible repeat (first | refine blk_drewN ?_ _ | refine blk_drew ?_ | refine blk_alloc ?_ _)); exact BK101.out) Tryd.underlying46 rfl (by kernel_rfl)) rfl ?_
   exact ⟨zlhpib, zkmbdh⟩
  revert H
  refine ob2_ fun t103 t104 A8 H => ?_
  (try dsimp only at H)
  simp only [Option.some.injEq, Prod.mk.injEq] at H
  obtain ⟨rfl, rfl⟩ := H
  go_enter Tryd.func21, Tryd.ntmps21
  go_wp2_with (first | (refine be_ 2 #[.int .i64 0, .string (⟨#[]⟩ : ByteArray)] 46 ?_; intro gb101 hg w9 hbox hb; have n0_ := aa (below_step zjjbob hb); have n1_ := aa (hbox); have n2_ := aa ((zkpfjp : w.heap.size ≤ gb101)); have n3_ := aa ((zkpfjp : w.heap.size ≤ gb101)); clear HB; have HB := n0_; have BK101 := n1_; have GW101 := n2_; have GE101 := n3_; clear n0_ n1_ n2_ n3_; clear hb hbox hg) | (refine gc_ Tryd.func44 (some 7) #[.string a0] ?_; (with_reducible refine (impl_PathFault.calls k a0 t102 _ A2.out).mono ?_); rintro e w10 ⟨rfl, hb⟩; refine ⟨_, rfl, ?_⟩; replace BK101 := aa (bb_ BK101.out hb); replace HB := aa (below_step zkmbdh hb); (try clear hb hk hi)) | (refine gc_ Tryd.func37 (some 19) #[.string a0] ?_; (with_reducible refine (impl_parted.calls k a0 t103 t104 _ A8.out).mono ?_); rintro e w11 ⟨rfl, hb⟩; refine ⟨_, rfl, ?_⟩; replace BK101 := aa (bb_ BK101.out hb); replace HB := aa (below_step zkmbdh hb); (try clear hb hk hi); obtain ⟨hcz12_0, hcz12_1, hfz12_0, hfz12_1⟩ := blk2_ BK101.out))
  refine bodyPost_ret (results_cell_row rfl _ _ gb101 46 #[.int .i64 0, .string t103] (0, 0) _ rfl zghkph Tryd.underlying46 rfl (by kernel_rfl)) rfl ?_
  exact ⟨zlhpib, zkmbdh⟩
 simp only [Option.some.injEq, Prod.mk.injEq] at H
 obtain ⟨rfl, rfl⟩ := H
 go_enter Tryd.func21, Tryd.ntmps21
 go_wp2_with (first | (refine be_ 2 #[.int .i64 0, .string (⟨#[]⟩ : ByteArray)] 46 ?_; intro gb101 hg w13 hbox hb; have n0_ := aa (below_step zjjbob hb); have n1_ := aa (hbox); have n2_ := aa ((zkpfjp : w.heap.size ≤ gb101)); have n3_ := aa ((zkpfjp : w.heap.size ≤ gb101)); clear HB; have HB := n0_; have BK101 := n1_; have GW101 := n2_; have GE101 := n3_; clear n0_ n1_ n2_ n3_; clear hb hbox hg) | (refine gc_ Tryd.func44 (some 7) #[.string a0] ?_; (with_reducible refine (impl_PathFault.calls k a0 t102 _ A2.out).mono ?_); rintro e w14 ⟨rfl, hb⟩; refine ⟨_, rfl, ?_⟩; replace BK101 := aa (bb_ BK101.out hb); replace HB := aa (below_step zkmbdh hb); (try clear hb hk hi); obtain ⟨hcz15_0, hcz15_1, hfz15_0, hfz15_1⟩ := blk2_ BK101.out))
 refine bodyPost_ret (results_cell_row rfl _ _ gb101 46 #[.int .i64 t102, .string (⟨#[]⟩ : ByteArray)] (0, 0) _ rfl (by (with_reducible repeat (first | refine blk_drewN ?_ _ | refine blk_drew ?_ | refine blk_alloc ?_ _)); refine blk_put (cs := #[.int .i64 t102, .string (⟨#[]⟩ : ByteArray)]) ?_ 1 _ rfl; (with_reducible repeat (first | refine blk_drewN ?_ _ | refine blk_drew ?_ | refine blk_alloc ?_ _)); refine blk_put (cs := #[.int .i64 0, .string (⟨#[]⟩ : ByteArray)]) ?_ 0 _ rfl; (with_reducible repeat (first | refine blk_drewN ?_ _ | refine blk_drew ?_ | refine blk_alloc ?_ _)); exact BK101.out) Tryd.underlying46 rfl (by kernel_rfl)) rfl ?_
 exact ⟨zlhpib, zkmbdh⟩
mutual
def laws_FnCreates.j0 : Nat → List Int → Option (Bool)
 | 0, _ => none
 | k + 1, x0 => (spec_DrawCreateZ.f k x0).bind fun bt102 => ((impl_CreateZ.f k bt102.1 bt102.2.1 bt102.2.2.1 bt102.2.2.2.1 bt102.2.2.2.2).bind fun bt109 => (if bt109.1 = 0 then (laws_FnCreates.j1 k bt102.1 bt102.2.1 bt102.2.2.1 bt102.2.2.2.1 bt102.2.2.2.2 bt109.1 bt109.2.1 bt109.2.2) else ((spec_CreateZ.f k bt102.1 bt102.2.1 bt102.2.2.1 bt102.2.2.2.1 bt102.2.2.2.2).bind fun bt115 => (some (bt115.1 == bt109.1)))))
def laws_FnCreates.j1 : Nat → List (S32) → ByteArray → Int → Int → Bool → Int → ByteArray → List (S32) → Option (Bool)
 | 0, _, _, _, _, _, _, _, _ => none
 | k + 1, x3, x4, x5, x6, x7, x115000, x115001, x115002 => (impl_GetZ.f k x115002 x115001).bind fun bt120 => ((impl_ParentOf.f k x115001).bind fun bt126 => ((impl_KidsZ.f k x115002 bt126.2).bind fun bt128 => ((impl_ParentOf.f k x115001).bind fun bt133 => ((impl_KidsZ.f k x3 bt133.2).bind fun bt135 => (laws_FnCreates.l0 k x3 x4 x5 x6 x7 0 x115000 x115001 x115002 bt120.1 bt120.2.1 bt120.2.2 bt128.1 bt128.2 bt135.1 bt135.2)))))
def laws_FnCreates.l0 : Nat → List (S32) → ByteArray → Int → Int → Bool → Int → Int → ByteArray → List (S32) → Int → ByteArray → List (S32) → Int → List ByteArray → Int → List ByteArray → Option (Bool)
 | 0, _, _, _, _, _, _, _, _, _, _, _, _, _, _, _, _ => none
 | k + 1, x3, x4, x5, x6, x7, x12, x115000, x115001, x115002, x126000, x126001, x126002, x133000, x133001, x140000, x140001 => if x12 < (x3.length : Int) then (if 0 ≤ x12 then ((impl_GetZ.f k x115002 ((rd_T32 x3 x12).f0)).bind fun bt141 => (if bt141.1 = 0 then (if (bt141.2.2.length : Int) = 1 then (if 0 < (bt141.2.2.length : Int) then (if ((rd_T32 bt141.2.2 0).f1) = ((rd_T32 x3 x12).f1) then (if ((rd_T32 bt141.2.2 0).f2) = ((rd_T32 x3 x12).f2) then (if ((rd_T32 bt141.2.2 0).f3) = ((rd_T32 x3 x12).f3) then (laws_FnCreates.l0 k x3 x4 x5 x6 x7 (wrap64 (x12 + 1)) x115000 x115001 x115002 x126000 x126001 x126002 x133000 x133001 x140000 x140001) else (some false)) else (some false)) else (some false)) else (none)) else (some false)) else (some false))) else (none)) else ((impl_TreeFault.f k x115002).bind fun t153 => (if t153 = 0 then (if (x115002.length : Int) = (wrap64 ((x3.length : Int) + 1)) then (if x126000 = 0 then (if (x126002.length : Int) = 1 then (if 0 < (x126002.length : Int) then (if ((rd_T32 x126002 0).f1) = x5 then (if ((rd_T32 x126002 0).f3) = x6 then (if (x133001.length : Int) = (wrap64 ((x140001.length : Int) + 1)) then (if x7 = true then ((impl_GetZ.f k x3 x115001).bind fun bt156 => (some (bt156.1 == 4))) else (if x115001.toList = x4.toList then ((impl_GetZ.f k x3 x115001).bind fun bt161 => (some (bt161.1 == 4))) else (some false))) else (some false)) else (some false)) else (some false)) else (none)) else (some false)) else (some false)) else (some false)) else (some false)))
end
def laws_FnCreates.f (k : Nat) (l0 : List Int) : Option (Bool) := (laws_lwBig.f l0).bind fun t101 => (if t101 = true then (some true) else (laws_FnCreates.j0 k l0))
theorem laws_FnCreates.mono_l : ∀ k, (∀ y0, LeO (laws_FnCreates.j0 k y0) (laws_FnCreates.j0 (k + 1) y0)) ∧ (∀ y0 y1 y2 y3 y4 y5 y6 y7, LeO (laws_FnCreates.j1 k y0 y1 y2 y3 y4 y5 y6 y7) (laws_FnCreates.j1 (k + 1) y0 y1 y2 y3 y4 y5 y6 y7)) ∧ (∀ y0 y1 y2 y3 y4 y5 y6 y7 y8 y9 y10 y11 y12 y13 y14 y15, LeO (laws_FnCreates.l0 k y0 y1 y2 y3 y4 y5 y6 y7 y8 y9 y10 y11 y12 y13 y14 y15) (laws_FnCreates.l0 (k + 1) y0 y1 y2 y3 y4 y5 y6 y7 y8 y9 y10 y11 y12 y13 y14 y15))
 | 0 => ⟨fun _ r h => by simp [laws_FnCreates.j0] at h, fun _ _ _ _ _ _ _ _ r h => by simp [laws_FnCreates.j1] at h, fun _ _ _ _ _ _ _ _ _ _ _ _ _ _ _ _ r h => by simp [laws_FnCreates.l0] at h⟩
 | k + 1 => by
  obtain ⟨ih0, ih1, ih2⟩ := laws_FnCreates.mono_l k
  refine ⟨?_, ?_, ?_⟩
  ·
   intro y0
   unfold laws_FnCreates.j0
   with_reducible repeat' first | exact ih0 _ | exact ih1 _ _ _ _ _ _ _ _ | exact ih2 _ _ _ _ _ _ _ _ _ _ _ _ _ _ _ _ | exact impl_CreateZ.mono _ _ _ _ _ _ | exact impl_GetZ.mono _ _ _ | exact impl_KidsZ.mono _ _ _ | exact impl_ParentOf.mono _ _ | exact impl_TreeFault.mono _ _ | exact spec_CreateZ.mono _ _ _ _ _ _ | exact spec_DrawCreateZ.mono _ _ | exact LeO.refl _ | exact LeO.none _ | refine LeO.ite ?_ ?_ | refine LeO.bind ?_ (fun _ => ?_)
  ·
   intro y0 y1 y2 y3 y4 y5 y6 y7
   unfold laws_FnCreates.j1
   with_reducible repeat' first | exact ih0 _ | exact ih1 _ _ _ _ _ _ _ _ | exact ih2 _ _ _ _ _ _ _ _ _ _ _ _ _ _ _ _ | exact impl_CreateZ.mono _ _ _ _ _ _ | exact impl_GetZ.mono _ _ _ | exact impl_KidsZ.mono _ _ _ | exact impl_ParentOf.mono _ _ | exact impl_TreeFault.mono _ _ | exact spec_CreateZ.mono _ _ _ _ _ _ | exact spec_DrawCreateZ.mono _ _ | exact LeO.refl _ | exact LeO.none _ | refine LeO.ite ?_ ?_ | refine LeO.bind ?_ (fun _ => ?_)
  ·
   intro y0 y1 y2 y3 y4 y5 y6 y7 y8 y9 y10 y11 y12 y13 y14 y15
   unfold laws_FnCreates.l0
   with_reducible repeat' first | exact ih0 _ | exact ih1 _ _ _ _ _ _ _ _ | exact ih2 _ _ _ _ _ _ _ _ _ _ _ _ _ _ _ _ | exact impl_CreateZ.mono _ _ _ _ _ _ | exact impl_GetZ.mono _ _ _ | exact impl_KidsZ.mono _ _ _ | exact impl_ParentOf.mono _ _ | exact impl_TreeFault.mono _ _ | exact spec_CreateZ.mono _ _ _ _ _ _ | exact spec_DrawCreateZ.mono _ _ | exact LeO.refl _ | exact LeO.none _ | refine LeO.ite ?_ ?_ | refine LeO.bind ?_ (fun _ => ?_)
theorem laws_FnCreates.mono : ∀ a0 k, LeO (laws_FnCreates.f k a0) (laws_FnCreates.f (k + 1) a0) := by
 intro a0 k
 obtain ⟨ih0, ih1, ih2⟩ := laws_FnCreates.mono_l k
 unfold laws_FnCreates.f
 with_reducible repeat' first | exact ih0 _ | exact ih1 _ _ _ _ _ _ _ _ | exact ih2 _ _ _ _ _ _ _ _ _ _ _ _ _ _ _ _ | exact impl_CreateZ.mono _ _ _ _ _ _ | exact impl_GetZ.mono _ _ _ | exact impl_KidsZ.mono _ _ _ | exact impl_ParentOf.mono _ _ | exact impl_TreeFault.mono _ _ | exact spec_CreateZ.mono _ _ _ _ _ _ | exact spec_DrawCreateZ.mono _ _ | exact LeO.refl _ | exact LeO.none _ | refine LeO.ite ?_ ?_ | refine LeO.bind ?_ (fun _ => ?_)
def laws_FnCreates.T6 : Bool × List (List Nat × List Nat) := (true, [([], []), ([], []), ([], []), ([], []), ([], []), ([0, 1, 2, 3, 4], [0, 1, 2, 3, 4]), ([5], [5]), ([], []), ([7], [7]), ([6, 8], [6, 8]), ([9, 5, 0, 1, 2, 3, 4, 5, 6, 7, 8, 9], [9])])
def laws_FnCreates.B6 : List Nat := [0, 0, 0, 0, 0, 31, 63, 0, 128, 511, 1023]
theorem laws_FnCreates.tab6 : rtab .any (opsOf Tryd.f5 6) = laws_FnCreates.T6 := by kernel_rfl
theorem laws_FnCreates.bits6 : waitsOk laws_FnCreates.T6.2 laws_FnCreates.B6 = true := by kernel_rfl
def laws_FnCreates.T8 : Bool × List (List Nat × List Nat) := (true, [([], []), ([0], [0]), ([], []), ([2], [2]), ([3], [3]), ([4], [4]), ([1, 5, 4], [1, 5]), ([], []), ([7, 6, 6, 0, 1, 2, 3, 4, 5, 6, 7], [6, 7])])
def laws_FnCreates.B8 : List Nat := [0, 1, 0, 4, 12, 28, 63, 0, 255]
theorem laws_FnCreates.tab8 : rtab .any (opsOf Tryd.f5 8) = laws_FnCreates.T8 := by kernel_rfl
theorem laws_FnCreates.bits8 : waitsOk laws_FnCreates.T8.2 laws_FnCreates.B8 = true := by kernel_rfl
def laws_FnCreates.T13 : Bool × List (List Nat × List Nat) := (true, [([], []), ([0], [0]), ([], []), ([], []), ([2, 3], [2, 3]), ([4], [4]), ([5], [5]), ([1, 6], [1, 6]), ([], []), ([8, 7, 7, 0, 1, 2, 3, 4, 5, 6, 7, 8], [7, 8])])
def laws_FnCreates.B13 : List Nat := [0, 1, 0, 0, 12, 28, 60, 127, 0, 511]
theorem laws_FnCreates.tab13 : rtab .any (opsOf Tryd.f5 13) = laws_FnCreates.T13 := by kernel_rfl
theorem laws_FnCreates.bits13 : waitsOk laws_FnCreates.T13.2 laws_FnCreates.B13 = true := by kernel_rfl
def laws_FnCreates.T14 : Bool × List (List Nat × List Nat) := (true, [([], []), ([0], [0]), ([1], [1]), ([2], [2]), ([3], [3]), ([4, 3], [3, 4]), ([5, 3], [3, 5]), ([6, 3], [3, 6]), ([3, 7], [3, 7]), ([8, 3], [8]), ([9], [9]), ([10, 9], [9, 10]), ([11, 9], [9, 11]), ([12, 9], [9, 12]), ([13, 9], [9, 13]), ([9], [9]), ([9], [9]), ([15, 16, 9], [9, 15, 16]), ([17, 9], [9, 17]), ([18, 9], [9, 18]), ([14, 19, 9], [9, 14, 19]), ([9, 20], [9, 20]), ([21, 9], [21]), ([22], [22]), ([23, 22], [22, 23]), ([24, 22], [22, 24]), ([25, 22], [22, 25]), ([26, 22], [22, 26]), ([22], [22]), ([22], [22]), ([28, 29, 22], [22, 28, 29]), ([30, 22], [22, 30]), ([31, 22], [22, 31]), ([27, 32, 22], [22, 27, 32]), ([22, 33], [22, 33]), ([34, 22], [34]), ([35], [35]), ([36, 35], [35, 36]), ([37, 35], [35, 37]), ([38, 35], [35, 38]), ([39, 35], [35, 39]), ([35], [35]), ([35], [35]), ([41, 42, 35], [35, 41, 42]), ([43, 35], [35, 43]), ([44, 35], [35, 44]), ([40, 45, 35], [35, 40, 45]), ([35, 46], [35, 46])])
def laws_FnCreates.B14 : List Nat := [0, 1, 3, 7, 15, 31, 63, 127, 255, 511, 1023, 2047, 4095, 8191, 16383, 1023, 1023, 99327, 230399, 492543, 1048575, 2097151, 4194303, 8388607, 16777215, 33554431, 67108863, 134217727, 8388607, 8388607, 813694975, 1887436799, 4034920447, 8589934591, 17179869183, 34359738367, 68719476735, 137438953471, 274877906943, 549755813887, 1099511627775, 68719476735, 68719476735, 6665789243391, 15461882265599, 33054068310015, 70368744177663, 140737488355327]
theorem laws_FnCreates.tab14 : rtab .any (opsOf Tryd.f5 14) = laws_FnCreates.T14 := by kernel_rfl
theorem laws_FnCreates.bits14 : waitsOk laws_FnCreates.T14.2 laws_FnCreates.B14 = true := by kernel_rfl
theorem pu5 {P : Program} {md : Region.Mode} {ops : Array Oper} {Q : Exit → Act → World → Prop} {S : World → Prop} {ds : List Nat} (i : Nat) (N : Tmp) {oi : Oper} {v : Value} {fuel : Nat} {l l' : Array Bool} {a a' : Act} {w : World} (h : wpAnyLast P md ops Q S ds fuel l' a' w) (hi : ops[i]? = some oi := by rfl) (hN : oi.dst = some N := by rfl) (hl : l.setIfInBounds i true = l' := by simp only [List.setIfInBounds_toArray, List.set_cons_zero, List.set_cons_succ]; rfl) (hc : anyB md ops l l' i = true := by first | exact any_of HT_.out (by kernel_rfl) | kernel_rfl) (hQ : ∀ c a w, Q (.panic c) (a.put oi.dst v) w → Q (.panic c) a w := by exact fun _ _ _ h => h) (hw : Region.wanted oi (yielded ops a.tmps) = true := by rfl) (hy : ∀ w, (execOp a.eval oi).run P w = .ok (.value v) w := by intro w'; go_simp; with_reducible rfl) (ha : a.put (some N) v = a' := by simp only [Act.put, List.setIfInBounds_toArray, List.set_cons_zero, List.set_cons_succ, i64_w, i32_w]; rfl) : wpAnyLast P md ops Q S ds (fuel + 1) l a w := pure_ l' hi hN hc hQ (Or.inl ⟨hw, hy⟩) ha h
theorem pn5 {P : Program} {md : Region.Mode} {ops : Array Oper} {Q : Exit → Act → World → Prop} {S : World → Prop} {ds : List Nat} (i : Nat) (N : Tmp) {oi : Oper} {v : Value} {fuel : Nat} {l l' : Array Bool} {a a' : Act} {w : World} (h : wpAnyLast P md ops Q S ds fuel l' a' w) (hi : ops[i]? = some oi := by rfl) (hN : oi.dst = some N := by rfl) (hl : l.setIfInBounds i true = l' := by simp only [List.setIfInBounds_toArray, List.set_cons_zero, List.set_cons_succ]; rfl) (hv : v = undef := by rfl) (hc : anyB md ops l l' i = true := by first | exact any_of HT_.out (by kernel_rfl) | kernel_rfl) (hQ : ∀ c a w, Q (.panic c) (a.put oi.dst v) w → Q (.panic c) a w := by exact fun _ _ _ h => h) (hw : Region.wanted oi (yielded ops a.tmps) = false := by rfl) (ha : a.put (some N) v = a' := by simp only [Act.put, List.setIfInBounds_toArray, List.set_cons_zero, List.set_cons_succ, i64_w, i32_w]; rfl) : wpAnyLast P md ops Q S ds (fuel + 1) l a w := pure_ l' hi hN hc hQ (Or.inr ⟨hw, hv⟩) ha h
theorem gate_args5 {P : Program} {f : FuncId} {w : World} {R : Ending → World → Prop} (args : Array Value) (h : Calls P f args w R) : Calls P f args w R := h
theorem tk3_5 {P : Program} {md : Region.Mode} {ops : Array Oper} {Q : Exit → Act → World → Prop} {S : World → Prop} {ds : List Nat} (i : Nat) (N : Tmp) {oi : Oper} {v : Value} {fuel : Nat} {l l' : Array Bool} {a a' : Act} {w : World} (h : wpAnyLast P md ops Q S ds fuel l' a' w) (hi : ops[i]? = some oi := by rfl) (hN : oi.dst = some N := by rfl) (hl : l.setIfInBounds i true = l' := by simp only [List.setIfInBounds_toArray, List.set_cons_zero, List.set_cons_succ]; rfl) (hc : takeB md ops ds l l' i = true := by first | exact take_ofW HT_.out HW_.out (by kernel_rfl) | kernel_rfl) (hQ : ∀ c a w, Q (.panic c) (a.put oi.dst v) w → Q (.panic c) a w := by exact fun _ _ _ h => h) (hw : Region.wanted oi (yielded ops a.tmps) = true := by rfl) (hS : S w := by exact hHeld) (hy : ∀ w, S w → (execOp a.eval oi).run P w = .ok (.value v) w := by rintro w' ⟨s0, s1, s2⟩; go_simp; with_reducible rfl) (ha : a.put (some N) v = a' := by simp only [Act.put, List.setIfInBounds_toArray, List.set_cons_zero, List.set_cons_succ, i64_w, i32_w]; rfl) : wpAnyLast P md ops Q S ds (fuel + 1) l a w := take_ l' hi hN hc hQ (Or.inl ⟨hw, hy⟩) hS ha h
theorem tk6_5 {P : Program} {md : Region.Mode} {ops : Array Oper} {Q : Exit → Act → World → Prop} {S : World → Prop} {ds : List Nat} (i : Nat) (N : Tmp) {oi : Oper} {v : Value} {fuel : Nat} {l l' : Array Bool} {a a' : Act} {w : World} (h : wpAnyLast P md ops Q S ds fuel l' a' w) (hi : ops[i]? = some oi := by rfl) (hN : oi.dst = some N := by rfl) (hl : l.setIfInBounds i true = l' := by simp only [List.setIfInBounds_toArray, List.set_cons_zero, List.set_cons_succ]; rfl) (hc : takeB md ops ds l l' i = true := by first | exact take_ofW HT_.out HW_.out (by kernel_rfl) | kernel_rfl) (hQ : ∀ c a w, Q (.panic c) (a.put oi.dst v) w → Q (.panic c) a w := by exact fun _ _ _ h => h) (hw : Region.wanted oi (yielded ops a.tmps) = true := by rfl) (hS : S w := by exact hHeld) (hy : ∀ w, S w → (execOp a.eval oi).run P w = .ok (.value v) w := by rintro w' ⟨s0, s1, s2, s3, s4, s5⟩; go_simp; with_reducible rfl) (ha : a.put (some N) v = a' := by simp only [Act.put, List.setIfInBounds_toArray, List.set_cons_zero, List.set_cons_succ, i64_w, i32_w]; rfl) : wpAnyLast P md ops Q S ds (fuel + 1) l a w := take_ l' hi hN hc hQ (Or.inl ⟨hw, hy⟩) hS ha h
theorem tk8_5 {P : Program} {md : Region.Mode} {ops : Array Oper} {Q : Exit → Act → World → Prop} {S : World → Prop} {ds : List Nat} (i : Nat) (N : Tmp) {oi : Oper} {v : Value} {fuel : Nat} {l l' : Array Bool} {a a' : Act} {w : World} (h : wpAnyLast P md ops Q S ds fuel l' a' w) (hi : ops[i]? = some oi := by rfl) (hN : oi.dst = some N := by rfl) (hl : l.setIfInBounds i true = l' := by simp only [List.setIfInBounds_toArray, List.set_cons_zero, List.set_cons_succ]; rfl) (hc : takeB md ops ds l l' i = true := by first | exact take_ofW HT_.out HW_.out (by kernel_rfl) | kernel_rfl) (hQ : ∀ c a w, Q (.panic c) (a.put oi.dst v) w → Q (.panic c) a w := by exact fun _ _ _ h => h) (hw : Region.wanted oi (yielded ops a.tmps) = true := by rfl) (hS : S w := by exact hHeld) (hy : ∀ w, S w → (execOp a.eval oi).run P w = .ok (.value v) w := by rintro w' ⟨s0, s1, s2, s3, s4, s5, s6, s7⟩; go_simp; with_reducible rfl) (ha : a.put (some N) v = a' := by simp only [Act.put, List.setIfInBounds_toArray, List.set_cons_zero, List.set_cons_succ, i64_w, i32_w]; rfl) : wpAnyLast P md ops Q S ds (fuel + 1) l a w := take_ l' hi hN hc hQ (Or.inl ⟨hw, hy⟩) hS ha h
theorem tk11_5 {P : Program} {md : Region.Mode} {ops : Array Oper} {Q : Exit → Act → World → Prop} {S : World → Prop} {ds : List Nat} (i : Nat) (N : Tmp) {oi : Oper} {v : Value} {fuel : Nat} {l l' : Array Bool} {a a' : Act} {w : World} (h : wpAnyLast P md ops Q S ds fuel l' a' w) (hi : ops[i]? = some oi := by rfl) (hN : oi.dst = some N := by rfl) (hl : l.setIfInBounds i true = l' := by simp only [List.setIfInBounds_toArray, List.set_cons_zero, List.set_cons_succ]; rfl) (hc : takeB md ops ds l l' i = true := by first | exact take_ofW HT_.out HW_.out (by kernel_rfl) | kernel_rfl) (hQ : ∀ c a w, Q (.panic c) (a.put oi.dst v) w → Q (.panic c) a w := by exact fun _ _ _ h => h) (hw : Region.wanted oi (yielded ops a.tmps) = true := by rfl) (hS : S w := by exact hHeld) (hy : ∀ w, S w → (execOp a.eval oi).run P w = .ok (.value v) w := by rintro w' ⟨s0, s1, s2, s3, s4, s5, s6, s7, s8, s9, s10⟩; go_simp; with_reducible rfl) (ha : a.put (some N) v = a' := by simp only [Act.put, List.setIfInBounds_toArray, List.set_cons_zero, List.set_cons_succ, i64_w, i32_w]; rfl) : wpAnyLast P md ops Q S ds (fuel + 1) l a w := take_ l' hi hN hc hQ (Or.inl ⟨hw, hy⟩) hS ha h
theorem tk13_5 {P : Program} {md : Region.Mode} {ops : Array Oper} {Q : Exit → Act → World → Prop} {S : World → Prop} {ds : List Nat} (i : Nat) (N : Tmp) {oi : Oper} {v : Value} {fuel : Nat} {l l' : Array Bool} {a a' : Act} {w : World} (h : wpAnyLast P md ops Q S ds fuel l' a' w) (hi : ops[i]? = some oi := by rfl) (hN : oi.dst = some N := by rfl) (hl : l.setIfInBounds i true = l' := by simp only [List.setIfInBounds_toArray, List.set_cons_zero, List.set_cons_succ]; rfl) (hc : takeB md ops ds l l' i = true := by first | exact take_ofW HT_.out HW_.out (by kernel_rfl) | kernel_rfl) (hQ : ∀ c a w, Q (.panic c) (a.put oi.dst v) w → Q (.panic c) a w := by exact fun _ _ _ h => h) (hw : Region.wanted oi (yielded ops a.tmps) = true := by rfl) (hS : S w := by exact hHeld) (hy : ∀ w, S w → (execOp a.eval oi).run P w = .ok (.value v) w := by rintro w' ⟨s0, s1, s2, s3, s4, s5, s6, s7, s8, s9, s10, s11, s12⟩; go_simp; with_reducible rfl) (ha : a.put (some N) v = a' := by simp only [Act.put, List.setIfInBounds_toArray, List.set_cons_zero, List.set_cons_succ, i64_w, i32_w]; rfl) : wpAnyLast P md ops Q S ds (fuel + 1) l a w := take_ l' hi hN hc hQ (Or.inl ⟨hw, hy⟩) hS ha h
theorem tk27_5 {P : Program} {md : Region.Mode} {ops : Array Oper} {Q : Exit → Act → World → Prop} {S : World → Prop} {ds : List Nat} (i : Nat) (N : Tmp) {oi : Oper} {v : Value} {fuel : Nat} {l l' : Array Bool} {a a' : Act} {w : World} (h : wpAnyLast P md ops Q S ds fuel l' a' w) (hi : ops[i]? = some oi := by rfl) (hN : oi.dst = some N := by rfl) (hl : l.setIfInBounds i true = l' := by simp only [List.setIfInBounds_toArray, List.set_cons_zero, List.set_cons_succ]; rfl) (hc : takeB md ops ds l l' i = true := by first | exact take_ofW HT_.out HW_.out (by kernel_rfl) | kernel_rfl) (hQ : ∀ c a w, Q (.panic c) (a.put oi.dst v) w → Q (.panic c) a w := by exact fun _ _ _ h => h) (hw : Region.wanted oi (yielded ops a.tmps) = true := by rfl) (hS : S w := by exact hHeld) (hy : ∀ w, S w → (execOp a.eval oi).run P w = .ok (.value v) w := by rintro w' ⟨s0, s1, s2, s3, s4, s5, s6, s7, s8, s9, s10, s11, s12, s13, s14, s15, s16, s17, s18, s19, s20, s21, s22, s23, s24, s25, s26⟩; go_simp; with_reducible rfl) (ha : a.put (some N) v = a' := by simp only [Act.put, List.setIfInBounds_toArray, List.set_cons_zero, List.set_cons_succ, i64_w, i32_w]; rfl) : wpAnyLast P md ops Q S ds (fuel + 1) l a w := take_ l' hi hN hc hQ (Or.inl ⟨hw, hy⟩) hS ha h
theorem tk32_5 {P : Program} {md : Region.Mode} {ops : Array Oper} {Q : Exit → Act → World → Prop} {S : World → Prop} {ds : List Nat} (i : Nat) (N : Tmp) {oi : Oper} {v : Value} {fuel : Nat} {l l' : Array Bool} {a a' : Act} {w : World} (h : wpAnyLast P md ops Q S ds fuel l' a' w) (hi : ops[i]? = some oi := by rfl) (hN : oi.dst = some N := by rfl) (hl : l.setIfInBounds i true = l' := by simp only [List.setIfInBounds_toArray, List.set_cons_zero, List.set_cons_succ]; rfl) (hc : takeB md ops ds l l' i = true := by first | exact take_ofW HT_.out HW_.out (by kernel_rfl) | kernel_rfl) (hQ : ∀ c a w, Q (.panic c) (a.put oi.dst v) w → Q (.panic c) a w := by exact fun _ _ _ h => h) (hw : Region.wanted oi (yielded ops a.tmps) = true := by rfl) (hS : S w := by exact hHeld) (hy : ∀ w, S w → (execOp a.eval oi).run P w = .ok (.value v) w := by rintro w' ⟨s0, s1, s2, s3, s4, s5, s6, s7, s8, s9, s10, s11, s12, s13, s14, s15, s16, s17, s18, s19, s20, s21, s22, s23, s24, s25, s26, s27, s28, s29, s30, s31⟩; go_simp; with_reducible rfl) (ha : a.put (some N) v = a' := by simp only [Act.put, List.setIfInBounds_toArray, List.set_cons_zero, List.set_cons_succ, i64_w, i32_w]; rfl) : wpAnyLast P md ops Q S ds (fuel + 1) l a w := take_ l' hi hN hc hQ (Or.inl ⟨hw, hy⟩) hS ha h
theorem tk33_5 {P : Program} {md : Region.Mode} {ops : Array Oper} {Q : Exit → Act → World → Prop} {S : World → Prop} {ds : List Nat} (i : Nat) (N : Tmp) {oi : Oper} {v : Value} {fuel : Nat} {l l' : Array Bool} {a a' : Act} {w : World} (h : wpAnyLast P md ops Q S ds fuel l' a' w) (hi : ops[i]? = some oi := by rfl) (hN : oi.dst = some N := by rfl) (hl : l.setIfInBounds i true = l' := by simp only [List.setIfInBounds_toArray, List.set_cons_zero, List.set_cons_succ]; rfl) (hc : takeB md ops ds l l' i = true := by first | exact take_ofW HT_.out HW_.out (by kernel_rfl) | kernel_rfl) (hQ : ∀ c a w, Q (.panic c) (a.put oi.dst v) w → Q (.panic c) a w := by exact fun _ _ _ h => h) (hw : Region.wanted oi (yielded ops a.tmps) = true := by rfl) (hS : S w := by exact hHeld) (hy : ∀ w, S w → (execOp a.eval oi).run P w = .ok (.value v) w := by rintro w' ⟨s0, s1, s2, s3, s4, s5, s6, s7, s8, s9, s10, s11, s12, s13, s14, s15, s16, s17, s18, s19, s20, s21, s22, s23, s24, s25, s26, s27, s28, s29, s30, s31, s32⟩; go_simp; with_reducible rfl) (ha : a.put (some N) v = a' := by simp only [Act.put, List.setIfInBounds_toArray, List.set_cons_zero, List.set_cons_succ, i64_w, i32_w]; rfl) : wpAnyLast P md ops Q S ds (fuel + 1) l a w := take_ l' hi hN hc hQ (Or.inl ⟨hw, hy⟩) hS ha h
theorem laws_FnCreates.calls (k : Nat) (A0 : Option Addr) (c0 : Nat) (l0 : List Int) (r : Bool) (w : World) (hr0 : Kd.C (Kd.int .u8) w A0 l0.length l0) (hc0 : l0.length ≤ c0) (h : laws_FnCreates.f k l0 = some r) (hrt : r = true) :
  Calls Tryd.prog 5 #[.slice A0 l0.length c0] w fun e w' => e = .returned (.bool r) ∧ Below w.heap.size w w' := by
 have HRT := aa hrt
 clear hrt
 have hfd28_0 : ∀ (v0_ v1_ v2_ : Value) (w_ : World), (Instr.field 28 (.agg #[v0_, v1_, v2_]) 0).run Tryd.prog w_ = .ok (v0_) w_ := fun _ _ _ _ => by kernel_rfl
 have hfd28_1 : ∀ (v0_ v1_ v2_ : Value) (w_ : World), (Instr.field 28 (.agg #[v0_, v1_, v2_]) 1).run Tryd.prog w_ = .ok (v1_) w_ := fun _ _ _ _ => by kernel_rfl
 have hfd28_2 : ∀ (v0_ v1_ v2_ : Value) (w_ : World), (Instr.field 28 (.agg #[v0_, v1_, v2_]) 2).run Tryd.prog w_ = .ok (v2_) w_ := fun _ _ _ _ => by kernel_rfl
 have hfd46_0 : ∀ (v0_ v1_ : Value) (w_ : World), (Instr.field 46 (.agg #[v0_, v1_]) 0).run Tryd.prog w_ = .ok (v0_) w_ := fun _ _ _ => by kernel_rfl
 have hfd46_1 : ∀ (v0_ v1_ : Value) (w_ : World), (Instr.field 46 (.agg #[v0_, v1_]) 1).run Tryd.prog w_ = .ok (v1_) w_ := fun _ _ _ => by kernel_rfl
 have hu28 := Tryd.underlying28
 have hu40 := Tryd.underlying40
 have HR0 := aa hr0
 have HC0 := aa hc0
 clear hr0 hc0
 have HB := aa (Below.refl w.heap.size w)
 have H : ((laws_lwBig.f l0).bind fun t101 => (if t101 = true then (some true) else (laws_FnCreates.j0 k l0))) = some r := h
 clear h
 revert H
 refine obs_ fun t101 A2 H => ?_
 have HC3 := aa H
 clear H
 go_enter Tryd.func5, Tryd.ntmps5
 (try dsimp only [List.append])
 go_upto_if 15 with (first | (refine gc_ Tryd.func7 (some 15) #[.slice A0 l0.length c0] ?_; (with_reducible refine (laws_lwBig.calls _ _ l0 t101 _ zebgon HC0.out A2.out).mono ?_); rintro e w' ⟨rfl, ⟨nd, rfl⟩⟩; refine ⟨_, rfl, ?_⟩))
 (try simp only [Act.put, List.setIfInBounds_toArray, List.set_cons_zero, List.set_cons_succ])
 go_cut [] (fun wc => ∃ (kq : Nat), Aside0 (laws_FnCreates.j0 kq l0 = some r) ∧ Aside0 (kq ≤ k) ∧ Aside0 (Below w.heap.size w wc))
 case first =>
  have H := HC3.out
  clear HC3
  by_cases c4 : t101 = true
  ·
   subst c4
   rw [if_pos rfl] at H
   obtain rfl := Option.some.inj H
   go_wp2
   go_ret
   exact ⟨zlhpib, zjjbob⟩
  replace c4 := Bool.eq_false_iff.mpr c4
  subst c4
  rw [if_neg fT_] at H
  have H' := aa H
  clear H
  go_wp2
  go_meet
  case rel => exact ⟨_, H', ⟨zpacfg⟩, ⟨zjjbob⟩⟩
 case rest =>
  clear HC3
  try clear p2
  try clear c4
  obtain ⟨kq, HA, HJ2, HB⟩ := hcut
  cases kq with
  | zero => exact absurd HA.out (by simp [laws_FnCreates.j0])
  | succ kj2 =>
   have H := HA.out
   clear HA
   simp only [laws_FnCreates.j0] at H
   revert H
   refine ob5_ fun t102 t103 t104 t105 t106 A5 H => ?_
   (try dsimp only at H)
   revert H
   refine ob3_ fun t109 t110 t111 A6 H => ?_
   (try dsimp only at H)
   have HC7 := aa H
   clear H
   go_upto_if 32 with (first | (refine gc_ Tryd.func19 (some 18) #[.slice A0 l0.length c0] ?_; (with_reducible refine (spec_DrawCreateZ.calls kj2 _ _ l0 t102 t103 t104 t105 t106 _ zfmbgg HC0.out A5.out).mono ?_); rintro e w8 ⟨v107, rfl, ho0, hb⟩; refine ⟨_, rfl, ?_⟩; have HO108 := aa (Kd.R_lower ho0 (below_size zjjbob)); replace HB := aa (below_step zjjbob hb); (try clear hb hk hi ho0); obtain ⟨Ao9, co9, eo9⟩ := Kd.R_slice HO108.out; subst eo9) | (refine gc_ Tryd.func16 (some 29) #[.slice Ao9 t102.length co9, .string t103, .int .i64 t104, .int .i64 t105, .bool t106] ?_; (with_reducible refine (impl_CreateZ.calls kj2 _ _ t102 t103 t104 t105 t106 t109 t110 t111 _ zoklki zadjbp A6.out).mono ?_); rintro e w10 ⟨v112, rfl, ho0, hb⟩; refine ⟨_, rfl, ?_⟩; have n0_ := aa (Kd.R_elder' (zcaken HO108.out) (Kd.R_base ho0) hb); have n1_ := aa (Kd.R_lower (Kd.R_new' ho0 (Kd.R_lt (zcaken HO108.out))) (below_size zjjbob)); have n2_ := aa (below_step zjjbob hb); clear HO108; clear HB; have HO108 := n0_; have HO113 := n1_; have HB := n2_; clear n0_ n1_ n2_; (try clear hb hk hi ho0)) | ((with_reducible refine gate_dst (N := 8) rfl ?_); (try (refine gate_guard (by rfl) ?_; dsimp only)); refine box_event ?hg (N := 8) ?hd (cs := #[.int .i64 0, .string (⟨#[]⟩ : ByteArray), .slice none 0 0]) (t := 28) ?hr ?_; (case hd => rfl); (case hg => rfl); (case hr => exact zhlgcp); intro gb114 hg w11 hbox hb; have n0_ := aa (Kd.R_below (zcaken HO108.out) hb); have n1_ := aa (Kd.R_below (zcaken HO113.out) hb); have n2_ := aa (below_step zjjbob hb); have n3_ := aa (hbox); have n4_ := aa ((zkpfjp : w.heap.size ≤ gb114)); have n5_ := aa ((zkpfjp : w.heap.size ≤ gb114)); clear HO108; clear HO113; clear HB; have HO108 := n0_; have HO113 := n1_; have HB := n2_; have BK114 := n3_; have GW114 := n4_; have GE114 := n5_; clear n0_ n1_ n2_ n3_ n4_ n5_; clear hb hbox hg; obtain ⟨hcz12_0, hcz12_1, hcz12_2, hfz12_0, hfz12_1, hfz12_2⟩ := blk3_ BK114.out; obtain ⟨Ao13, co13, eo13⟩ := Kd.R_slice HO113.out; subst eo13))
   (try simp only [Act.put, List.setIfInBounds_toArray, List.set_cons_zero, List.set_cons_succ])
   go_cut [] (fun wc => ∃ (kq : Nat), Aside0 (laws_FnCreates.j1 kq t102 t103 t104 t105 t106 t109 t110 t111 = some r) ∧ Aside0 (kq ≤ kj2) ∧ Aside0 (Kd.R k32 32 wc w.heap.size (fun k_ => some k_ ≠ ((.slice Ao13 t111.length co13) : Value).ownBlock) (.slice Ao9 t102.length co9) t102) ∧ Aside0 (Kd.R k32 32 wc w.heap.size (fun k_ => some k_ ≠ ((.slice Ao9 t102.length co9) : Value).ownBlock) (.slice Ao13 t111.length co13) t111) ∧ Aside0 (wc.heap[gb114]? = some (.cells #[.int .i64 t109, .string t110, (.slice Ao13 t111.length co13)] 28 (0, 0))) ∧ Aside0 (Below w.heap.size w wc))
   case first =>
    have H := HC7.out
    clear HC7
    revert H
    refine itE_ (fun c14b0 c14b1 H => ?_) fun c14b0 c14b1 H => ?_
    ·
     (first | rw [c14b0] | (simp only [i64_w, i32_w]; rw [c14b0]) | (simp only [c14b2, Bool.not_false, Bool.not_true]) | skip)
     have H' := aa H
     clear H
     go_wp2
     go_meet
     case rel => exact ⟨_, H', ⟨by have := HJ2.out; first | omega | exact Nat.le_refl _⟩, ⟨by (with_reducible repeat (first | apply Kd.R_alloc | apply Kd.R_drewN | apply Kd.R_drew)); exact Kd.R_mono (Kd.R_far (p := ⟨gb114, 2, none⟩) (Kd.R_far (p := ⟨gb114, 1, none⟩) (Kd.R_far (p := ⟨gb114, 0, none⟩) (Kd.R_types HO108.out BK114.out (by decide)) (fun _ hk => hk.2) (.int .i64 t109)) (fun _ hk => hk.2) (.string t110)) (fun _ hk => hk.2) (.slice Ao13 t111.length co13)) (fun _ hk => hk.1.2)⟩, ⟨by (with_reducible repeat (first | apply Kd.R_alloc | apply Kd.R_drewN | apply Kd.R_drew)); exact Kd.R_mono (Kd.R_far (p := ⟨gb114, 2, none⟩) (Kd.R_far (p := ⟨gb114, 1, none⟩) (Kd.R_far (p := ⟨gb114, 0, none⟩) (Kd.R_types HO113.out BK114.out (by decide)) (fun _ hk => hk.2) (.int .i64 t109)) (fun _ hk => hk.2) (.string t110)) (fun _ hk => hk.2) (.slice Ao13 t111.length co13)) (fun _ hk => hk.1.2)⟩, ⟨zhimfk⟩, ⟨zlhgak⟩⟩
    (first | rw [c14b0] | (simp only [i64_w, i32_w]; rw [c14b0]) | (simp only [c14b2, Bool.not_false, Bool.not_true]) | skip)
    revert H
    refine ob3_ fun t115 t116 t117 A15 H => ?_
    (try dsimp only at H)
    obtain rfl := Option.some.inj H
    try go_wp2
    have n0_ : Aside0 (Kd.R k32 32 (((w11.setCell ⟨gb114, 0, none⟩ (.int .i64 t109)).setCell ⟨gb114, 1, none⟩ (.string t110)).setCell ⟨gb114, 2, none⟩ (.slice Ao13 t111.length co13)) w.heap.size (fun k_ => some k_ ≠ (.slice Ao13 t111.length co13 : Value).ownBlock) (.slice Ao9 t102.length co9) t102) := ⟨by (with_reducible repeat (first | apply Kd.R_alloc | apply Kd.R_drewN | apply Kd.R_drew)); exact Kd.R_mono (Kd.R_far (p := ⟨gb114, 2, none⟩) (Kd.R_far (p := ⟨gb114, 1, none⟩) (Kd.R_far (p := ⟨gb114, 0, none⟩) (Kd.R_types HO108.out BK114.out (by decide)) (fun _ hk => hk.2) (.int .i64 t109)) (fun _ hk => hk.2) (.string t110)) (fun _ hk => hk.2) (.slice Ao13 t111.length co13)) (fun _ hk => hk.1.2)⟩
    have n1_ : Aside0 (Kd.R k32 32 (((w11.setCell ⟨gb114, 0, none⟩ (.int .i64 t109)).setCell ⟨gb114, 1, none⟩ (.string t110)).setCell ⟨gb114, 2, none⟩ (.slice Ao13 t111.length co13)) w.heap.size (fun k_ => some k_ ≠ (.slice Ao9 t102.length co9 : Value).ownBlock) (.slice Ao13 t111.length co13) t111) := ⟨by (with_reducible repeat (first | apply Kd.R_alloc | apply Kd.R_drewN | apply Kd.R_drew)); exact Kd.R_mono (Kd.R_far (p := ⟨gb114, 2, none⟩) (Kd.R_far (p := ⟨gb114, 1, none⟩) (Kd.R_far (p := ⟨gb114, 0, none⟩) (Kd.R_types HO113.out BK114.out (by decide)) (fun _ hk => hk.2) (.int .i64 t109)) (fun _ hk => hk.2) (.string t110)) (fun _ hk => hk.2) (.slice Ao13 t111.length co13)) (fun _ hk => hk.1.2)⟩
    have n2_ : Aside0 ((((w11.setCell ⟨gb114, 0, none⟩ (.int .i64 t109)).setCell ⟨gb114, 1, none⟩ (.string t110)).setCell ⟨gb114, 2, none⟩ (.slice Ao13 t111.length co13)).heap[gb114]? = some (.cells #[.int .i64 t109, .string t110, .slice Ao13 t111.length co13] 28 (0, 0))) := ⟨by (with_reducible repeat (first | refine blk_drewN ?_ _ | refine blk_drew ?_ | refine blk_alloc ?_ _)); refine blk_put (cs := #[.int .i64 t109, .string t110, .slice none 0 0]) ?_ 2 _ rfl; (with_reducible repeat (first | refine blk_drewN ?_ _ | refine blk_drew ?_ | refine blk_alloc ?_ _)); refine blk_put (cs := #[.int .i64 t109, .string (⟨#[]⟩ : ByteArray), .slice none 0 0]) ?_ 1 _ rfl; (with_reducible repeat (first | refine blk_drewN ?_ _ | refine blk_drew ?_ | refine blk_alloc ?_ _)); refine blk_put (cs := #[.int .i64 0, .string (⟨#[]⟩ : ByteArray), .slice none 0 0]) ?_ 0 _ rfl; (with_reducible repeat (first | refine blk_drewN ?_ _ | refine blk_drew ?_ | refine blk_alloc ?_ _)); exact BK114.out⟩
    have n3_ : Aside0 (Below w.heap.size w (((w11.setCell ⟨gb114, 0, none⟩ (.int .i64 t109)).setCell ⟨gb114, 1, none⟩ (.string t110)).setCell ⟨gb114, 2, none⟩ (.slice Ao13 t111.length co13))) := ⟨by repeat (first | (with_reducible first | exact HB.out | apply below_alloc | apply pw_below_drewN | apply below_drew1 | refine below_set ?_ GE114.out) | exact HB.out)⟩
    (try clear HO108)
    (try clear HO113)
    (try clear BK114)
    (try clear HB)
    generalize (((w11.setCell ⟨gb114, 0, none⟩ (.int .i64 t109)).setCell ⟨gb114, 1, none⟩ (.string t110)).setCell ⟨gb114, 2, none⟩ (.slice Ao13 t111.length co13)) = w16 at n0_ n1_ n2_ n3_ ⊢
    have HO108 := n0_
    have HO113 := n1_
    have BK114 := n2_
    have HB := n3_
    clear n0_ n1_ n2_ n3_
    replace HO108 := aa (Kd.R_drew HO108.out)
    replace HO113 := aa (Kd.R_drew HO113.out)
    replace BK114 := aa (blk_drew BK114.out)
    replace HB := aa (below_drew1 HB.out)
    refine start_ (n := 11) (S := fun w' => w'.cell? ⟨gb114, 0, none⟩ = some (.int .i64 t109) ∧ w'.cell? ⟨gb114, 1, none⟩ = some (.string t110) ∧ w'.cell? ⟨gb114, 2, none⟩ = some (.slice Ao13 t111.length co13)) (ds := []) #[false, false, false, false, false, false, false, false, false, false, false] (by kernel_rfl) rfl rfl ⟨(blk_cell BK114.out 0).trans rfl, (blk_cell BK114.out 1).trans rfl, (blk_cell BK114.out 2).trans rfl⟩ (fun hHeld => ?_); refine with_tabW laws_FnCreates.tab6 laws_FnCreates.bits6 (fun HT_ HW_ => ?_)
    generalize w16.drew = w17 at HO108 HO113 BK114 HB hHeld ⊢
    refine pu5 0 33 ?_
    refine pu5 1 34 ?_
    refine pu5 2 35 ?_
    refine pu5 3 36 ?_
    refine pu5 4 37 ?_
    refine pu5 7 40 ?_
    refine tk3_5 8 41 ?_
    refine one_ (i := 5) (N := some 38) #[true, true, true, true, true, true, false, true, true, false, false] rfl rfl (one_of HT_.out (by kernel_rfl)) (by decide) (fun K hK => ?_)
    refine goes_ Tryd.func20 (by kernel_rfl) rfl #[.slice Ao9 t102.length co9, .string t103, .int .i64 t104, .int .i64 t105, .bool t106] (by rfl) rfl rfl zjnmae ?_
    with_reducible refine (spec_CreateZ.calls kj2 _ _ t102 t103 t104 t105 t106 t115 t116 t117 _ ?side1 ?side2 A15.out).mono ?_
    (case side1 => exact zoklki)
    (case side2 => exact zadjbp)
    rintro e w18 ⟨v118, rfl, ho0, hb⟩
    refine ⟨_, rfl, ?_⟩
    have n0_ := aa (Kd.R_elder' (zcaken HO108.out) (Kd.R_base ho0) hb)
    have n1_ := aa (Kd.R_elder' (zcaken HO113.out) (Kd.R_base ho0) hb)
    have n2_ := aa (Kd.R_lower (Kd.R_new' (Kd.R_new' ho0 (Kd.R_lt (zcaken HO108.out))) (Kd.R_lt (zcaken HO113.out))) (below_size zlhgak))
    have n3_ := aa (bb_ BK114.out hb)
    have n4_ := aa (below_step zlhgak hb)
    clear HO108
    clear HO113
    clear BK114
    clear HB
    have HO108 := n0_
    have HO113 := n1_
    have HO119 := n2_
    have BK114 := n3_
    have HB := n4_
    clear n0_ n1_ n2_ n3_ n4_
    (try clear hb)
    (try clear hb2)
    (try clear hk)
    (try clear hi)
    (try clear ho0)
    refine hK.out _ _ ⟨(blk_cell BK114.out 0).trans rfl, (blk_cell BK114.out 1).trans rfl, (blk_cell BK114.out 2).trans rfl⟩ (fun hHeld => ?_)
    clear hK K
    refine norm_ (a' := ?_) ?_ ?_
    rotate_left
    ·
     show Act.put _ (some 38) _ = _
     simp only [Act.put, List.setIfInBounds_toArray, List.set_cons_zero, List.set_cons_succ, i64_w, i32_w]
     rfl
    refine pu5 6 39 ?_
    refine pu5 9 42 ?_
    refine pu5 10 2 ?_
    refine done_ (done_of HT_.out (by kernel_rfl)) ?_
    try go_wp2
    go_ret
    exact ⟨zlhpib, zlhgak⟩
   case rest =>
    clear HC7
    try clear p2
    try clear c4
    try clear c14b0
    try clear c14b1
    try clear c14b2
    try clear hcz12_0
    try clear hcz12_1
    try clear hcz12_2
    try clear hfz12_0
    try clear hfz12_1
    try clear hfz12_2
    try clear p2
    obtain ⟨kq, HA, HJ6, HO_3, HO_115002, BK114, HB⟩ := hcut
    cases kq with
    | zero => exact absurd HA.out (by simp [laws_FnCreates.j1])
    | succ kj6 =>
     have H := HA.out
     clear HA
     simp only [laws_FnCreates.j1] at H
     revert H
     refine ob3_ fun t120 t121 t122 A19 H => ?_
     (try dsimp only at H)
     revert H
     refine ob2_ fun t126 t127 A20 H => ?_
     (try dsimp only at H)
     revert H
     refine ob2_ fun t128 t129 A21 H => ?_
     (try dsimp only at H)
     revert H
     refine ob2_ fun t133 t134 A22 H => ?_
     (try dsimp only at H)
     revert H
     refine ob2_ fun t135 t136 A23 H => ?_
     (try dsimp only at H)
     have H' := aa H
     clear H
     obtain ⟨hcz24_0, hcz24_1, hcz24_2, hfz24_0, hfz24_1, hfz24_2⟩ := blk3_ BK114.out
     try go_wp2_with (first | (refine gc_ Tryd.func11 (some 47) #[.slice Ao13 t111.length co13, .string t110] ?_; (with_reducible refine (impl_GetZ.calls kj6 _ _ t111 t110 t120 t121 t122 _ zafndb zlonic A19.out).mono ?_); rintro e w25 ⟨v123, rfl, ho0, hb⟩; refine ⟨_, rfl, ?_⟩; have n0_ := aa (Kd.R_elder' (zcaken HO_3.out) (Kd.R_base ho0) hb); have n1_ := aa (Kd.R_elder' (zcaken HO_115002.out) (Kd.R_base ho0) hb); have n2_ := aa (Kd.R_lower (Kd.R_new' (Kd.R_new' ho0 (Kd.R_lt (zcaken HO_3.out))) (Kd.R_lt (zcaken HO_115002.out))) (below_size zlhgak)); have n3_ := aa (bb_ BK114.out hb); have n4_ := aa (below_step zlhgak hb); clear HO_3; clear HO_115002; clear BK114; clear HB; have HO_3 := n0_; have HO_115002 := n1_; have HO124 := n2_; have BK114 := n3_; have HB := n4_; clear n0_ n1_ n2_ n3_ n4_; (try clear hb hk hi ho0)) | ((with_reducible refine gate_dst (N := 9) rfl ?_); (try (refine gate_guard (by rfl) ?_; dsimp only)); refine box_event ?hg (N := 9) ?hd (cs := #[.int .i64 0, .string (⟨#[]⟩ : ByteArray), .slice none 0 0]) (t := 28) ?hr ?_; (case hd => rfl); (case hg => rfl); (case hr => exact zhlgcp); intro gb125 hg w26 hbox hb; have n0_ := aa (Kd.R_below (zcaken HO_3.out) hb); have n1_ := aa (Kd.R_below (zcaken HO_115002.out) hb); have n2_ := aa (Kd.R_below (zcaken HO124.out) hb); have n3_ := aa (bb_ BK114.out hb); have n4_ := aa (below_step zlhgak hb); have n5_ := aa (hbox); have n6_ := aa ((zacgcm : w.heap.size ≤ gb125)); have n7_ := aa ((zacgcm : w.heap.size ≤ gb125)); have n8_ := aa ((zockej : gb114 ≠ gb125)); have n9_ := aa ((zbboha : gb125 ≠ gb114)); clear HO_3; clear HO_115002; clear HO124; clear BK114; clear HB; have HO_3 := n0_; have HO_115002 := n1_; have HO124 := n2_; have BK114 := n3_; have HB := n4_; have BK125 := n5_; have GW125 := n6_; have GE125 := n7_; have NB114_125 := n8_; have NB125_114 := n9_; clear n0_ n1_ n2_ n3_ n4_ n5_ n6_ n7_ n8_ n9_; clear hb hbox hg; have hnb27 := NB125_114.out; have hnc27 := NB114_125.out; obtain ⟨hcz28_0, hcz28_1, hcz28_2, hfz28_0, hfz28_1, hfz28_2⟩ := blk3_ BK125.out; obtain ⟨Ao29, co29, eo29⟩ := Kd.R_slice HO124.out; subst eo29))
     have n0_ : Aside0 (Kd.R k32 32 (((w26.setCell ⟨gb125, 0, none⟩ (.int .i64 t120)).setCell ⟨gb125, 1, none⟩ (.string t121)).setCell ⟨gb125, 2, none⟩ (.slice Ao29 t122.length co29)) w.heap.size (fun k_ => some k_ ≠ (.slice Ao13 t111.length co13 : Value).ownBlock ∧ some k_ ≠ (.slice Ao29 t122.length co29 : Value).ownBlock) (.slice Ao9 t102.length co9) t102) := ⟨by (with_reducible repeat (first | apply Kd.R_alloc | apply Kd.R_drewN | apply Kd.R_drew)); exact Kd.R_mono (Kd.R_far (p := ⟨gb125, 2, none⟩) (Kd.R_far (p := ⟨gb125, 1, none⟩) (Kd.R_far (p := ⟨gb125, 0, none⟩) (Kd.R_types HO_3.out BK125.out (by decide)) (fun _ hk => hk.2) (.int .i64 t120)) (fun _ hk => hk.2) (.string t121)) (fun _ hk => hk.2) (.slice Ao29 t122.length co29)) (fun _ hk => ⟨hk.1.1, hk.1.2⟩)⟩
     have n1_ : Aside0 (Kd.R k32 32 (((w26.setCell ⟨gb125, 0, none⟩ (.int .i64 t120)).setCell ⟨gb125, 1, none⟩ (.string t121)).setCell ⟨gb125, 2, none⟩ (.slice Ao29 t122.length co29)) w.heap.size (fun k_ => some k_ ≠ (.slice Ao9 t102.length co9 : Value).ownBlock ∧ some k_ ≠ (.slice Ao29 t122.length co29 : Value).ownBlock) (.slice Ao13 t111.length co13) t111) := ⟨by (with_reducible repeat (first | apply Kd.R_alloc | apply Kd.R_drewN | apply Kd.R_drew)); exact Kd.R_mono (Kd.R_far (p := ⟨gb125, 2, none⟩) (Kd.R_far (p := ⟨gb125, 1, none⟩) (Kd.R_far (p := ⟨gb125, 0, none⟩) (Kd.R_types HO_115002.out BK125.out (by decide)) (fun _ hk => hk.2) (.int .i64 t120)) (fun _ hk => hk.2) (.string t121)) (fun _ hk => hk.2) (.slice Ao29 t122.length co29)) (fun _ hk => ⟨hk.1.1, hk.1.2⟩)⟩
     have n2_ : Aside0 (Kd.R k32 32 (((w26.setCell ⟨gb125, 0, none⟩ (.int .i64 t120)).setCell ⟨gb125, 1, none⟩ (.string t121)).setCell ⟨gb125, 2, none⟩ (.slice Ao29 t122.length co29)) w.heap.size (fun k_ => some k_ ≠ (.slice Ao9 t102.length co9 : Value).ownBlock ∧ some k_ ≠ (.slice Ao13 t111.length co13 : Value).ownBlock) (.slice Ao29 t122.length co29) t122) := ⟨by (with_reducible repeat (first | apply Kd.R_alloc | apply Kd.R_drewN | apply Kd.R_drew)); exact Kd.R_mono (Kd.R_far (p := ⟨gb125, 2, none⟩) (Kd.R_far (p := ⟨gb125, 1, none⟩) (Kd.R_far (p := ⟨gb125, 0, none⟩) (Kd.R_types HO124.out BK125.out (by decide)) (fun _ hk => hk.2) (.int .i64 t120)) (fun _ hk => hk.2) (.string t121)) (fun _ hk => hk.2) (.slice Ao29 t122.length co29)) (fun _ hk => ⟨hk.1.1.2, hk.1.2⟩)⟩
     have n3_ : Aside0 ((((w26.setCell ⟨gb125, 0, none⟩ (.int .i64 t120)).setCell ⟨gb125, 1, none⟩ (.string t121)).setCell ⟨gb125, 2, none⟩ (.slice Ao29 t122.length co29)).heap[gb114]? = some (.cells #[.int .i64 t109, .string t110, .slice Ao13 t111.length co13] 28 (0, 0))) := ⟨by (with_reducible repeat (first | refine blk_drewN ?_ _ | refine blk_drew ?_ | refine blk_alloc ?_ _)); refine blk_far ?_ NB114_125.out _; (with_reducible repeat (first | refine blk_drewN ?_ _ | refine blk_drew ?_ | refine blk_alloc ?_ _)); refine blk_far ?_ NB114_125.out _; (with_reducible repeat (first | refine blk_drewN ?_ _ | refine blk_drew ?_ | refine blk_alloc ?_ _)); refine blk_far ?_ NB114_125.out _; (with_reducible repeat (first | refine blk_drewN ?_ _ | refine blk_drew ?_ | refine blk_alloc ?_ _)); exact BK114.out⟩
     have n4_ : Aside0 ((((w26.setCell ⟨gb125, 0, none⟩ (.int .i64 t120)).setCell ⟨gb125, 1, none⟩ (.string t121)).setCell ⟨gb125, 2, none⟩ (.slice Ao29 t122.length co29)).heap[gb125]? = some (.cells #[.int .i64 t120, .string t121, .slice Ao29 t122.length co29] 28 (0, 0))) := ⟨by (with_reducible repeat (first | refine blk_drewN ?_ _ | refine blk_drew ?_ | refine blk_alloc ?_ _)); refine blk_put (cs := #[.int .i64 t120, .string t121, .slice none 0 0]) ?_ 2 _ rfl; (with_reducible repeat (first | refine blk_drewN ?_ _ | refine blk_drew ?_ | refine blk_alloc ?_ _)); refine blk_put (cs := #[.int .i64 t120, .string (⟨#[]⟩ : ByteArray), .slice none 0 0]) ?_ 1 _ rfl; (with_reducible repeat (first | refine blk_drewN ?_ _ | refine blk_drew ?_ | refine blk_alloc ?_ _)); refine blk_put (cs := #[.int .i64 0, .string (⟨#[]⟩ : ByteArray), .slice none 0 0]) ?_ 0 _ rfl; (with_reducible repeat (first | refine blk_drewN ?_ _ | refine blk_drew ?_ | refine blk_alloc ?_ _)); exact BK125.out⟩
     have n5_ : Aside0 (Below w.heap.size w (((w26.setCell ⟨gb125, 0, none⟩ (.int .i64 t120)).setCell ⟨gb125, 1, none⟩ (.string t121)).setCell ⟨gb125, 2, none⟩ (.slice Ao29 t122.length co29))) := ⟨by repeat (first | (with_reducible first | exact HB.out | apply below_alloc | apply pw_below_drewN | apply below_drew1 | refine below_set ?_ GE114.out | refine below_set ?_ GE125.out) | exact HB.out)⟩
     (try clear HO_3)
     (try clear HO_115002)
     (try clear HO124)
     (try clear BK114)
     (try clear BK125)
     (try clear HB)
     generalize (((w26.setCell ⟨gb125, 0, none⟩ (.int .i64 t120)).setCell ⟨gb125, 1, none⟩ (.string t121)).setCell ⟨gb125, 2, none⟩ (.slice Ao29 t122.length co29)) = w30 at n0_ n1_ n2_ n3_ n4_ n5_ ⊢
     have HO_3 := n0_
     have HO_115002 := n1_
     have HO124 := n2_
     have BK114 := n3_
     have BK125 := n4_
     have HB := n5_
     clear n0_ n1_ n2_ n3_ n4_ n5_
     replace HO_3 := aa (Kd.R_drew HO_3.out)
     replace HO_115002 := aa (Kd.R_drew HO_115002.out)
     replace HO124 := aa (Kd.R_drew HO124.out)
     replace BK114 := aa (blk_drew BK114.out)
     replace BK125 := aa (blk_drew BK125.out)
     replace HB := aa (below_drew1 HB.out)
     refine start_ (n := 9) (S := fun w' => w'.cell? ⟨gb114, 0, none⟩ = some (.int .i64 t109) ∧ w'.cell? ⟨gb114, 1, none⟩ = some (.string t110) ∧ w'.cell? ⟨gb114, 2, none⟩ = some (.slice Ao13 t111.length co13)) (ds := []) #[false, false, false, false, false, false, false, false, false] (by kernel_rfl) rfl rfl ⟨(blk_cell BK114.out 0).trans rfl, (blk_cell BK114.out 1).trans rfl, (blk_cell BK114.out 2).trans rfl⟩ (fun hHeld => ?_); refine with_tabW laws_FnCreates.tab8 laws_FnCreates.bits8 (fun HT_ HW_ => ?_)
     generalize w30.drew = w31 at HO_3 HO_115002 HO124 BK114 BK125 HB hHeld ⊢
     refine pu5 0 48 ?_
     refine pu5 2 50 ?_
     refine tk3_5 1 49 ?_
     refine tk3_5 3 51 ?_
     refine join_ (σ := Value × Nat) 1 #[true, true, true, true, true, true, true, true, false] (fun s_ => [(52, .agg #[.int .i64 t126, .string t127]), (54, .agg #[.int .i64 t128, s_.1]), (10, .pointer (some ⟨s_.2, 0, none⟩)), (53, .string t127)]) (fun s_ w' => (w'.cell? ⟨gb114, 0, none⟩ = some (.int .i64 t109) ∧ w'.cell? ⟨gb114, 1, none⟩ = some (.string t110) ∧ w'.cell? ⟨gb114, 2, none⟩ = some (.slice Ao13 t111.length co13)) ∧ (Kd.R k32 32 w' w.heap.size (fun k_ => some k_ ≠ (.slice Ao13 t111.length co13 : Value).ownBlock ∧ some k_ ≠ (.slice Ao9 t102.length co9 : Value).ownBlock) (.slice Ao29 t122.length co29) t122) ∧ (Kd.R Kd.string 9 w' w.heap.size (fun _ => True) s_.1 t129) ∧ (Kd.R k32 32 w' w.heap.size (fun k_ => some k_ ≠ (.slice Ao29 t122.length co29 : Value).ownBlock ∧ some k_ ≠ (.slice Ao9 t102.length co9 : Value).ownBlock) (.slice Ao13 t111.length co13) t111) ∧ (Kd.R k32 32 w' w.heap.size (fun k_ => some k_ ≠ (.slice Ao29 t122.length co29 : Value).ownBlock ∧ some k_ ≠ (.slice Ao13 t111.length co13 : Value).ownBlock) (.slice Ao9 t102.length co9) t102) ∧ (w'.heap[gb114]? = some (.cells #[.int .i64 t109, .string t110, .slice Ao13 t111.length co13] 28 (0, 0))) ∧ (w'.heap[gb125]? = some (.cells #[.int .i64 t120, .string t121, .slice Ao29 t122.length co29] 28 (0, 0))) ∧ (w'.heap[s_.2]? = some (.cells #[.int .i64 0, .slice none 0 0] 40 (0, 0))) ∧ (w.heap.size ≤ s_.2) ∧ (w.heap.size ≤ s_.2) ∧ (gb114 ≠ s_.2) ∧ (s_.2 ≠ gb114) ∧ (gb125 ≠ s_.2) ∧ (s_.2 ≠ gb125) ∧ (Below w.heap.size w w')) ?_ ?_
     rotate_left
     ·
      intro hCont
      refine two_ (i := 4) (j := 7) (Ni := some 52) (Nj := some 10) #[true, true, true, true, true, false, false, false, false] #[true, true, true, true, false, false, false, true, false] rfl rfl rfl rfl (two_of HT_.out (by kernel_rfl)) (by decide) (by decide) (fun K hK => ?_) (fun K hK => ?_)
      ·
       skip
       refine goes_ Tryd.func21 (by kernel_rfl) rfl #[.string t110] (by rfl) rfl rfl zjnmae ?_
       with_reducible refine (impl_ParentOf.calls kj6 t110 t126 t127 _ A20.out).mono ?_
       rintro e w32 ⟨rfl, hb⟩
       refine ⟨_, rfl, ?_⟩
       replace HO_3 := aa (Kd.R_below (zcaken HO_3.out) hb)
       replace HO_115002 := aa (Kd.R_below (zcaken HO_115002.out) hb)
       replace HO124 := aa (Kd.R_below (zcaken HO124.out) hb)
       replace BK114 := aa (bb_ BK114.out hb)
       replace BK125 := aa (bb_ BK125.out hb)
       replace HB := aa (below_step zhopkg hb)
       (try clear hb)
       (try clear hb2)
       (try clear hk)
       (try clear hi)
       refine hK.out _ _ ⟨(blk_cell BK114.out 0).trans rfl, (blk_cell BK114.out 1).trans rfl, (blk_cell BK114.out 2).trans rfl⟩ (fun hHeld => ?_)
       clear hK K
       refine norm_ (a' := ?_) ?_ ?_
       rotate_left
       ·
        show Act.put _ (some 52) _ = _
        simp only [Act.put, List.setIfInBounds_toArray, List.set_cons_zero, List.set_cons_succ, i64_w, i32_w]
        rfl
       refine pu5 5 53 ?_
       refine two_ (i := 6) (j := 7) (Ni := some 54) (Nj := some 10) #[true, true, true, true, true, true, true, false, false] #[true, true, true, true, true, true, false, true, false] rfl rfl rfl rfl (two_of HT_.out (by kernel_rfl)) (by decide) (by decide) (fun K hK => ?_) (fun K hK => ?_)
       ·
        skip
        refine goes_ Tryd.func17 (by kernel_rfl) rfl #[.slice Ao13 t111.length co13, .string t127] (by rfl) rfl rfl zjnmae ?_
        with_reducible refine (impl_KidsZ.calls kj6 _ _ t111 t127 t128 t129 _ ?side1 ?side2 A21.out).mono ?_
        (case side1 => exact zafndb)
        (case side2 => exact zlonic)
        rintro e w33 ⟨v130, rfl, ho0, hb⟩
        refine ⟨_, rfl, ?_⟩
        replace HO_3 := aa (Kd.R_below (zcaken HO_3.out) hb)
        replace HO_115002 := aa (Kd.R_below (zcaken HO_115002.out) hb)
        replace HO124 := aa (Kd.R_below (zcaken HO124.out) hb)
        have HO131 := aa (Kd.R_lower ho0 (below_size zhopkg))
        replace BK114 := aa (bb_ BK114.out hb)
        replace BK125 := aa (bb_ BK125.out hb)
        replace HB := aa (below_step zhopkg hb)
        (try clear hb)
        (try clear hb2)
        (try clear hk)
        (try clear hi)
        (try clear ho0)
        refine hK.out _ _ ⟨(blk_cell BK114.out 0).trans rfl, (blk_cell BK114.out 1).trans rfl, (blk_cell BK114.out 2).trans rfl⟩ (fun hHeld => ?_)
        clear hK K
        refine norm_ (a' := ?_) ?_ ?_
        rotate_left
        ·
         show Act.put _ (some 54) _ = _
         simp only [Act.put, List.setIfInBounds_toArray, List.set_cons_zero, List.set_cons_succ, i64_w, i32_w]
         rfl
        refine one_ (i := 7) (N := some 10) #[true, true, true, true, true, true, true, true, false] rfl rfl (one_of HT_.out (by kernel_rfl)) (by decide) (fun K hK => ?_)
        refine box_step ?hg (N := 10) ?hd (cs := #[.int .i64 0, .slice none 0 0]) (t := 40) ?hr ?_; (case hd => rfl); (case hg => rfl); (case hr => exact zhlgcp)
        intro gb132 hg w34 hbox hb
        have n0_ := aa (Kd.R_below (zcaken HO_3.out) hb)
        have n1_ := aa (Kd.R_below (zcaken HO_115002.out) hb)
        have n2_ := aa (Kd.R_below (zcaken HO124.out) hb)
        have n3_ := aa (Kd.R_below (zcaken HO131.out) hb)
        have n4_ := aa (bb_ BK114.out hb)
        have n5_ := aa (bb_ BK125.out hb)
        have n6_ := aa (below_step zhopkg hb)
        have n7_ := aa (hbox)
        have n8_ := aa ((zhhakl : w.heap.size ≤ gb132))
        have n9_ := aa ((zhhakl : w.heap.size ≤ gb132))
        have n10_ := aa ((zockej : gb114 ≠ gb132))
        have n11_ := aa ((zbboha : gb132 ≠ gb114))
        have n12_ := aa ((zamkgd : gb125 ≠ gb132))
        have n13_ := aa ((zdhkgp : gb132 ≠ gb125))
        clear HO_3
        clear HO_115002
        clear HO124
        clear HO131
        clear BK114
        clear BK125
        clear HB
        have HO_3 := n0_
        have HO_115002 := n1_
        have HO124 := n2_
        have HO131 := n3_
        have BK114 := n4_
        have BK125 := n5_
        have HB := n6_
        have BK132 := n7_
        have GW132 := n8_
        have GE132 := n9_
        have NB114_132 := n10_
        have NB132_114 := n11_
        have NB125_132 := n12_
        have NB132_125 := n13_
        clear n0_ n1_ n2_ n3_ n4_ n5_ n6_ n7_ n8_ n9_ n10_ n11_ n12_ n13_
        clear hb hbox hg
        refine hK.out _ _ ⟨(blk_cell BK114.out 0).trans rfl, (blk_cell BK114.out 1).trans rfl, (blk_cell BK114.out 2).trans rfl⟩ (fun hHeld => ?_)
        clear hK K
        refine norm_ (a' := ?_) ?_ ?_
        rotate_left
        ·
         show Act.put _ (some 10) _ = _
         simp only [Act.put, List.setIfInBounds_toArray, List.set_cons_zero, List.set_cons_succ, i64_w, i32_w]
         rfl
        exact norm_ zgldpg (hCont (v130, gb132) _ ⟨hHeld, zgpbio, (zcaken HO131.out), zfjmdb, zdcipc, (zkjhpm BK114.out), (zkjhpm BK125.out), (zkjhpm BK132.out), GW132.out, GE132.out, NB114_132.out, NB132_114.out, NB125_132.out, NB132_125.out, zokdlo⟩)
       skip
       refine box_step ?hg (N := 10) ?hd (cs := #[.int .i64 0, .slice none 0 0]) (t := 40) ?hr ?_; (case hd => rfl); (case hg => rfl); (case hr => exact zhlgcp)
       intro gb132 hg w33 hbox hb
       have n0_ := aa (Kd.R_below (zcaken HO_3.out) hb)
       have n1_ := aa (Kd.R_below (zcaken HO_115002.out) hb)
       have n2_ := aa (Kd.R_below (zcaken HO124.out) hb)
       have n3_ := aa (bb_ BK114.out hb)
       have n4_ := aa (bb_ BK125.out hb)
       have n5_ := aa (below_step zhopkg hb)
       have n6_ := aa (hbox)
       have n7_ := aa ((zhhakl : w.heap.size ≤ gb132))
       have n8_ := aa ((zhhakl : w.heap.size ≤ gb132))
       have n9_ := aa ((zockej : gb114 ≠ gb132))
       have n10_ := aa ((zbboha : gb132 ≠ gb114))
       have n11_ := aa ((zamkgd : gb125 ≠ gb132))
       have n12_ := aa ((zdhkgp : gb132 ≠ gb125))
       clear HO_3
       clear HO_115002
       clear HO124
       clear BK114
       clear BK125
       clear HB
       have HO_3 := n0_
       have HO_115002 := n1_
       have HO124 := n2_
       have BK114 := n3_
       have BK125 := n4_
       have HB := n5_
       have BK132 := n6_
       have GW132 := n7_
       have GE132 := n8_
       have NB114_132 := n9_
       have NB132_114 := n10_
       have NB125_132 := n11_
       have NB132_125 := n12_
       clear n0_ n1_ n2_ n3_ n4_ n5_ n6_ n7_ n8_ n9_ n10_ n11_ n12_
       clear hb hbox hg
       refine hK.out _ _ ⟨(blk_cell BK114.out 0).trans rfl, (blk_cell BK114.out 1).trans rfl, (blk_cell BK114.out 2).trans rfl⟩ (fun hHeld => ?_)
       clear hK K
       refine norm_ (a' := ?_) ?_ ?_
       rotate_left
       ·
        show Act.put _ (some 10) _ = _
        simp only [Act.put, List.setIfInBounds_toArray, List.set_cons_zero, List.set_cons_succ, i64_w, i32_w]
        rfl
       refine one_ (i := 6) (N := some 54) #[true, true, true, true, true, true, true, true, false] rfl rfl (one_of HT_.out (by kernel_rfl)) (by decide) (fun K hK => ?_)
       refine goes_ Tryd.func17 (by kernel_rfl) rfl #[.slice Ao13 t111.length co13, .string t127] (by rfl) rfl rfl zjnmae ?_
       with_reducible refine (impl_KidsZ.calls kj6 _ _ t111 t127 t128 t129 _ ?side1 ?side2 A21.out).mono ?_
       (case side1 => exact zafndb)
       (case side2 => exact zlonic)
       rintro e w34 ⟨v130, rfl, ho0, hb⟩
       refine ⟨_, rfl, ?_⟩
       replace HO_3 := aa (Kd.R_below (zcaken HO_3.out) hb)
       replace HO_115002 := aa (Kd.R_below (zcaken HO_115002.out) hb)
       replace HO124 := aa (Kd.R_below (zcaken HO124.out) hb)
       have HO131 := aa (Kd.R_lower ho0 (below_size zokdlo))
       replace BK114 := aa (bb_ BK114.out hb)
       replace BK125 := aa (bb_ BK125.out hb)
       replace BK132 := aa (bb_ BK132.out hb)
       replace HB := aa (below_step zokdlo hb)
       (try clear hb)
       (try clear hb2)
       (try clear hk)
       (try clear hi)
       (try clear ho0)
       refine hK.out _ _ ⟨(blk_cell BK114.out 0).trans rfl, (blk_cell BK114.out 1).trans rfl, (blk_cell BK114.out 2).trans rfl⟩ (fun hHeld => ?_)
       clear hK K
       refine norm_ (a' := ?_) ?_ ?_
       rotate_left
       ·
        show Act.put _ (some 54) _ = _
        simp only [Act.put, List.setIfInBounds_toArray, List.set_cons_zero, List.set_cons_succ, i64_w, i32_w]
        rfl
       exact norm_ zgldpg (hCont (v130, gb132) _ ⟨hHeld, zgpbio, (zcaken HO131.out), zfjmdb, zdcipc, (zkjhpm BK114.out), (zkjhpm BK125.out), (zkjhpm BK132.out), GW132.out, GE132.out, NB114_132.out, NB132_114.out, NB125_132.out, NB132_125.out, zokdlo⟩)
      skip
      refine box_step ?hg (N := 10) ?hd (cs := #[.int .i64 0, .slice none 0 0]) (t := 40) ?hr ?_; (case hd => rfl); (case hg => rfl); (case hr => exact zhlgcp)
      intro gb132 hg w32 hbox hb
      have n0_ := aa (Kd.R_below (zcaken HO_3.out) hb)
      have n1_ := aa (Kd.R_below (zcaken HO_115002.out) hb)
      have n2_ := aa (Kd.R_below (zcaken HO124.out) hb)
      have n3_ := aa (bb_ BK114.out hb)
      have n4_ := aa (bb_ BK125.out hb)
      have n5_ := aa (below_step zhopkg hb)
      have n6_ := aa (hbox)
      have n7_ := aa ((zhhakl : w.heap.size ≤ gb132))
      have n8_ := aa ((zhhakl : w.heap.size ≤ gb132))
      have n9_ := aa ((zockej : gb114 ≠ gb132))
      have n10_ := aa ((zbboha : gb132 ≠ gb114))
      have n11_ := aa ((zamkgd : gb125 ≠ gb132))
      have n12_ := aa ((zdhkgp : gb132 ≠ gb125))
      clear HO_3
      clear HO_115002
      clear HO124
      clear BK114
      clear BK125
      clear HB
      have HO_3 := n0_
      have HO_115002 := n1_
      have HO124 := n2_
      have BK114 := n3_
      have BK125 := n4_
      have HB := n5_
      have BK132 := n6_
      have GW132 := n7_
      have GE132 := n8_
      have NB114_132 := n9_
      have NB132_114 := n10_
      have NB125_132 := n11_
      have NB132_125 := n12_
      clear n0_ n1_ n2_ n3_ n4_ n5_ n6_ n7_ n8_ n9_ n10_ n11_ n12_
      clear hb hbox hg
      refine hK.out _ _ ⟨(blk_cell BK114.out 0).trans rfl, (blk_cell BK114.out 1).trans rfl, (blk_cell BK114.out 2).trans rfl⟩ (fun hHeld => ?_)
      clear hK K
      refine norm_ (a' := ?_) ?_ ?_
      rotate_left
      ·
       show Act.put _ (some 10) _ = _
       simp only [Act.put, List.setIfInBounds_toArray, List.set_cons_zero, List.set_cons_succ, i64_w, i32_w]
       rfl
      refine one_ (i := 4) (N := some 52) #[true, true, true, true, true, false, false, true, false] rfl rfl (one_of HT_.out (by kernel_rfl)) (by decide) (fun K hK => ?_)
      refine goes_ Tryd.func21 (by kernel_rfl) rfl #[.string t110] (by rfl) rfl rfl zjnmae ?_
      with_reducible refine (impl_ParentOf.calls kj6 t110 t126 t127 _ A20.out).mono ?_
      rintro e w33 ⟨rfl, hb⟩
      refine ⟨_, rfl, ?_⟩
      replace HO_3 := aa (Kd.R_below (zcaken HO_3.out) hb)
      replace HO_115002 := aa (Kd.R_below (zcaken HO_115002.out) hb)
      replace HO124 := aa (Kd.R_below (zcaken HO124.out) hb)
      replace BK114 := aa (bb_ BK114.out hb)
      replace BK125 := aa (bb_ BK125.out hb)
      replace BK132 := aa (bb_ BK132.out hb)
      replace HB := aa (below_step zokdlo hb)
      (try clear hb)
      (try clear hb2)
      (try clear hk)
      (try clear hi)
      refine hK.out _ _ ⟨(blk_cell BK114.out 0).trans rfl, (blk_cell BK114.out 1).trans rfl, (blk_cell BK114.out 2).trans rfl⟩ (fun hHeld => ?_)
      clear hK K
      refine norm_ (a' := ?_) ?_ ?_
      rotate_left
      ·
       show Act.put _ (some 52) _ = _
       simp only [Act.put, List.setIfInBounds_toArray, List.set_cons_zero, List.set_cons_succ, i64_w, i32_w]
       rfl
      refine pu5 5 53 ?_
      refine one_ (i := 6) (N := some 54) #[true, true, true, true, true, true, true, true, false] rfl rfl (one_of HT_.out (by kernel_rfl)) (by decide) (fun K hK => ?_)
      refine goes_ Tryd.func17 (by kernel_rfl) rfl #[.slice Ao13 t111.length co13, .string t127] (by rfl) rfl rfl zjnmae ?_
      with_reducible refine (impl_KidsZ.calls kj6 _ _ t111 t127 t128 t129 _ ?side1 ?side2 A21.out).mono ?_
      (case side1 => exact zafndb)
      (case side2 => exact zlonic)
      rintro e w34 ⟨v130, rfl, ho0, hb⟩
      refine ⟨_, rfl, ?_⟩
      replace HO_3 := aa (Kd.R_below (zcaken HO_3.out) hb)
      replace HO_115002 := aa (Kd.R_below (zcaken HO_115002.out) hb)
      replace HO124 := aa (Kd.R_below (zcaken HO124.out) hb)
      have HO131 := aa (Kd.R_lower ho0 (below_size zokdlo))
      replace BK114 := aa (bb_ BK114.out hb)
      replace BK125 := aa (bb_ BK125.out hb)
      replace BK132 := aa (bb_ BK132.out hb)
      replace HB := aa (below_step zokdlo hb)
      (try clear hb)
      (try clear hb2)
      (try clear hk)
      (try clear hi)
      (try clear ho0)
      refine hK.out _ _ ⟨(blk_cell BK114.out 0).trans rfl, (blk_cell BK114.out 1).trans rfl, (blk_cell BK114.out 2).trans rfl⟩ (fun hHeld => ?_)
      clear hK K
      refine norm_ (a' := ?_) ?_ ?_
      rotate_left
      ·
       show Act.put _ (some 54) _ = _
       simp only [Act.put, List.setIfInBounds_toArray, List.set_cons_zero, List.set_cons_succ, i64_w, i32_w]
       rfl
      exact norm_ zgldpg (hCont (v130, gb132) _ ⟨hHeld, zgpbio, (zcaken HO131.out), zfjmdb, zdcipc, (zkjhpm BK114.out), (zkjhpm BK125.out), (zkjhpm BK132.out), GW132.out, GE132.out, NB114_132.out, NB132_114.out, NB125_132.out, NB132_125.out, zokdlo⟩)
     rintro ⟨v130, gb132⟩ w35 ⟨hS_, h0_, h1_, h2_, h3_, h4_, h5_, h6_, h7_, h8_, h9_, h10_, h11_, h12_, h13_⟩
     have n0_ : Aside0 (Kd.R k32 32 w35 w.heap.size (fun k_ => some k_ ≠ (.slice Ao13 t111.length co13 : Value).ownBlock ∧ some k_ ≠ (.slice Ao9 t102.length co9 : Value).ownBlock) (.slice Ao29 t122.length co29) t122) := ⟨h0_⟩
     have n1_ : Aside0 (Kd.R Kd.string 9 w35 w.heap.size (fun _ => True) v130 t129) := ⟨h1_⟩
     have n2_ : Aside0 (Kd.R k32 32 w35 w.heap.size (fun k_ => some k_ ≠ (.slice Ao29 t122.length co29 : Value).ownBlock ∧ some k_ ≠ (.slice Ao9 t102.length co9 : Value).ownBlock) (.slice Ao13 t111.length co13) t111) := ⟨h2_⟩
     have n3_ : Aside0 (Kd.R k32 32 w35 w.heap.size (fun k_ => some k_ ≠ (.slice Ao29 t122.length co29 : Value).ownBlock ∧ some k_ ≠ (.slice Ao13 t111.length co13 : Value).ownBlock) (.slice Ao9 t102.length co9) t102) := ⟨h3_⟩
     have n4_ : Aside0 (w35.heap[gb114]? = some (.cells #[.int .i64 t109, .string t110, .slice Ao13 t111.length co13] 28 (0, 0))) := ⟨h4_⟩
     have n5_ : Aside0 (w35.heap[gb125]? = some (.cells #[.int .i64 t120, .string t121, .slice Ao29 t122.length co29] 28 (0, 0))) := ⟨h5_⟩
     have n6_ : Aside0 (w35.heap[gb132]? = some (.cells #[.int .i64 0, .slice none 0 0] 40 (0, 0))) := ⟨h6_⟩
     have n7_ : Aside0 (w.heap.size ≤ gb132) := ⟨h7_⟩
     have n8_ : Aside0 (w.heap.size ≤ gb132) := ⟨h8_⟩
     have n9_ : Aside0 (gb114 ≠ gb132) := ⟨h9_⟩
     have n10_ : Aside0 (gb132 ≠ gb114) := ⟨h10_⟩
     have n11_ : Aside0 (gb125 ≠ gb132) := ⟨h11_⟩
     have n12_ : Aside0 (gb132 ≠ gb125) := ⟨h12_⟩
     have n13_ : Aside0 (Below w.heap.size w w35) := ⟨h13_⟩
     clear HO_3
     clear HO_115002
     clear HO124
     clear BK114
     clear BK125
     clear HB
     clear h0_ h1_ h2_ h3_ h4_ h5_ h6_ h7_ h8_ h9_ h10_ h11_ h12_ h13_
     have HO124 := n0_
     have HO131 := n1_
     have HO_115002 := n2_
     have HO_3 := n3_
     have BK114 := n4_
     have BK125 := n5_
     have BK132 := n6_
     have GW132 := n7_
     have GE132 := n8_
     have NB114_132 := n9_
     have NB132_114 := n10_
     have NB125_132 := n11_
     have NB132_125 := n12_
     have HB := n13_
     clear n0_ n1_ n2_ n3_ n4_ n5_ n6_ n7_ n8_ n9_ n10_ n11_ n12_ n13_
     have hHeld : w35.cell? ⟨gb114, 0, none⟩ = some (.int .i64 t109) ∧ w35.cell? ⟨gb114, 1, none⟩ = some (.string t110) ∧ w35.cell? ⟨gb114, 2, none⟩ = some (.slice Ao13 t111.length co13) := hS_
     obtain ⟨Ao37, co37, eo37⟩ := Kd.R_slice HO131.out
     (first | subst eo37 | (injection eo37 with f1_ f2_ f3_; have f4_ := f1_.symm; have f5_ := f3_.symm; clear f1_ f2_ f3_; subst f4_; subst f5_))
     refine norm_ (a' := ?_) ?_ ?_
     rotate_left
     ·
      simp only [putAll, Act.put, List.setIfInBounds_toArray, List.set_cons_zero, List.set_cons_succ]
      rfl
     refine one_ (i := 8) (N := none) #[true, true, true, true, true, true, true, true, true] rfl rfl (one_of HT_.out (by kernel_rfl)) (by decide) (fun K hK => ?_)
     have hs36 : w35.cell? ⟨gb132, 0, none⟩ = some (.int .i64 0) := (blk_cell BK132.out 0).trans rfl
     have hfs36 := blk_frozen BK132.out 0
     have hns36_0 := NB114_132.out
     have hns36_1 := NB125_132.out
     have hms36_0 := NB132_114.out
     have hms36_1 := NB132_125.out
     have hs38 : w35.cell? ⟨gb132, 1, none⟩ = some (.slice none 0 0) := (blk_cell BK132.out 1).trans rfl
     have hfs38 := blk_frozen BK132.out 1
     have hns38_0 := NB114_132.out
     have hns38_1 := NB125_132.out
     have hms38_0 := NB132_114.out
     have hms38_1 := NB132_125.out
     refine skip_ (w1 := ?_) (by rfl) rfl ?_ ?_
     rotate_left
     ·
      go_simp
      rfl
     refine hK.out _ _ ⟨((cell_far (p := ⟨gb132, _, none⟩) NB114_132.out _).trans (((cell_far (p := ⟨gb132, _, none⟩) NB114_132.out _).trans (hHeld.1)))), ((cell_far (p := ⟨gb132, _, none⟩) NB114_132.out _).trans (((cell_far (p := ⟨gb132, _, none⟩) NB114_132.out _).trans (hHeld.2.1)))), ((cell_far (p := ⟨gb132, _, none⟩) NB114_132.out _).trans (((cell_far (p := ⟨gb132, _, none⟩) NB114_132.out _).trans (hHeld.2.2))))⟩ (fun hHeld => ?_)
     clear hK K
     refine done_ (done_of HT_.out (by kernel_rfl)) ?_
     have hnb39 := NB114_132.out
     have hnc39 := NB132_114.out
     obtain ⟨hcz40_0, hcz40_1, hcz40_2, hfz40_0, hfz40_1, hfz40_2⟩ := blk3_ BK114.out
     try go_wp2_with (first | (refine gc_ Tryd.func21 (some 58) #[.string t110] ?_; (with_reducible refine (impl_ParentOf.calls kj6 t110 t133 t134 _ A22.out).mono ?_); rintro e w41 ⟨rfl, hb⟩; refine ⟨_, rfl, ?_⟩; have n0_ := aa (Kd.R_below (by (with_reducible repeat (first | apply Kd.R_alloc | apply Kd.R_drewN | apply Kd.R_drew)); exact (Kd.R_mono (Kd.R_far (p := ⟨gb132, 1, none⟩) (Kd.R_far (p := ⟨gb132, 0, none⟩) (Kd.R_types HO_3.out BK132.out (by decide)) (fun _ hk => hk.2) (.int .i64 t128)) (fun _ hk => hk.2) (.slice Ao37 t129.length co37)) (fun _ h_ => h_.1))) hb); have n1_ := aa (Kd.R_below (by (with_reducible repeat (first | apply Kd.R_alloc | apply Kd.R_drewN | apply Kd.R_drew)); exact (Kd.R_mono (Kd.R_far (p := ⟨gb132, 1, none⟩) (Kd.R_far (p := ⟨gb132, 0, none⟩) (Kd.R_types HO_115002.out BK132.out (by decide)) (fun _ hk => hk.2) (.int .i64 t128)) (fun _ hk => hk.2) (.slice Ao37 t129.length co37)) (fun _ h_ => h_.1))) hb); have n2_ := aa (Kd.R_below (by (with_reducible repeat (first | apply Kd.R_alloc | apply Kd.R_drewN | apply Kd.R_drew)); exact (Kd.R_mono (Kd.R_far (p := ⟨gb132, 1, none⟩) (Kd.R_far (p := ⟨gb132, 0, none⟩) (Kd.R_types HO124.out BK132.out (by decide)) (fun _ hk => hk.2) (.int .i64 t128)) (fun _ hk => hk.2) (.slice Ao37 t129.length co37)) (fun _ h_ => h_.1))) hb); have n3_ := aa (Kd.R_below (by (with_reducible repeat (first | apply Kd.R_alloc | apply Kd.R_drewN | apply Kd.R_drew)); exact (Kd.R_mono (Kd.R_far (p := ⟨gb132, 1, none⟩) (Kd.R_far (p := ⟨gb132, 0, none⟩) (Kd.R_types HO131.out BK132.out (by decide)) (fun _ hk => hk.2) (.int .i64 t128)) (fun _ hk => hk.2) (.slice Ao37 t129.length co37)) (fun _ h_ => h_.1))) hb); have n4_ := aa (blk_below (g := gb114) (o := .cells #[.int .i64 t109, .string t110, .slice Ao13 t111.length co13] 28 (0, 0)) (by (with_reducible repeat (first | refine blk_drewN ?_ _ | refine blk_drew ?_ | refine blk_alloc ?_ _)); refine blk_far ?_ NB114_132.out _; (with_reducible repeat (first | refine blk_drewN ?_ _ | refine blk_drew ?_ | refine blk_alloc ?_ _)); refine blk_far ?_ NB114_132.out _; (with_reducible repeat (first | refine blk_drewN ?_ _ | refine blk_drew ?_ | refine blk_alloc ?_ _)); exact BK114.out) hb); have n5_ := aa (blk_below (g := gb125) (o := .cells #[.int .i64 t120, .string t121, .slice Ao29 t122.length co29] 28 (0, 0)) (by (with_reducible repeat (first | refine blk_drewN ?_ _ | refine blk_drew ?_ | refine blk_alloc ?_ _)); refine blk_far ?_ NB125_132.out _; (with_reducible repeat (first | refine blk_drewN ?_ _ | refine blk_drew ?_ | refine blk_alloc ?_ _)); refine blk_far ?_ NB125_132.out _; (with_reducible repeat (first | refine blk_drewN ?_ _ | refine blk_drew ?_ | refine blk_alloc ?_ _)); exact BK125.out) hb); have n6_ := aa (blk_below (g := gb132) (o := .cells #[.int .i64 t128, .slice Ao37 t129.length co37] 40 (0, 0)) (by (with_reducible repeat (first | refine blk_drewN ?_ _ | refine blk_drew ?_ | refine blk_alloc ?_ _)); refine blk_put (cs := #[.int .i64 t128, .slice none 0 0]) ?_ 1 _ rfl; (with_reducible repeat (first | refine blk_drewN ?_ _ | refine blk_drew ?_ | refine blk_alloc ?_ _)); refine blk_put (cs := #[.int .i64 0, .slice none 0 0]) ?_ 0 _ rfl; (with_reducible repeat (first | refine blk_drewN ?_ _ | refine blk_drew ?_ | refine blk_alloc ?_ _)); exact BK132.out) hb); have n7_ := aa (below_step zokdlo hb); clear HO_3; clear HO_115002; clear HO124; clear HO131; clear BK114; clear BK125; clear BK132; clear HB; have HO_3 := n0_; have HO_115002 := n1_; have HO124 := n2_; have HO131 := n3_; have BK114 := n4_; have BK125 := n5_; have BK132 := n6_; have HB := n7_; clear n0_ n1_ n2_ n3_ n4_ n5_ n6_ n7_; (try clear hb hk hi)) | (refine gc_ Tryd.func17 (some 60) #[.slice Ao9 t102.length co9, .string t134] ?_; (with_reducible refine (impl_KidsZ.calls kj6 _ _ t102 t134 t135 t136 _ zifagg zkdfbh A23.out).mono ?_); rintro e w42 ⟨v137, rfl, ho0, hb⟩; refine ⟨_, rfl, ?_⟩; have n0_ := aa (Kd.R_below (zcaken HO_3.out) hb); have n1_ := aa (Kd.R_below (zcaken HO_115002.out) hb); have n2_ := aa (Kd.R_below (zcaken HO124.out) hb); have n3_ := aa (Kd.R_elder' (zcaken HO131.out) (Kd.R_base ho0) hb); have n4_ := aa (Kd.R_lower (Kd.R_new' ho0 (Kd.R_lt (zcaken HO131.out))) (below_size zokdlo)); have n5_ := aa (bb_ BK114.out hb); have n6_ := aa (bb_ BK125.out hb); have n7_ := aa (bb_ BK132.out hb); have n8_ := aa (below_step zokdlo hb); clear HO_3; clear HO_115002; clear HO124; clear HO131; clear BK114; clear BK125; clear BK132; clear HB; have HO_3 := n0_; have HO_115002 := n1_; have HO124 := n2_; have HO131 := n3_; have HO138 := n4_; have BK114 := n5_; have BK125 := n6_; have BK132 := n7_; have HB := n8_; clear n0_ n1_ n2_ n3_ n4_ n5_ n6_ n7_ n8_; (try clear hb hk hi ho0)) | ((with_reducible refine gate_dst (N := 11) rfl ?_); (try (refine gate_guard (by rfl) ?_; dsimp only)); refine box_event ?hg (N := 11) ?hd (cs := #[.int .i64 0, .slice none 0 0]) (t := 40) ?hr ?_; (case hd => rfl); (case hg => rfl); (case hr => exact zhlgcp); intro gb139 hg w43 hbox hb; have n0_ := aa (Kd.R_below (zcaken HO_3.out) hb); have n1_ := aa (Kd.R_below (zcaken HO_115002.out) hb); have n2_ := aa (Kd.R_below (zcaken HO124.out) hb); have n3_ := aa (Kd.R_below (zcaken HO131.out) hb); have n4_ := aa (Kd.R_below (zcaken HO138.out) hb); have n5_ := aa (bb_ BK114.out hb); have n6_ := aa (bb_ BK125.out hb); have n7_ := aa (bb_ BK132.out hb); have n8_ := aa (below_step zokdlo hb); have n9_ := aa (hbox); have n10_ := aa ((by rw [hg]; exact (below_size zokdlo) : w.heap.size ≤ gb139)); have n11_ := aa ((by rw [hg]; exact (below_size zokdlo) : w.heap.size ≤ gb139)); have n12_ := aa ((zockej : gb114 ≠ gb139)); have n13_ := aa ((zbboha : gb139 ≠ gb114)); have n14_ := aa ((zamkgd : gb125 ≠ gb139)); have n15_ := aa ((zdhkgp : gb139 ≠ gb125)); have n16_ := aa ((zmcedh : gb132 ≠ gb139)); have n17_ := aa ((zpalib : gb139 ≠ gb132)); clear HO_3; clear HO_115002; clear HO124; clear HO131; clear HO138; clear BK114; clear BK125; clear BK132; clear HB; have HO_3 := n0_; have HO_115002 := n1_; have HO124 := n2_; have HO131 := n3_; have HO138 := n4_; have BK114 := n5_; have BK125 := n6_; have BK132 := n7_; have HB := n8_; have BK139 := n9_; have GW139 := n10_; have GE139 := n11_; have NB114_139 := n12_; have NB139_114 := n13_; have NB125_139 := n14_; have NB139_125 := n15_; have NB132_139 := n16_; have NB139_132 := n17_; clear n0_ n1_ n2_ n3_ n4_ n5_ n6_ n7_ n8_ n9_ n10_ n11_ n12_ n13_ n14_ n15_ n16_ n17_; clear hb hbox hg; have hnb44 := NB139_114.out; have hnc44 := NB114_139.out; have hnb45 := NB139_125.out; have hnc45 := NB125_139.out; have hnb46 := NB139_132.out; have hnc46 := NB132_139.out; obtain ⟨hcz47_0, hcz47_1, hfz47_0, hfz47_1⟩ := blk2_ BK139.out; obtain ⟨Ao48, co48, eo48⟩ := Kd.R_slice HO138.out; subst eo48))
     go_loopg [12] kj6 (fun kq v12 w' => ∃ (x12_3 : Int), v12 = .int .i64 x12_3 ∧ Aside0 (laws_FnCreates.l0 kq t102 t103 t104 t105 t106 x12_3 t109 t110 t111 t120 t121 t122 t128 t129 t135 t136 = some r) ∧ Aside0 (kq ≤ kj6) ∧ Aside0 (Kd.R k32 32 w' w.heap.size (fun k_ => some k_ ≠ ((.slice Ao13 t111.length co13) : Value).ownBlock ∧ some k_ ≠ ((.slice Ao29 t122.length co29) : Value).ownBlock) (.slice Ao9 t102.length co9) t102) ∧ Aside0 (Kd.R k32 32 w' w.heap.size (fun k_ => some k_ ≠ ((.slice Ao9 t102.length co9) : Value).ownBlock ∧ some k_ ≠ ((.slice Ao29 t122.length co29) : Value).ownBlock) (.slice Ao13 t111.length co13) t111) ∧ Aside0 (Kd.R k32 32 w' w.heap.size (fun k_ => some k_ ≠ ((.slice Ao9 t102.length co9) : Value).ownBlock ∧ some k_ ≠ ((.slice Ao13 t111.length co13) : Value).ownBlock) (.slice Ao29 t122.length co29) t122) ∧ Aside0 (Kd.R Kd.string 9 w' w.heap.size (fun k_ => some k_ ≠ ((.slice Ao48 t136.length co48) : Value).ownBlock) (.slice Ao37 t129.length co37) t129) ∧ Aside0 (Kd.R Kd.string 9 w' w.heap.size (fun k_ => some k_ ≠ ((.slice Ao37 t129.length co37) : Value).ownBlock) (.slice Ao48 t136.length co48) t136) ∧ Aside0 (w'.heap[gb114]? = some (.cells #[.int .i64 t109, .string t110, (.slice Ao13 t111.length co13)] 28 (0, 0))) ∧ Aside0 (w'.heap[gb125]? = some (.cells #[.int .i64 t120, .string t121, (.slice Ao29 t122.length co29)] 28 (0, 0))) ∧ Aside0 (w'.heap[gb132]? = some (.cells #[.int .i64 t128, (.slice Ao37 t129.length co37)] 40 (0, 0))) ∧ Aside0 (w'.heap[gb139]? = some (.cells #[.int .i64 t135, (.slice Ao48 t136.length co48)] 40 (0, 0))) ∧ Aside0 (Below w.heap.size w w'))
     case atStart => exact ⟨(0), zagbkp, H', ⟨Nat.le_refl _⟩, ⟨by (with_reducible repeat (first | apply Kd.R_alloc | apply Kd.R_drewN | apply Kd.R_drew)); exact Kd.R_mono (Kd.R_far (p := ⟨gb139, 1, none⟩) (Kd.R_far (p := ⟨gb139, 0, none⟩) (Kd.R_types HO_3.out BK139.out (by decide)) (fun _ hk => hk.2) (.int .i64 t135)) (fun _ hk => hk.2) (.slice Ao48 t136.length co48)) (fun _ hk => ⟨hk.1.2, hk.1.1⟩)⟩, ⟨by (with_reducible repeat (first | apply Kd.R_alloc | apply Kd.R_drewN | apply Kd.R_drew)); exact Kd.R_mono (Kd.R_far (p := ⟨gb139, 1, none⟩) (Kd.R_far (p := ⟨gb139, 0, none⟩) (Kd.R_types HO_115002.out BK139.out (by decide)) (fun _ hk => hk.2) (.int .i64 t135)) (fun _ hk => hk.2) (.slice Ao48 t136.length co48)) (fun _ hk => ⟨hk.1.2, hk.1.1⟩)⟩, ⟨by (with_reducible repeat (first | apply Kd.R_alloc | apply Kd.R_drewN | apply Kd.R_drew)); exact Kd.R_mono (Kd.R_far (p := ⟨gb139, 1, none⟩) (Kd.R_far (p := ⟨gb139, 0, none⟩) (Kd.R_types HO124.out BK139.out (by decide)) (fun _ hk => hk.2) (.int .i64 t135)) (fun _ hk => hk.2) (.slice Ao48 t136.length co48)) (fun _ hk => ⟨hk.1.2, hk.1.1⟩)⟩, ⟨by (with_reducible repeat (first | apply Kd.R_alloc | apply Kd.R_drewN | apply Kd.R_drew)); exact Kd.R_mono (Kd.R_far (p := ⟨gb139, 1, none⟩) (Kd.R_far (p := ⟨gb139, 0, none⟩) (Kd.R_types HO131.out BK139.out (by decide)) (fun _ hk => hk.2) (.int .i64 t135)) (fun _ hk => hk.2) (.slice Ao48 t136.length co48)) (fun _ hk => hk.1.2)⟩, ⟨by (with_reducible repeat (first | apply Kd.R_alloc | apply Kd.R_drewN | apply Kd.R_drew)); exact Kd.R_mono (Kd.R_far (p := ⟨gb139, 1, none⟩) (Kd.R_far (p := ⟨gb139, 0, none⟩) (Kd.R_types HO138.out BK139.out (by decide)) (fun _ hk => hk.2) (.int .i64 t135)) (fun _ hk => hk.2) (.slice Ao48 t136.length co48)) (fun _ hk => hk.1.2)⟩, ⟨by (with_reducible repeat (first | refine blk_drewN ?_ _ | refine blk_drew ?_ | refine blk_alloc ?_ _)); refine blk_far ?_ NB114_139.out _; (with_reducible repeat (first | refine blk_drewN ?_ _ | refine blk_drew ?_ | refine blk_alloc ?_ _)); refine blk_far ?_ NB114_139.out _; (with_reducible repeat (first | refine blk_drewN ?_ _ | refine blk_drew ?_ | refine blk_alloc ?_ _)); exact BK114.out⟩, ⟨by (with_reducible repeat (first | refine blk_drewN ?_ _ | refine blk_drew ?_ | refine blk_alloc ?_ _)); refine blk_far ?_ NB125_139.out _; (with_reducible repeat (first | refine blk_drewN ?_ _ | refine blk_drew ?_ | refine blk_alloc ?_ _)); refine blk_far ?_ NB125_139.out _; (with_reducible repeat (first | refine blk_drewN ?_ _ | refine blk_drew ?_ | refine blk_alloc ?_ _)); exact BK125.out⟩, ⟨by (with_reducible repeat (first | refine blk_drewN ?_ _ | refine blk_drew ?_ | refine blk_alloc ?_ _)); refine blk_far ?_ NB132_139.out _; (with_reducible repeat (first | refine blk_drewN ?_ _ | refine blk_drew ?_ | refine blk_alloc ?_ _)); refine blk_far ?_ NB132_139.out _; (with_reducible repeat (first | refine blk_drewN ?_ _ | refine blk_drew ?_ | refine blk_alloc ?_ _)); exact BK132.out⟩, ⟨by (with_reducible repeat (first | refine blk_drewN ?_ _ | refine blk_drew ?_ | refine blk_alloc ?_ _)); refine blk_put (cs := #[.int .i64 t135, .slice none 0 0]) ?_ 1 _ rfl; (with_reducible repeat (first | refine blk_drewN ?_ _ | refine blk_drew ?_ | refine blk_alloc ?_ _)); refine blk_put (cs := #[.int .i64 0, .slice none 0 0]) ?_ 0 _ rfl; (with_reducible repeat (first | refine blk_drewN ?_ _ | refine blk_drew ?_ | refine blk_alloc ?_ _)); exact BK139.out⟩, ⟨zgdeah⟩⟩
     case round =>
      clear H'
      try clear p2
      try clear c4
      try clear c14b0
      try clear c14b1
      try clear c14b2
      try clear hcz12_0
      try clear hcz12_1
      try clear hcz12_2
      try clear hcz24_0
      try clear hcz24_1
      try clear hcz24_2
      try clear hcz28_0
      try clear hcz28_1
      try clear hcz28_2
      try clear hcz40_0
      try clear hcz40_1
      try clear hcz40_2
      try clear hcz47_0
      try clear hcz47_1
      try clear hfz12_0
      try clear hfz12_1
      try clear hfz12_2
      try clear hfz24_0
      try clear hfz24_1
      try clear hfz24_2
      try clear hfz28_0
      try clear hfz28_1
      try clear hfz28_2
      try clear hfz40_0
      try clear hfz40_1
      try clear hfz40_2
      try clear hfz47_0
      try clear hfz47_1
      try clear p2
      obtain ⟨x12_3, rfl, HA, HK3, HO_3, HO_115002, HO_126002, HO_133001, HO_140001, BK114, BK125, BK132, BK139, HB⟩ := hrel
      cases gk with
      | zero => exact absurd HA.out (by simp [laws_FnCreates.l0])
      | succ k3 =>
       have H := HA.out
       clear HA
       simp only [laws_FnCreates.l0] at H
       revert H
       refine itD_ (fun c49b0 H => ?_) fun c49b0 H => ?_
       ·
        revert H
        refine itH_ fun c50b0 H => ?_
        revert H
        refine ob3_ fun t141 t142 t143 A51 H => ?_
        (try dsimp only at H)
        revert H
        refine itE_ (fun c52b0 c52b1 H => ?_) fun c52b0 c52b1 H => ?_
        rotate_left
        ·
         obtain rfl := Option.some.inj H
         exact absurd HRT.out (by decide)
        revert H
        refine itE_ (fun c53b0 c53b1 H => ?_) fun c53b0 c53b1 H => ?_
        rotate_left
        ·
         obtain rfl := Option.some.inj H
         exact absurd HRT.out (by decide)
        revert H
        refine itG_ fun c54 H => ?_
        have c54b0 := decide_eq_true c54
        have c54b1 : decide (0 < t143.length) = true := decide_eq_true (by omega)
        clear c54
        revert H
        refine itE_ (fun c55b0 c55b1 H => ?_) fun c55b0 c55b1 H => ?_
        rotate_left
        ·
         obtain rfl := Option.some.inj H
         exact absurd HRT.out (by decide)
        revert H
        refine itE_ (fun c56b0 c56b1 H => ?_) fun c56b0 c56b1 H => ?_
        rotate_left
        ·
         obtain rfl := Option.some.inj H
         exact absurd HRT.out (by decide)
        revert H
        refine itE_ (fun c57b0 c57b1 H => ?_) fun c57b0 c57b1 H => ?_
        rotate_left
        ·
         obtain rfl := Option.some.inj H
         exact absurd HRT.out (by decide)
        have H' := aa H
        clear H
        try go_wp2
        replace HO_3 := aa (Kd.R_drew HO_3.out)
        replace HO_115002 := aa (Kd.R_drew HO_115002.out)
        replace HO_126002 := aa (Kd.R_drew HO_126002.out)
        replace HO_133001 := aa (Kd.R_drew HO_133001.out)
        replace HO_140001 := aa (Kd.R_drew HO_140001.out)
        replace BK114 := aa (blk_drew BK114.out)
        replace BK125 := aa (blk_drew BK125.out)
        replace BK132 := aa (blk_drew BK132.out)
        replace BK139 := aa (blk_drew BK139.out)
        replace HB := aa (below_drew1 HB.out)
        have p140 : 0 ≤ (x12_3 : Int) := of_decide_eq_true zgglam
        have q140 : x12_3 < (t102.length : Int) := of_decide_eq_true zgglam
        obtain ⟨ad140, e140, hx140_0, hx140_1, hx140_2, hx140_3, hx140_4⟩ := at_T32 (Kd.R_reads' HO_3.out).2.2 x12_3 p140 q140
        cases e140
        replace p140 := eq_true p140
        replace q140 := eq_true q140
        refine start_ (n := 10) (S := fun w' => w'.cell? ⟨gb114, 0, none⟩ = some (.int .i64 t109) ∧ w'.cell? ⟨gb114, 1, none⟩ = some (.string t110) ∧ w'.cell? ⟨gb114, 2, none⟩ = some (.slice Ao13 t111.length co13) ∧ w'.cell? (ad140.add ((x12_3).toNat * 5)) = some (.string ((rd_T32 t102 x12_3).f0)) ∧ w'.cell? ⟨(ad140.add ((x12_3).toNat * 5)).block, (ad140.add ((x12_3).toNat * 5)).off + 1, none⟩ = some (.int .i64 ((rd_T32 t102 x12_3).f1)) ∧ w'.cell? ⟨(ad140.add ((x12_3).toNat * 5)).block, (ad140.add ((x12_3).toNat * 5)).off + 2, none⟩ = some (.int .i64 ((rd_T32 t102 x12_3).f2)) ∧ w'.cell? ⟨(ad140.add ((x12_3).toNat * 5)).block, (ad140.add ((x12_3).toNat * 5)).off + 3, none⟩ = some (.int .i64 ((rd_T32 t102 x12_3).f3)) ∧ w'.cell? ⟨(ad140.add ((x12_3).toNat * 5)).block, (ad140.add ((x12_3).toNat * 5)).off + 4, none⟩ = some (.int .i64 ((rd_T32 t102 x12_3).f4))) (ds := []) #[false, false, false, false, false, false, false, false, false, false] (by kernel_rfl) rfl rfl ⟨(blk_cell BK114.out 0).trans rfl, (blk_cell BK114.out 1).trans rfl, (blk_cell BK114.out 2).trans rfl, hx140_0, hx140_1, hx140_2, hx140_3, hx140_4⟩ (fun hHeld => ?_); refine with_tabW laws_FnCreates.tab13 laws_FnCreates.bits13 (fun HT_ HW_ => ?_)
        generalize wr.drew = w58 at HO_3 HO_115002 HO_126002 HO_133001 HO_140001 BK114 BK125 BK132 BK139 HB hx140_0 hx140_1 hx140_2 hx140_3 hx140_4 hHeld ⊢
        refine pu5 0 67 ?_
        refine pu5 2 69 ?_
        refine pu5 3 70 ?_
        refine pu5 4 71 ?_
        refine pu5 5 72 ?_
        refine tk8_5 1 68 ?_
        refine tk8_5 6 73 ?_
        refine join_ (σ := Value × Nat) 1 #[true, true, true, true, true, true, true, true, true, false] (fun s_ => [(74, .agg #[.int .i64 t141, .string t142, s_.1]), (13, .pointer (some ⟨s_.2, 0, none⟩))]) (fun s_ w' => (w'.cell? ⟨gb114, 0, none⟩ = some (.int .i64 t109) ∧ w'.cell? ⟨gb114, 1, none⟩ = some (.string t110) ∧ w'.cell? ⟨gb114, 2, none⟩ = some (.slice Ao13 t111.length co13) ∧ w'.cell? (ad140.add ((x12_3).toNat * 5)) = some (.string ((rd_T32 t102 x12_3).f0)) ∧ w'.cell? ⟨(ad140.add ((x12_3).toNat * 5)).block, (ad140.add ((x12_3).toNat * 5)).off + 1, none⟩ = some (.int .i64 ((rd_T32 t102 x12_3).f1)) ∧ w'.cell? ⟨(ad140.add ((x12_3).toNat * 5)).block, (ad140.add ((x12_3).toNat * 5)).off + 2, none⟩ = some (.int .i64 ((rd_T32 t102 x12_3).f2)) ∧ w'.cell? ⟨(ad140.add ((x12_3).toNat * 5)).block, (ad140.add ((x12_3).toNat * 5)).off + 3, none⟩ = some (.int .i64 ((rd_T32 t102 x12_3).f3)) ∧ w'.cell? ⟨(ad140.add ((x12_3).toNat * 5)).block, (ad140.add ((x12_3).toNat * 5)).off + 4, none⟩ = some (.int .i64 ((rd_T32 t102 x12_3).f4))) ∧ (Kd.R k32 32 w' w.heap.size (fun k_ => some k_ ≠ (.slice Ao13 t111.length co13 : Value).ownBlock ∧ some k_ ≠ (.slice Ao29 t122.length co29 : Value).ownBlock ∧ some k_ ≠ (.slice (some ad140) t102.length co9 : Value).ownBlock) s_.1 t143) ∧ (Kd.R k32 32 w' w.heap.size (fun k_ => some k_ ≠ (s_.1 : Value).ownBlock ∧ some k_ ≠ (.slice Ao29 t122.length co29 : Value).ownBlock ∧ some k_ ≠ (.slice (some ad140) t102.length co9 : Value).ownBlock) (.slice Ao13 t111.length co13) t111) ∧ (Kd.R k32 32 w' w.heap.size (fun k_ => some k_ ≠ (s_.1 : Value).ownBlock ∧ some k_ ≠ (.slice Ao13 t111.length co13 : Value).ownBlock ∧ some k_ ≠ (.slice (some ad140) t102.length co9 : Value).ownBlock) (.slice Ao29 t122.length co29) t122) ∧ (Kd.R Kd.string 9 w' w.heap.size (fun k_ => some k_ ≠ (.slice Ao48 t136.length co48 : Value).ownBlock) (.slice Ao37 t129.length co37) t129) ∧ (Kd.R Kd.string 9 w' w.heap.size (fun k_ => some k_ ≠ (.slice Ao37 t129.length co37 : Value).ownBlock) (.slice Ao48 t136.length co48) t136) ∧ (Kd.R k32 32 w' w.heap.size (fun k_ => some k_ ≠ (s_.1 : Value).ownBlock ∧ some k_ ≠ (.slice Ao13 t111.length co13 : Value).ownBlock ∧ some k_ ≠ (.slice Ao29 t122.length co29 : Value).ownBlock) (.slice (some ad140) t102.length co9) t102) ∧ (w'.heap[gb114]? = some (.cells #[.int .i64 t109, .string t110, .slice Ao13 t111.length co13] 28 (0, 0))) ∧ (w'.heap[gb125]? = some (.cells #[.int .i64 t120, .string t121, .slice Ao29 t122.length co29] 28 (0, 0))) ∧ (w'.heap[gb132]? = some (.cells #[.int .i64 t128, .slice Ao37 t129.length co37] 40 (0, 0))) ∧ (w'.heap[gb139]? = some (.cells #[.int .i64 t135, .slice Ao48 t136.length co48] 40 (0, 0))) ∧ (w'.heap[s_.2]? = some (.cells #[.int .i64 0, .string (⟨#[]⟩ : ByteArray), .slice none 0 0] 28 (0, 0))) ∧ (w.heap.size ≤ s_.2) ∧ (w.heap.size ≤ s_.2) ∧ (gb114 ≠ s_.2) ∧ (s_.2 ≠ gb114) ∧ (gb125 ≠ s_.2) ∧ (s_.2 ≠ gb125) ∧ (gb132 ≠ s_.2) ∧ (s_.2 ≠ gb132) ∧ (gb139 ≠ s_.2) ∧ (s_.2 ≠ gb139) ∧ (Below w.heap.size w w')) ?_ ?_
        rotate_left
        ·
         intro hCont
         refine two_ (i := 7) (j := 8) (Ni := some 74) (Nj := some 13) #[true, true, true, true, true, true, true, true, false, false] #[true, true, true, true, true, true, true, false, true, false] rfl rfl rfl rfl (two_of HT_.out (by kernel_rfl)) (by decide) (by decide) (fun K hK => ?_) (fun K hK => ?_)
         ·
          skip
          refine goes_ Tryd.func11 (by kernel_rfl) rfl #[.slice Ao13 t111.length co13, .string ((rd_T32 t102 x12_3).f0)] (by rfl) rfl rfl zjnmae ?_
          with_reducible refine (impl_GetZ.calls k3 _ _ t111 ((rd_T32 t102 x12_3).f0) t141 t142 t143 _ ?side1 ?side2 A51.out).mono ?_
          (case side1 => exact zafndb)
          (case side2 => exact zlonic)
          rintro e w59 ⟨v144, rfl, ho0, hb⟩
          have HS3_ := (hb.cell (World.block_lt_of_cell? _ _ (hHeld.2.2.2.1))).trans (hHeld.2.2.2.1)
          have HS4_ := (hb.cell (World.block_lt_of_cell? _ _ (hHeld.2.2.2.2.1))).trans (hHeld.2.2.2.2.1)
          have HS5_ := (hb.cell (World.block_lt_of_cell? _ _ (hHeld.2.2.2.2.2.1))).trans (hHeld.2.2.2.2.2.1)
          have HS6_ := (hb.cell (World.block_lt_of_cell? _ _ (hHeld.2.2.2.2.2.2.1))).trans (hHeld.2.2.2.2.2.2.1)
          have HS7_ := (hb.cell (World.block_lt_of_cell? _ _ (hHeld.2.2.2.2.2.2.2))).trans (hHeld.2.2.2.2.2.2.2)
          refine ⟨_, rfl, ?_⟩
          have n0_ := aa (Kd.R_elder' (zcaken HO_3.out) (Kd.R_base ho0) hb)
          have n1_ := aa (Kd.R_elder' (zcaken HO_115002.out) (Kd.R_base ho0) hb)
          have n2_ := aa (Kd.R_elder' (zcaken HO_126002.out) (Kd.R_base ho0) hb)
          have n3_ := aa (Kd.R_below (zcaken HO_133001.out) hb)
          have n4_ := aa (Kd.R_below (zcaken HO_140001.out) hb)
          have n5_ := aa (Kd.R_lower (Kd.R_new' (Kd.R_new' (Kd.R_new' ho0 (Kd.R_lt (zcaken HO_3.out))) (Kd.R_lt (zcaken HO_115002.out))) (Kd.R_lt (zcaken HO_126002.out))) (below_size zgdeah))
          have n6_ := aa (bb_ BK114.out hb)
          have n7_ := aa (bb_ BK125.out hb)
          have n8_ := aa (bb_ BK132.out hb)
          have n9_ := aa (bb_ BK139.out hb)
          have n10_ := aa (below_step zgdeah hb)
          clear HO_3
          clear HO_115002
          clear HO_126002
          clear HO_133001
          clear HO_140001
          clear BK114
          clear BK125
          clear BK132
          clear BK139
          clear HB
          have HO_3 := n0_
          have HO_115002 := n1_
          have HO_126002 := n2_
          have HO_133001 := n3_
          have HO_140001 := n4_
          have HO145 := n5_
          have BK114 := n6_
          have BK125 := n7_
          have BK132 := n8_
          have BK139 := n9_
          have HB := n10_
          clear n0_ n1_ n2_ n3_ n4_ n5_ n6_ n7_ n8_ n9_ n10_
          (try clear hb)
          (try clear hb2)
          (try clear hk)
          (try clear hi)
          (try clear ho0)
          refine hK.out _ _ ⟨(blk_cell BK114.out 0).trans rfl, (blk_cell BK114.out 1).trans rfl, (blk_cell BK114.out 2).trans rfl, HS3_, HS4_, HS5_, HS6_, HS7_⟩ (fun hHeld => ?_)
          clear hK K
          refine norm_ (a' := ?_) ?_ ?_
          rotate_left
          ·
           show Act.put _ (some 74) _ = _
           simp only [Act.put, List.setIfInBounds_toArray, List.set_cons_zero, List.set_cons_succ, i64_w, i32_w]
           rfl
          refine one_ (i := 8) (N := some 13) #[true, true, true, true, true, true, true, true, true, false] rfl rfl (one_of HT_.out (by kernel_rfl)) (by decide) (fun K hK => ?_)
          refine box_step ?hg (N := 13) ?hd (cs := #[.int .i64 0, .string (⟨#[]⟩ : ByteArray), .slice none 0 0]) (t := 28) ?hr ?_; (case hd => rfl); (case hg => rfl); (case hr => exact zhlgcp)
          intro gb146 hg w60 hbox hb
          have HS3_ := (hb.cell (World.block_lt_of_cell? _ _ (hHeld.2.2.2.1))).trans (hHeld.2.2.2.1)
          have HS4_ := (hb.cell (World.block_lt_of_cell? _ _ (hHeld.2.2.2.2.1))).trans (hHeld.2.2.2.2.1)
          have HS5_ := (hb.cell (World.block_lt_of_cell? _ _ (hHeld.2.2.2.2.2.1))).trans (hHeld.2.2.2.2.2.1)
          have HS6_ := (hb.cell (World.block_lt_of_cell? _ _ (hHeld.2.2.2.2.2.2.1))).trans (hHeld.2.2.2.2.2.2.1)
          have HS7_ := (hb.cell (World.block_lt_of_cell? _ _ (hHeld.2.2.2.2.2.2.2))).trans (hHeld.2.2.2.2.2.2.2)
          have n0_ := aa (Kd.R_below (zcaken HO_3.out) hb)
          have n1_ := aa (Kd.R_below (zcaken HO_115002.out) hb)
          have n2_ := aa (Kd.R_below (zcaken HO_126002.out) hb)
          have n3_ := aa (Kd.R_below (zcaken HO_133001.out) hb)
          have n4_ := aa (Kd.R_below (zcaken HO_140001.out) hb)
          have n5_ := aa (Kd.R_below (zcaken HO145.out) hb)
          have n6_ := aa (bb_ BK114.out hb)
          have n7_ := aa (bb_ BK125.out hb)
          have n8_ := aa (bb_ BK132.out hb)
          have n9_ := aa (bb_ BK139.out hb)
          have n10_ := aa (below_step zgdeah hb)
          have n11_ := aa (hbox)
          have n12_ := aa ((zahkih : w.heap.size ≤ gb146))
          have n13_ := aa ((zahkih : w.heap.size ≤ gb146))
          have n14_ := aa ((zockej : gb114 ≠ gb146))
          have n15_ := aa ((zbboha : gb146 ≠ gb114))
          have n16_ := aa ((zamkgd : gb125 ≠ gb146))
          have n17_ := aa ((zdhkgp : gb146 ≠ gb125))
          have n18_ := aa ((zmcedh : gb132 ≠ gb146))
          have n19_ := aa ((zpalib : gb146 ≠ gb132))
          have n20_ := aa ((zliaff : gb139 ≠ gb146))
          have n21_ := aa ((zcpgjh : gb146 ≠ gb139))
          clear HO_3
          clear HO_115002
          clear HO_126002
          clear HO_133001
          clear HO_140001
          clear HO145
          clear BK114
          clear BK125
          clear BK132
          clear BK139
          clear HB
          have HO_3 := n0_
          have HO_115002 := n1_
          have HO_126002 := n2_
          have HO_133001 := n3_
          have HO_140001 := n4_
          have HO145 := n5_
          have BK114 := n6_
          have BK125 := n7_
          have BK132 := n8_
          have BK139 := n9_
          have HB := n10_
          have BK146 := n11_
          have GW146 := n12_
          have GE146 := n13_
          have NB114_146 := n14_
          have NB146_114 := n15_
          have NB125_146 := n16_
          have NB146_125 := n17_
          have NB132_146 := n18_
          have NB146_132 := n19_
          have NB139_146 := n20_
          have NB146_139 := n21_
          clear n0_ n1_ n2_ n3_ n4_ n5_ n6_ n7_ n8_ n9_ n10_ n11_ n12_ n13_ n14_ n15_ n16_ n17_ n18_ n19_ n20_ n21_
          clear hb hbox hg
          refine hK.out _ _ ⟨(blk_cell BK114.out 0).trans rfl, (blk_cell BK114.out 1).trans rfl, (blk_cell BK114.out 2).trans rfl, HS3_, HS4_, HS5_, HS6_, HS7_⟩ (fun hHeld => ?_)
          clear hK K
          refine norm_ (a' := ?_) ?_ ?_
          rotate_left
          ·
           show Act.put _ (some 13) _ = _
           simp only [Act.put, List.setIfInBounds_toArray, List.set_cons_zero, List.set_cons_succ, i64_w, i32_w]
           rfl
          exact norm_ zgldpg (hCont (v144, gb146) _ ⟨hHeld, zcnnlh, zeblle, zgachk, (zcaken HO_133001.out), (zcaken HO_140001.out), zeljik, (zkjhpm BK114.out), (zkjhpm BK125.out), (zkjhpm BK132.out), (zkjhpm BK139.out), (zkjhpm BK146.out), GW146.out, GE146.out, NB114_146.out, NB146_114.out, NB125_146.out, NB146_125.out, NB132_146.out, NB146_132.out, NB139_146.out, NB146_139.out, zmmbho⟩)
         skip
         refine box_step ?hg (N := 13) ?hd (cs := #[.int .i64 0, .string (⟨#[]⟩ : ByteArray), .slice none 0 0]) (t := 28) ?hr ?_; (case hd => rfl); (case hg => rfl); (case hr => exact zhlgcp)
         intro gb146 hg w59 hbox hb
         have HS3_ := (hb.cell (World.block_lt_of_cell? _ _ (hHeld.2.2.2.1))).trans (hHeld.2.2.2.1)
         have HS4_ := (hb.cell (World.block_lt_of_cell? _ _ (hHeld.2.2.2.2.1))).trans (hHeld.2.2.2.2.1)
         have HS5_ := (hb.cell (World.block_lt_of_cell? _ _ (hHeld.2.2.2.2.2.1))).trans (hHeld.2.2.2.2.2.1)
         have HS6_ := (hb.cell (World.block_lt_of_cell? _ _ (hHeld.2.2.2.2.2.2.1))).trans (hHeld.2.2.2.2.2.2.1)
         have HS7_ := (hb.cell (World.block_lt_of_cell? _ _ (hHeld.2.2.2.2.2.2.2))).trans (hHeld.2.2.2.2.2.2.2)
         have n0_ := aa (Kd.R_below (zcaken HO_3.out) hb)
         have n1_ := aa (Kd.R_below (zcaken HO_115002.out) hb)
         have n2_ := aa (Kd.R_below (zcaken HO_126002.out) hb)
         have n3_ := aa (Kd.R_below (zcaken HO_133001.out) hb)
         have n4_ := aa (Kd.R_below (zcaken HO_140001.out) hb)
         have n5_ := aa (bb_ BK114.out hb)
         have n6_ := aa (bb_ BK125.out hb)
         have n7_ := aa (bb_ BK132.out hb)
         have n8_ := aa (bb_ BK139.out hb)
         have n9_ := aa (below_step zgdeah hb)
         have n10_ := aa (hbox)
         have n11_ := aa ((zahkih : w.heap.size ≤ gb146))
         have n12_ := aa ((zahkih : w.heap.size ≤ gb146))
         have n13_ := aa ((zockej : gb114 ≠ gb146))
         have n14_ := aa ((zbboha : gb146 ≠ gb114))
         have n15_ := aa ((zamkgd : gb125 ≠ gb146))
         have n16_ := aa ((zdhkgp : gb146 ≠ gb125))
         have n17_ := aa ((zmcedh : gb132 ≠ gb146))
         have n18_ := aa ((zpalib : gb146 ≠ gb132))
         have n19_ := aa ((zliaff : gb139 ≠ gb146))
         have n20_ := aa ((zcpgjh : gb146 ≠ gb139))
         clear HO_3
         clear HO_115002
         clear HO_126002
         clear HO_133001
         clear HO_140001
         clear BK114
         clear BK125
         clear BK132
         clear BK139
         clear HB
         have HO_3 := n0_
         have HO_115002 := n1_
         have HO_126002 := n2_
         have HO_133001 := n3_
         have HO_140001 := n4_
         have BK114 := n5_
         have BK125 := n6_
         have BK132 := n7_
         have BK139 := n8_
         have HB := n9_
         have BK146 := n10_
         have GW146 := n11_
         have GE146 := n12_
         have NB114_146 := n13_
         have NB146_114 := n14_
         have NB125_146 := n15_
         have NB146_125 := n16_
         have NB132_146 := n17_
         have NB146_132 := n18_
         have NB139_146 := n19_
         have NB146_139 := n20_
         clear n0_ n1_ n2_ n3_ n4_ n5_ n6_ n7_ n8_ n9_ n10_ n11_ n12_ n13_ n14_ n15_ n16_ n17_ n18_ n19_ n20_
         clear hb hbox hg
         refine hK.out _ _ ⟨(blk_cell BK114.out 0).trans rfl, (blk_cell BK114.out 1).trans rfl, (blk_cell BK114.out 2).trans rfl, HS3_, HS4_, HS5_, HS6_, HS7_⟩ (fun hHeld => ?_)
         clear hK K
         refine norm_ (a' := ?_) ?_ ?_
         rotate_left
         ·
          show Act.put _ (some 13) _ = _
          simp only [Act.put, List.setIfInBounds_toArray, List.set_cons_zero, List.set_cons_succ, i64_w, i32_w]
          rfl
         refine one_ (i := 7) (N := some 74) #[true, true, true, true, true, true, true, true, true, false] rfl rfl (one_of HT_.out (by kernel_rfl)) (by decide) (fun K hK => ?_)
         refine goes_ Tryd.func11 (by kernel_rfl) rfl #[.slice Ao13 t111.length co13, .string ((rd_T32 t102 x12_3).f0)] (by rfl) rfl rfl zjnmae ?_
         with_reducible refine (impl_GetZ.calls k3 _ _ t111 ((rd_T32 t102 x12_3).f0) t141 t142 t143 _ ?side1 ?side2 A51.out).mono ?_
         (case side1 => exact zafndb)
         (case side2 => exact zlonic)
         rintro e w60 ⟨v144, rfl, ho0, hb⟩
         have HS3_ := (hb.cell (World.block_lt_of_cell? _ _ (hHeld.2.2.2.1))).trans (hHeld.2.2.2.1)
         have HS4_ := (hb.cell (World.block_lt_of_cell? _ _ (hHeld.2.2.2.2.1))).trans (hHeld.2.2.2.2.1)
         have HS5_ := (hb.cell (World.block_lt_of_cell? _ _ (hHeld.2.2.2.2.2.1))).trans (hHeld.2.2.2.2.2.1)
         have HS6_ := (hb.cell (World.block_lt_of_cell? _ _ (hHeld.2.2.2.2.2.2.1))).trans (hHeld.2.2.2.2.2.2.1)
         have HS7_ := (hb.cell (World.block_lt_of_cell? _ _ (hHeld.2.2.2.2.2.2.2))).trans (hHeld.2.2.2.2.2.2.2)
         refine ⟨_, rfl, ?_⟩
         have n0_ := aa (Kd.R_elder' (zcaken HO_3.out) (Kd.R_base ho0) hb)
         have n1_ := aa (Kd.R_elder' (zcaken HO_115002.out) (Kd.R_base ho0) hb)
         have n2_ := aa (Kd.R_elder' (zcaken HO_126002.out) (Kd.R_base ho0) hb)
         have n3_ := aa (Kd.R_below (zcaken HO_133001.out) hb)
         have n4_ := aa (Kd.R_below (zcaken HO_140001.out) hb)
         have n5_ := aa (Kd.R_lower (Kd.R_new' (Kd.R_new' (Kd.R_new' ho0 (Kd.R_lt (zcaken HO_3.out))) (Kd.R_lt (zcaken HO_115002.out))) (Kd.R_lt (zcaken HO_126002.out))) (below_size zmmbho))
         have n6_ := aa (bb_ BK114.out hb)
         have n7_ := aa (bb_ BK125.out hb)
         have n8_ := aa (bb_ BK132.out hb)
         have n9_ := aa (bb_ BK139.out hb)
         have n10_ := aa (bb_ BK146.out hb)
         have n11_ := aa (below_step zmmbho hb)
         clear HO_3
         clear HO_115002
         clear HO_126002
         clear HO_133001
         clear HO_140001
         clear BK114
         clear BK125
         clear BK132
         clear BK139
         clear BK146
         clear HB
         have HO_3 := n0_
         have HO_115002 := n1_
         have HO_126002 := n2_
         have HO_133001 := n3_
         have HO_140001 := n4_
         have HO145 := n5_
         have BK114 := n6_
         have BK125 := n7_
         have BK132 := n8_
         have BK139 := n9_
         have BK146 := n10_
         have HB := n11_
         clear n0_ n1_ n2_ n3_ n4_ n5_ n6_ n7_ n8_ n9_ n10_ n11_
         (try clear hb)
         (try clear hb2)
         (try clear hk)
         (try clear hi)
         (try clear ho0)
         refine hK.out _ _ ⟨(blk_cell BK114.out 0).trans rfl, (blk_cell BK114.out 1).trans rfl, (blk_cell BK114.out 2).trans rfl, HS3_, HS4_, HS5_, HS6_, HS7_⟩ (fun hHeld => ?_)
         clear hK K
         refine norm_ (a' := ?_) ?_ ?_
         rotate_left
         ·
          show Act.put _ (some 74) _ = _
          simp only [Act.put, List.setIfInBounds_toArray, List.set_cons_zero, List.set_cons_succ, i64_w, i32_w]
          rfl
         exact norm_ zgldpg (hCont (v144, gb146) _ ⟨hHeld, zcnnlh, zeblle, zgachk, (zcaken HO_133001.out), (zcaken HO_140001.out), zeljik, (zkjhpm BK114.out), (zkjhpm BK125.out), (zkjhpm BK132.out), (zkjhpm BK139.out), (zkjhpm BK146.out), GW146.out, GE146.out, NB114_146.out, NB146_114.out, NB125_146.out, NB146_125.out, NB132_146.out, NB146_132.out, NB139_146.out, NB146_139.out, zmmbho⟩)
        rintro ⟨v144, gb146⟩ w61 ⟨hS_, h0_, h1_, h2_, h3_, h4_, h5_, h6_, h7_, h8_, h9_, h10_, h11_, h12_, h13_, h14_, h15_, h16_, h17_, h18_, h19_, h20_, h21_⟩
        have n0_ : Aside0 (Kd.R k32 32 w61 w.heap.size (fun k_ => some k_ ≠ (.slice Ao13 t111.length co13 : Value).ownBlock ∧ some k_ ≠ (.slice Ao29 t122.length co29 : Value).ownBlock ∧ some k_ ≠ (.slice (some ad140) t102.length co9 : Value).ownBlock) v144 t143) := ⟨h0_⟩
        have n1_ : Aside0 (Kd.R k32 32 w61 w.heap.size (fun k_ => some k_ ≠ (v144 : Value).ownBlock ∧ some k_ ≠ (.slice Ao29 t122.length co29 : Value).ownBlock ∧ some k_ ≠ (.slice (some ad140) t102.length co9 : Value).ownBlock) (.slice Ao13 t111.length co13) t111) := ⟨h1_⟩
        have n2_ : Aside0 (Kd.R k32 32 w61 w.heap.size (fun k_ => some k_ ≠ (v144 : Value).ownBlock ∧ some k_ ≠ (.slice Ao13 t111.length co13 : Value).ownBlock ∧ some k_ ≠ (.slice (some ad140) t102.length co9 : Value).ownBlock) (.slice Ao29 t122.length co29) t122) := ⟨h2_⟩
        have n3_ : Aside0 (Kd.R Kd.string 9 w61 w.heap.size (fun k_ => some k_ ≠ (.slice Ao48 t136.length co48 : Value).ownBlock) (.slice Ao37 t129.length co37) t129) := ⟨h3_⟩
        have n4_ : Aside0 (Kd.R Kd.string 9 w61 w.heap.size (fun k_ => some k_ ≠ (.slice Ao37 t129.length co37 : Value).ownBlock) (.slice Ao48 t136.length co48) t136) := ⟨h4_⟩
        have n5_ : Aside0 (Kd.R k32 32 w61 w.heap.size (fun k_ => some k_ ≠ (v144 : Value).ownBlock ∧ some k_ ≠ (.slice Ao13 t111.length co13 : Value).ownBlock ∧ some k_ ≠ (.slice Ao29 t122.length co29 : Value).ownBlock) (.slice (some ad140) t102.length co9) t102) := ⟨h5_⟩
        have n6_ : Aside0 (w61.heap[gb114]? = some (.cells #[.int .i64 t109, .string t110, .slice Ao13 t111.length co13] 28 (0, 0))) := ⟨h6_⟩
        have n7_ : Aside0 (w61.heap[gb125]? = some (.cells #[.int .i64 t120, .string t121, .slice Ao29 t122.length co29] 28 (0, 0))) := ⟨h7_⟩
        have n8_ : Aside0 (w61.heap[gb132]? = some (.cells #[.int .i64 t128, .slice Ao37 t129.length co37] 40 (0, 0))) := ⟨h8_⟩
        have n9_ : Aside0 (w61.heap[gb139]? = some (.cells #[.int .i64 t135, .slice Ao48 t136.length co48] 40 (0, 0))) := ⟨h9_⟩
        have n10_ : Aside0 (w61.heap[gb146]? = some (.cells #[.int .i64 0, .string (⟨#[]⟩ : ByteArray), .slice none 0 0] 28 (0, 0))) := ⟨h10_⟩
        have n11_ : Aside0 (w.heap.size ≤ gb146) := ⟨h11_⟩
        have n12_ : Aside0 (w.heap.size ≤ gb146) := ⟨h12_⟩
        have n13_ : Aside0 (gb114 ≠ gb146) := ⟨h13_⟩
        have n14_ : Aside0 (gb146 ≠ gb114) := ⟨h14_⟩
        have n15_ : Aside0 (gb125 ≠ gb146) := ⟨h15_⟩
        have n16_ : Aside0 (gb146 ≠ gb125) := ⟨h16_⟩
        have n17_ : Aside0 (gb132 ≠ gb146) := ⟨h17_⟩
        have n18_ : Aside0 (gb146 ≠ gb132) := ⟨h18_⟩
        have n19_ : Aside0 (gb139 ≠ gb146) := ⟨h19_⟩
        have n20_ : Aside0 (gb146 ≠ gb139) := ⟨h20_⟩
        have n21_ : Aside0 (Below w.heap.size w w61) := ⟨h21_⟩
        clear HO_3
        clear HO_115002
        clear HO_126002
        clear HO_133001
        clear HO_140001
        clear BK114
        clear BK125
        clear BK132
        clear BK139
        clear HB
        clear h0_ h1_ h2_ h3_ h4_ h5_ h6_ h7_ h8_ h9_ h10_ h11_ h12_ h13_ h14_ h15_ h16_ h17_ h18_ h19_ h20_ h21_
        have HO145 := n0_
        have HO_115002 := n1_
        have HO_126002 := n2_
        have HO_133001 := n3_
        have HO_140001 := n4_
        have HO_3 := n5_
        have BK114 := n6_
        have BK125 := n7_
        have BK132 := n8_
        have BK139 := n9_
        have BK146 := n10_
        have GW146 := n11_
        have GE146 := n12_
        have NB114_146 := n13_
        have NB146_114 := n14_
        have NB125_146 := n15_
        have NB146_125 := n16_
        have NB132_146 := n17_
        have NB146_132 := n18_
        have NB139_146 := n19_
        have NB146_139 := n20_
        have HB := n21_
        clear n0_ n1_ n2_ n3_ n4_ n5_ n6_ n7_ n8_ n9_ n10_ n11_ n12_ n13_ n14_ n15_ n16_ n17_ n18_ n19_ n20_ n21_
        have hHeld : w61.cell? ⟨gb114, 0, none⟩ = some (.int .i64 t109) ∧ w61.cell? ⟨gb114, 1, none⟩ = some (.string t110) ∧ w61.cell? ⟨gb114, 2, none⟩ = some (.slice Ao13 t111.length co13) ∧ w61.cell? (ad140.add ((x12_3).toNat * 5)) = some (.string ((rd_T32 t102 x12_3).f0)) ∧ w61.cell? ⟨(ad140.add ((x12_3).toNat * 5)).block, (ad140.add ((x12_3).toNat * 5)).off + 1, none⟩ = some (.int .i64 ((rd_T32 t102 x12_3).f1)) ∧ w61.cell? ⟨(ad140.add ((x12_3).toNat * 5)).block, (ad140.add ((x12_3).toNat * 5)).off + 2, none⟩ = some (.int .i64 ((rd_T32 t102 x12_3).f2)) ∧ w61.cell? ⟨(ad140.add ((x12_3).toNat * 5)).block, (ad140.add ((x12_3).toNat * 5)).off + 3, none⟩ = some (.int .i64 ((rd_T32 t102 x12_3).f3)) ∧ w61.cell? ⟨(ad140.add ((x12_3).toNat * 5)).block, (ad140.add ((x12_3).toNat * 5)).off + 4, none⟩ = some (.int .i64 ((rd_T32 t102 x12_3).f4)) := hS_
        obtain ⟨Ao64, co64, eo64⟩ := Kd.R_slice HO145.out
        (first | subst eo64 | (injection eo64 with f1_ f2_ f3_; have f4_ := f1_.symm; have f5_ := f3_.symm; clear f1_ f2_ f3_; subst f4_; subst f5_))
        refine norm_ (a' := ?_) ?_ ?_
        rotate_left
        ·
         simp only [putAll, Act.put, List.setIfInBounds_toArray, List.set_cons_zero, List.set_cons_succ]
         rfl
        refine one_ (i := 9) (N := none) #[true, true, true, true, true, true, true, true, true, true] rfl rfl (one_of HT_.out (by kernel_rfl)) (by decide) (fun K hK => ?_)
        have hs62 : w61.cell? ⟨gb146, 0, none⟩ = some (.int .i64 0) := (blk_cell BK146.out 0).trans rfl
        have hfs62 := blk_frozen BK146.out 0
        have hns62_0 := NB114_146.out
        have hns62_1 := NB125_146.out
        have hns62_2 := NB132_146.out
        have hns62_3 := NB139_146.out
        have hms62_0 := NB146_114.out
        have hms62_1 := NB146_125.out
        have hms62_2 := NB146_132.out
        have hms62_3 := NB146_139.out
        have hs63 : w61.cell? ⟨gb146, 1, none⟩ = some (.string (⟨#[]⟩ : ByteArray)) := (blk_cell BK146.out 1).trans rfl
        have hfs63 := blk_frozen BK146.out 1
        have hns63_0 := NB114_146.out
        have hns63_1 := NB125_146.out
        have hns63_2 := NB132_146.out
        have hns63_3 := NB139_146.out
        have hms63_0 := NB146_114.out
        have hms63_1 := NB146_125.out
        have hms63_2 := NB146_132.out
        have hms63_3 := NB146_139.out
        have hs65 : w61.cell? ⟨gb146, 2, none⟩ = some (.slice none 0 0) := (blk_cell BK146.out 2).trans rfl
        have hfs65 := blk_frozen BK146.out 2
        have hns65_0 := NB114_146.out
        have hns65_1 := NB125_146.out
        have hns65_2 := NB132_146.out
        have hns65_3 := NB139_146.out
        have hms65_0 := NB146_114.out
        have hms65_1 := NB146_125.out
        have hms65_2 := NB146_132.out
        have hms65_3 := NB146_139.out
        refine skip_ (w1 := ?_) (by rfl) rfl ?_ ?_
        rotate_left
        ·
         go_simp
         rfl
        refine hK.out _ _ ⟨((cell_far (p := ⟨gb146, _, none⟩) NB114_146.out _).trans (((cell_far (p := ⟨gb146, _, none⟩) NB114_146.out _).trans (((cell_far (p := ⟨gb146, _, none⟩) NB114_146.out _).trans (hHeld.1)))))), ((cell_far (p := ⟨gb146, _, none⟩) NB114_146.out _).trans (((cell_far (p := ⟨gb146, _, none⟩) NB114_146.out _).trans (((cell_far (p := ⟨gb146, _, none⟩) NB114_146.out _).trans (hHeld.2.1)))))), ((cell_far (p := ⟨gb146, _, none⟩) NB114_146.out _).trans (((cell_far (p := ⟨gb146, _, none⟩) NB114_146.out _).trans (((cell_far (p := ⟨gb146, _, none⟩) NB114_146.out _).trans (hHeld.2.2.1)))))), ((cell_far (p := ⟨gb146, _, none⟩) (by first | exact Kd.own_blk (Kd.R_ne HO_3.out BK146.out (by decide)) | (rw [add_block]; exact Kd.own_blk (Kd.R_ne HO_3.out BK146.out (by decide))) | (show (Addr.add _ _).block ≠ _; rw [add_block]; exact Kd.own_blk (Kd.R_ne HO_3.out BK146.out (by decide))) | (dsimp only; exact Kd.own_blk (Kd.R_ne HO_3.out BK146.out (by decide)))) _).trans (((cell_far (p := ⟨gb146, _, none⟩) (by first | exact Kd.own_blk (Kd.R_ne HO_3.out BK146.out (by decide)) | (rw [add_block]; exact Kd.own_blk (Kd.R_ne HO_3.out BK146.out (by decide))) | (show (Addr.add _ _).block ≠ _; rw [add_block]; exact Kd.own_blk (Kd.R_ne HO_3.out BK146.out (by decide))) | (dsimp only; exact Kd.own_blk (Kd.R_ne HO_3.out BK146.out (by decide)))) _).trans (((cell_far (p := ⟨gb146, _, none⟩) (by first | exact Kd.own_blk (Kd.R_ne HO_3.out BK146.out (by decide)) | (rw [add_block]; exact Kd.own_blk (Kd.R_ne HO_3.out BK146.out (by decide))) | (show (Addr.add _ _).block ≠ _; rw [add_block]; exact Kd.own_blk (Kd.R_ne HO_3.out BK146.out (by decide))) | (dsimp only; exact Kd.own_blk (Kd.R_ne HO_3.out BK146.out (by decide)))) _).trans (hHeld.2.2.2.1)))))), ((cell_far (p := ⟨gb146, _, none⟩) (by first | exact Kd.own_blk (Kd.R_ne HO_3.out BK146.out (by decide)) | (rw [add_block]; exact Kd.own_blk (Kd.R_ne HO_3.out BK146.out (by decide))) | (show (Addr.add _ _).block ≠ _; rw [add_block]; exact Kd.own_blk (Kd.R_ne HO_3.out BK146.out (by decide))) | (dsimp only; exact Kd.own_blk (Kd.R_ne HO_3.out BK146.out (by decide)))) _).trans (((cell_far (p := ⟨gb146, _, none⟩) (by first | exact Kd.own_blk (Kd.R_ne HO_3.out BK146.out (by decide)) | (rw [add_block]; exact Kd.own_blk (Kd.R_ne HO_3.out BK146.out (by decide))) | (show (Addr.add _ _).block ≠ _; rw [add_block]; exact Kd.own_blk (Kd.R_ne HO_3.out BK146.out (by decide))) | (dsimp only; exact Kd.own_blk (Kd.R_ne HO_3.out BK146.out (by decide)))) _).trans (((cell_far (p := ⟨gb146, _, none⟩) (by first | exact Kd.own_blk (Kd.R_ne HO_3.out BK146.out (by decide)) | (rw [add_block]; exact Kd.own_blk (Kd.R_ne HO_3.out BK146.out (by decide))) | (show (Addr.add _ _).block ≠ _; rw [add_block]; exact Kd.own_blk (Kd.R_ne HO_3.out BK146.out (by decide))) | (dsimp only; exact Kd.own_blk (Kd.R_ne HO_3.out BK146.out (by decide)))) _).trans (hHeld.2.2.2.2.1)))))), ((cell_far (p := ⟨gb146, _, none⟩) (by first | exact Kd.own_blk (Kd.R_ne HO_3.out BK146.out (by decide)) | (rw [add_block]; exact Kd.own_blk (Kd.R_ne HO_3.out BK146.out (by decide))) | (show (Addr.add _ _).block ≠ _; rw [add_block]; exact Kd.own_blk (Kd.R_ne HO_3.out BK146.out (by decide))) | (dsimp only; exact Kd.own_blk (Kd.R_ne HO_3.out BK146.out (by decide)))) _).trans (((cell_far (p := ⟨gb146, _, none⟩) (by first | exact Kd.own_blk (Kd.R_ne HO_3.out BK146.out (by decide)) | (rw [add_block]; exact Kd.own_blk (Kd.R_ne HO_3.out BK146.out (by decide))) | (show (Addr.add _ _).block ≠ _; rw [add_block]; exact Kd.own_blk (Kd.R_ne HO_3.out BK146.out (by decide))) | (dsimp only; exact Kd.own_blk (Kd.R_ne HO_3.out BK146.out (by decide)))) _).trans (((cell_far (p := ⟨gb146, _, none⟩) (by first | exact Kd.own_blk (Kd.R_ne HO_3.out BK146.out (by decide)) | (rw [add_block]; exact Kd.own_blk (Kd.R_ne HO_3.out BK146.out (by decide))) | (show (Addr.add _ _).block ≠ _; rw [add_block]; exact Kd.own_blk (Kd.R_ne HO_3.out BK146.out (by decide))) | (dsimp only; exact Kd.own_blk (Kd.R_ne HO_3.out BK146.out (by decide)))) _).trans (hHeld.2.2.2.2.2.1)))))), ((cell_far (p := ⟨gb146, _, none⟩) (by first | exact Kd.own_blk (Kd.R_ne HO_3.out BK146.out (by decide)) | (rw [add_block]; exact Kd.own_blk (Kd.R_ne HO_3.out BK146.out (by decide))) | (show (Addr.add _ _).block ≠ _; rw [add_block]; exact Kd.own_blk (Kd.R_ne HO_3.out BK146.out (by decide))) | (dsimp only; exact Kd.own_blk (Kd.R_ne HO_3.out BK146.out (by decide)))) _).trans (((cell_far (p := ⟨gb146, _, none⟩) (by first | exact Kd.own_blk (Kd.R_ne HO_3.out BK146.out (by decide)) | (rw [add_block]; exact Kd.own_blk (Kd.R_ne HO_3.out BK146.out (by decide))) | (show (Addr.add _ _).block ≠ _; rw [add_block]; exact Kd.own_blk (Kd.R_ne HO_3.out BK146.out (by decide))) | (dsimp only; exact Kd.own_blk (Kd.R_ne HO_3.out BK146.out (by decide)))) _).trans (((cell_far (p := ⟨gb146, _, none⟩) (by first | exact Kd.own_blk (Kd.R_ne HO_3.out BK146.out (by decide)) | (rw [add_block]; exact Kd.own_blk (Kd.R_ne HO_3.out BK146.out (by decide))) | (show (Addr.add _ _).block ≠ _; rw [add_block]; exact Kd.own_blk (Kd.R_ne HO_3.out BK146.out (by decide))) | (dsimp only; exact Kd.own_blk (Kd.R_ne HO_3.out BK146.out (by decide)))) _).trans (hHeld.2.2.2.2.2.2.1)))))), ((cell_far (p := ⟨gb146, _, none⟩) (by first | exact Kd.own_blk (Kd.R_ne HO_3.out BK146.out (by decide)) | (rw [add_block]; exact Kd.own_blk (Kd.R_ne HO_3.out BK146.out (by decide))) | (show (Addr.add _ _).block ≠ _; rw [add_block]; exact Kd.own_blk (Kd.R_ne HO_3.out BK146.out (by decide))) | (dsimp only; exact Kd.own_blk (Kd.R_ne HO_3.out BK146.out (by decide)))) _).trans (((cell_far (p := ⟨gb146, _, none⟩) (by first | exact Kd.own_blk (Kd.R_ne HO_3.out BK146.out (by decide)) | (rw [add_block]; exact Kd.own_blk (Kd.R_ne HO_3.out BK146.out (by decide))) | (show (Addr.add _ _).block ≠ _; rw [add_block]; exact Kd.own_blk (Kd.R_ne HO_3.out BK146.out (by decide))) | (dsimp only; exact Kd.own_blk (Kd.R_ne HO_3.out BK146.out (by decide)))) _).trans (((cell_far (p := ⟨gb146, _, none⟩) (by first | exact Kd.own_blk (Kd.R_ne HO_3.out BK146.out (by decide)) | (rw [add_block]; exact Kd.own_blk (Kd.R_ne HO_3.out BK146.out (by decide))) | (show (Addr.add _ _).block ≠ _; rw [add_block]; exact Kd.own_blk (Kd.R_ne HO_3.out BK146.out (by decide))) | (dsimp only; exact Kd.own_blk (Kd.R_ne HO_3.out BK146.out (by decide)))) _).trans (hHeld.2.2.2.2.2.2.2))))))⟩ (fun hHeld => ?_)
        clear hK K
        refine done_ (done_of HT_.out (by kernel_rfl)) ?_
        try go_wp2
        have n0_ : Aside0 (Kd.R k32 32 (((w61.setCell ⟨gb146, 0, none⟩ (.int .i64 t141)).setCell ⟨gb146, 1, none⟩ (.string t142)).setCell ⟨gb146, 2, none⟩ (.slice Ao64 t143.length co64)) w.heap.size (fun k_ => some k_ ≠ (.slice Ao13 t111.length co13 : Value).ownBlock ∧ some k_ ≠ (.slice Ao29 t122.length co29 : Value).ownBlock ∧ some k_ ≠ (.slice Ao64 t143.length co64 : Value).ownBlock) (.slice (some ad140) t102.length co9) t102) := ⟨by (with_reducible repeat (first | apply Kd.R_alloc | apply Kd.R_drewN | apply Kd.R_drew)); exact Kd.R_mono (Kd.R_far (p := ⟨gb146, 2, none⟩) (Kd.R_far (p := ⟨gb146, 1, none⟩) (Kd.R_far (p := ⟨gb146, 0, none⟩) (Kd.R_types HO_3.out BK146.out (by decide)) (fun _ hk => hk.2) (.int .i64 t141)) (fun _ hk => hk.2) (.string t142)) (fun _ hk => hk.2) (.slice Ao64 t143.length co64)) (fun _ hk => ⟨hk.1.2.1, ⟨hk.1.2.2, hk.1.1⟩⟩)⟩
        have n1_ : Aside0 (Kd.R k32 32 (((w61.setCell ⟨gb146, 0, none⟩ (.int .i64 t141)).setCell ⟨gb146, 1, none⟩ (.string t142)).setCell ⟨gb146, 2, none⟩ (.slice Ao64 t143.length co64)) w.heap.size (fun k_ => some k_ ≠ (.slice (some ad140) t102.length co9 : Value).ownBlock ∧ some k_ ≠ (.slice Ao29 t122.length co29 : Value).ownBlock ∧ some k_ ≠ (.slice Ao64 t143.length co64 : Value).ownBlock) (.slice Ao13 t111.length co13) t111) := ⟨by (with_reducible repeat (first | apply Kd.R_alloc | apply Kd.R_drewN | apply Kd.R_drew)); exact Kd.R_mono (Kd.R_far (p := ⟨gb146, 2, none⟩) (Kd.R_far (p := ⟨gb146, 1, none⟩) (Kd.R_far (p := ⟨gb146, 0, none⟩) (Kd.R_types HO_115002.out BK146.out (by decide)) (fun _ hk => hk.2) (.int .i64 t141)) (fun _ hk => hk.2) (.string t142)) (fun _ hk => hk.2) (.slice Ao64 t143.length co64)) (fun _ hk => ⟨hk.1.2.2, ⟨hk.1.2.1, hk.1.1⟩⟩)⟩
        have n2_ : Aside0 (Kd.R k32 32 (((w61.setCell ⟨gb146, 0, none⟩ (.int .i64 t141)).setCell ⟨gb146, 1, none⟩ (.string t142)).setCell ⟨gb146, 2, none⟩ (.slice Ao64 t143.length co64)) w.heap.size (fun k_ => some k_ ≠ (.slice (some ad140) t102.length co9 : Value).ownBlock ∧ some k_ ≠ (.slice Ao13 t111.length co13 : Value).ownBlock ∧ some k_ ≠ (.slice Ao64 t143.length co64 : Value).ownBlock) (.slice Ao29 t122.length co29) t122) := ⟨by (with_reducible repeat (first | apply Kd.R_alloc | apply Kd.R_drewN | apply Kd.R_drew)); exact Kd.R_mono (Kd.R_far (p := ⟨gb146, 2, none⟩) (Kd.R_far (p := ⟨gb146, 1, none⟩) (Kd.R_far (p := ⟨gb146, 0, none⟩) (Kd.R_types HO_126002.out BK146.out (by decide)) (fun _ hk => hk.2) (.int .i64 t141)) (fun _ hk => hk.2) (.string t142)) (fun _ hk => hk.2) (.slice Ao64 t143.length co64)) (fun _ hk => ⟨hk.1.2.2, ⟨hk.1.2.1, hk.1.1⟩⟩)⟩
        have n3_ : Aside0 (Kd.R Kd.string 9 (((w61.setCell ⟨gb146, 0, none⟩ (.int .i64 t141)).setCell ⟨gb146, 1, none⟩ (.string t142)).setCell ⟨gb146, 2, none⟩ (.slice Ao64 t143.length co64)) w.heap.size (fun k_ => some k_ ≠ (.slice Ao48 t136.length co48 : Value).ownBlock) (.slice Ao37 t129.length co37) t129) := ⟨by (with_reducible repeat (first | apply Kd.R_alloc | apply Kd.R_drewN | apply Kd.R_drew)); exact Kd.R_mono (Kd.R_far (p := ⟨gb146, 2, none⟩) (Kd.R_far (p := ⟨gb146, 1, none⟩) (Kd.R_far (p := ⟨gb146, 0, none⟩) (Kd.R_types HO_133001.out BK146.out (by decide)) (fun _ hk => hk.2) (.int .i64 t141)) (fun _ hk => hk.2) (.string t142)) (fun _ hk => hk.2) (.slice Ao64 t143.length co64)) (fun _ hk => hk.1)⟩
        have n4_ : Aside0 (Kd.R Kd.string 9 (((w61.setCell ⟨gb146, 0, none⟩ (.int .i64 t141)).setCell ⟨gb146, 1, none⟩ (.string t142)).setCell ⟨gb146, 2, none⟩ (.slice Ao64 t143.length co64)) w.heap.size (fun k_ => some k_ ≠ (.slice Ao37 t129.length co37 : Value).ownBlock) (.slice Ao48 t136.length co48) t136) := ⟨by (with_reducible repeat (first | apply Kd.R_alloc | apply Kd.R_drewN | apply Kd.R_drew)); exact Kd.R_mono (Kd.R_far (p := ⟨gb146, 2, none⟩) (Kd.R_far (p := ⟨gb146, 1, none⟩) (Kd.R_far (p := ⟨gb146, 0, none⟩) (Kd.R_types HO_140001.out BK146.out (by decide)) (fun _ hk => hk.2) (.int .i64 t141)) (fun _ hk => hk.2) (.string t142)) (fun _ hk => hk.2) (.slice Ao64 t143.length co64)) (fun _ hk => hk.1)⟩
        have n5_ : Aside0 (Kd.R k32 32 (((w61.setCell ⟨gb146, 0, none⟩ (.int .i64 t141)).setCell ⟨gb146, 1, none⟩ (.string t142)).setCell ⟨gb146, 2, none⟩ (.slice Ao64 t143.length co64)) w.heap.size (fun k_ => some k_ ≠ (.slice (some ad140) t102.length co9 : Value).ownBlock ∧ some k_ ≠ (.slice Ao13 t111.length co13 : Value).ownBlock ∧ some k_ ≠ (.slice Ao29 t122.length co29 : Value).ownBlock) (.slice Ao64 t143.length co64) t143) := ⟨by (with_reducible repeat (first | apply Kd.R_alloc | apply Kd.R_drewN | apply Kd.R_drew)); exact Kd.R_mono (Kd.R_far (p := ⟨gb146, 2, none⟩) (Kd.R_far (p := ⟨gb146, 1, none⟩) (Kd.R_far (p := ⟨gb146, 0, none⟩) (Kd.R_types HO145.out BK146.out (by decide)) (fun _ hk => hk.2) (.int .i64 t141)) (fun _ hk => hk.2) (.string t142)) (fun _ hk => hk.2) (.slice Ao64 t143.length co64)) (fun _ hk => ⟨hk.1.2.2, ⟨hk.1.1, hk.1.2.1⟩⟩)⟩
        have n6_ : Aside0 ((((w61.setCell ⟨gb146, 0, none⟩ (.int .i64 t141)).setCell ⟨gb146, 1, none⟩ (.string t142)).setCell ⟨gb146, 2, none⟩ (.slice Ao64 t143.length co64)).heap[gb114]? = some (.cells #[.int .i64 t109, .string t110, .slice Ao13 t111.length co13] 28 (0, 0))) := ⟨by (with_reducible repeat (first | refine blk_drewN ?_ _ | refine blk_drew ?_ | refine blk_alloc ?_ _)); refine blk_far ?_ NB114_146.out _; (with_reducible repeat (first | refine blk_drewN ?_ _ | refine blk_drew ?_ | refine blk_alloc ?_ _)); refine blk_far ?_ NB114_146.out _; (with_reducible repeat (first | refine blk_drewN ?_ _ | refine blk_drew ?_ | refine blk_alloc ?_ _)); refine blk_far ?_ NB114_146.out _; (with_reducible repeat (first | refine blk_drewN ?_ _ | refine blk_drew ?_ | refine blk_alloc ?_ _)); exact BK114.out⟩
        have n7_ : Aside0 ((((w61.setCell ⟨gb146, 0, none⟩ (.int .i64 t141)).setCell ⟨gb146, 1, none⟩ (.string t142)).setCell ⟨gb146, 2, none⟩ (.slice Ao64 t143.length co64)).heap[gb125]? = some (.cells #[.int .i64 t120, .string t121, .slice Ao29 t122.length co29] 28 (0, 0))) := ⟨by (with_reducible repeat (first | refine blk_drewN ?_ _ | refine blk_drew ?_ | refine blk_alloc ?_ _)); refine blk_far ?_ NB125_146.out _; (with_reducible repeat (first | refine blk_drewN ?_ _ | refine blk_drew ?_ | refine blk_alloc ?_ _)); refine blk_far ?_ NB125_146.out _; (with_reducible repeat (first | refine blk_drewN ?_ _ | refine blk_drew ?_ | refine blk_alloc ?_ _)); refine blk_far ?_ NB125_146.out _; (with_reducible repeat (first | refine blk_drewN ?_ _ | refine blk_drew ?_ | refine blk_alloc ?_ _)); exact BK125.out⟩
        have n8_ : Aside0 ((((w61.setCell ⟨gb146, 0, none⟩ (.int .i64 t141)).setCell ⟨gb146, 1, none⟩ (.string t142)).setCell ⟨gb146, 2, none⟩ (.slice Ao64 t143.length co64)).heap[gb132]? = some (.cells #[.int .i64 t128, .slice Ao37 t129.length co37] 40 (0, 0))) := ⟨by (with_reducible repeat (first | refine blk_drewN ?_ _ | refine blk_drew ?_ | refine blk_alloc ?_ _)); refine blk_far ?_ NB132_146.out _; (with_reducible repeat (first | refine blk_drewN ?_ _ | refine blk_drew ?_ | refine blk_alloc ?_ _)); refine blk_far ?_ NB132_146.out _; (with_reducible repeat (first | refine blk_drewN ?_ _ | refine blk_drew ?_ | refine blk_alloc ?_ _)); refine blk_far ?_ NB132_146.out _; (with_reducible repeat (first | refine blk_drewN ?_ _ | refine blk_drew ?_ | refine blk_alloc ?_ _)); exact BK132.out⟩
        have n9_ : Aside0 ((((w61.setCell ⟨gb146, 0, none⟩ (.int .i64 t141)).setCell ⟨gb146, 1, none⟩ (.string t142)).setCell ⟨gb146, 2, none⟩ (.slice Ao64 t143.length co64)).heap[gb139]? = some (.cells #[.int .i64 t135, .slice Ao48 t136.length co48] 40 (0, 0))) := ⟨by (with_reducible repeat (first | refine blk_drewN ?_ _ | refine blk_drew ?_ | refine blk_alloc ?_ _)); refine blk_far ?_ NB139_146.out _; (with_reducible repeat (first | refine blk_drewN ?_ _ | refine blk_drew ?_ | refine blk_alloc ?_ _)); refine blk_far ?_ NB139_146.out _; (with_reducible repeat (first | refine blk_drewN ?_ _ | refine blk_drew ?_ | refine blk_alloc ?_ _)); refine blk_far ?_ NB139_146.out _; (with_reducible repeat (first | refine blk_drewN ?_ _ | refine blk_drew ?_ | refine blk_alloc ?_ _)); exact BK139.out⟩
        have n10_ : Aside0 ((((w61.setCell ⟨gb146, 0, none⟩ (.int .i64 t141)).setCell ⟨gb146, 1, none⟩ (.string t142)).setCell ⟨gb146, 2, none⟩ (.slice Ao64 t143.length co64)).heap[gb146]? = some (.cells #[.int .i64 t141, .string t142, .slice Ao64 t143.length co64] 28 (0, 0))) := ⟨by (with_reducible repeat (first | refine blk_drewN ?_ _ | refine blk_drew ?_ | refine blk_alloc ?_ _)); refine blk_put (cs := #[.int .i64 t141, .string t142, .slice none 0 0]) ?_ 2 _ rfl; (with_reducible repeat (first | refine blk_drewN ?_ _ | refine blk_drew ?_ | refine blk_alloc ?_ _)); refine blk_put (cs := #[.int .i64 t141, .string (⟨#[]⟩ : ByteArray), .slice none 0 0]) ?_ 1 _ rfl; (with_reducible repeat (first | refine blk_drewN ?_ _ | refine blk_drew ?_ | refine blk_alloc ?_ _)); refine blk_put (cs := #[.int .i64 0, .string (⟨#[]⟩ : ByteArray), .slice none 0 0]) ?_ 0 _ rfl; (with_reducible repeat (first | refine blk_drewN ?_ _ | refine blk_drew ?_ | refine blk_alloc ?_ _)); exact BK146.out⟩
        have n11_ : Aside0 (Below w.heap.size w (((w61.setCell ⟨gb146, 0, none⟩ (.int .i64 t141)).setCell ⟨gb146, 1, none⟩ (.string t142)).setCell ⟨gb146, 2, none⟩ (.slice Ao64 t143.length co64))) := ⟨by repeat (first | (with_reducible first | exact HB.out | apply below_alloc | apply pw_below_drewN | apply below_drew1 | refine below_set ?_ GE114.out | refine below_set ?_ GE125.out | refine below_set ?_ GE132.out | refine below_set ?_ GE139.out | refine below_set ?_ GE146.out) | exact HB.out)⟩
        (try clear HO_3)
        (try clear HO_115002)
        (try clear HO_126002)
        (try clear HO_133001)
        (try clear HO_140001)
        (try clear HO145)
        (try clear BK114)
        (try clear BK125)
        (try clear BK132)
        (try clear BK139)
        (try clear BK146)
        (try clear HB)
        generalize (((w61.setCell ⟨gb146, 0, none⟩ (.int .i64 t141)).setCell ⟨gb146, 1, none⟩ (.string t142)).setCell ⟨gb146, 2, none⟩ (.slice Ao64 t143.length co64)) = w66 at n0_ n1_ n2_ n3_ n4_ n5_ n6_ n7_ n8_ n9_ n10_ n11_ ⊢
        have HO_3 := n0_
        have HO_115002 := n1_
        have HO_126002 := n2_
        have HO_133001 := n3_
        have HO_140001 := n4_
        have HO145 := n5_
        have BK114 := n6_
        have BK125 := n7_
        have BK132 := n8_
        have BK139 := n9_
        have BK146 := n10_
        have HB := n11_
        clear n0_ n1_ n2_ n3_ n4_ n5_ n6_ n7_ n8_ n9_ n10_ n11_
        replace HO_3 := aa (Kd.R_drew HO_3.out)
        replace HO_115002 := aa (Kd.R_drew HO_115002.out)
        replace HO_126002 := aa (Kd.R_drew HO_126002.out)
        replace HO_133001 := aa (Kd.R_drew HO_133001.out)
        replace HO_140001 := aa (Kd.R_drew HO_140001.out)
        replace HO145 := aa (Kd.R_drew HO145.out)
        replace BK114 := aa (blk_drew BK114.out)
        replace BK125 := aa (blk_drew BK125.out)
        replace BK132 := aa (blk_drew BK132.out)
        replace BK139 := aa (blk_drew BK139.out)
        replace BK146 := aa (blk_drew BK146.out)
        replace HB := aa (below_drew1 HB.out)
        have p147 : 0 ≤ (0 : Int) := (by omega)
        have q147 : 0 < (t143.length : Int) := of_decide_eq_true zgglam
        obtain ⟨ad147, e147, hx147_0, hx147_1, hx147_2, hx147_3, hx147_4⟩ := at_T32 (Kd.R_reads' HO145.out).2.2 0 p147 q147
        cases e147
        have qi147 : (0 < t143.length) = True := eq_true (by omega)
        (try rw [show ((0 : Int)).toNat = 0 from rfl] at hx147_0)
        (try rw [show 0 * 5 = 0 from rfl] at hx147_0)
        (try rw [Addr.add_zero'] at hx147_0)
        (try rw [show ((0 : Int)).toNat = 0 from rfl] at hx147_1)
        (try rw [show 0 * 5 = 0 from rfl] at hx147_1)
        (try rw [Addr.add_zero'] at hx147_1)
        (try rw [show ((0 : Int)).toNat = 0 from rfl] at hx147_2)
        (try rw [show 0 * 5 = 0 from rfl] at hx147_2)
        (try rw [Addr.add_zero'] at hx147_2)
        (try rw [show ((0 : Int)).toNat = 0 from rfl] at hx147_3)
        (try rw [show 0 * 5 = 0 from rfl] at hx147_3)
        (try rw [Addr.add_zero'] at hx147_3)
        (try rw [show ((0 : Int)).toNat = 0 from rfl] at hx147_4)
        (try rw [show 0 * 5 = 0 from rfl] at hx147_4)
        (try rw [Addr.add_zero'] at hx147_4)
        replace p147 := eq_true p147
        replace q147 := eq_true q147
        have p148 : 0 ≤ (x12_3 : Int) := of_decide_eq_true zgglam
        have q148 : x12_3 < (t102.length : Int) := of_decide_eq_true zgglam
        obtain ⟨ad148, e148, hx148_0, hx148_1, hx148_2, hx148_3, hx148_4⟩ := at_T32 (Kd.R_reads' HO_3.out).2.2 x12_3 p148 q148
        obtain rfl : ad140 = ad148 := (by injection e148)
        replace p148 := eq_true p148
        replace q148 := eq_true q148
        have p149 : 0 ≤ (0 : Int) := (by omega)
        have q149 : 0 < (t143.length : Int) := of_decide_eq_true zgglam
        obtain ⟨ad149, e149, hx149_0, hx149_1, hx149_2, hx149_3, hx149_4⟩ := at_T32 (Kd.R_reads' HO145.out).2.2 0 p149 q149
        obtain rfl : ad147 = ad149 := (by injection e149)
        have qi149 : (0 < t143.length) = True := eq_true (by omega)
        (try rw [show ((0 : Int)).toNat = 0 from rfl] at hx149_0)
        (try rw [show 0 * 5 = 0 from rfl] at hx149_0)
        (try rw [Addr.add_zero'] at hx149_0)
        (try rw [show ((0 : Int)).toNat = 0 from rfl] at hx149_1)
        (try rw [show 0 * 5 = 0 from rfl] at hx149_1)
        (try rw [Addr.add_zero'] at hx149_1)
        (try rw [show ((0 : Int)).toNat = 0 from rfl] at hx149_2)
        (try rw [show 0 * 5 = 0 from rfl] at hx149_2)
        (try rw [Addr.add_zero'] at hx149_2)
        (try rw [show ((0 : Int)).toNat = 0 from rfl] at hx149_3)
        (try rw [show 0 * 5 = 0 from rfl] at hx149_3)
        (try rw [Addr.add_zero'] at hx149_3)
        (try rw [show ((0 : Int)).toNat = 0 from rfl] at hx149_4)
        (try rw [show 0 * 5 = 0 from rfl] at hx149_4)
        (try rw [Addr.add_zero'] at hx149_4)
        replace p149 := eq_true p149
        replace q149 := eq_true q149
        have p150 : 0 ≤ (x12_3 : Int) := of_decide_eq_true zgglam
        have q150 : x12_3 < (t102.length : Int) := of_decide_eq_true zgglam
        obtain ⟨ad150, e150, hx150_0, hx150_1, hx150_2, hx150_3, hx150_4⟩ := at_T32 (Kd.R_reads' HO_3.out).2.2 x12_3 p150 q150
        obtain rfl : ad140 = ad150 := (by injection e150)
        replace p150 := eq_true p150
        replace q150 := eq_true q150
        have p151 : 0 ≤ (0 : Int) := (by omega)
        have q151 : 0 < (t143.length : Int) := of_decide_eq_true zgglam
        obtain ⟨ad151, e151, hx151_0, hx151_1, hx151_2, hx151_3, hx151_4⟩ := at_T32 (Kd.R_reads' HO145.out).2.2 0 p151 q151
        obtain rfl : ad147 = ad151 := (by injection e151)
        have qi151 : (0 < t143.length) = True := eq_true (by omega)
        (try rw [show ((0 : Int)).toNat = 0 from rfl] at hx151_0)
        (try rw [show 0 * 5 = 0 from rfl] at hx151_0)
        (try rw [Addr.add_zero'] at hx151_0)
        (try rw [show ((0 : Int)).toNat = 0 from rfl] at hx151_1)
        (try rw [show 0 * 5 = 0 from rfl] at hx151_1)
        (try rw [Addr.add_zero'] at hx151_1)
        (try rw [show ((0 : Int)).toNat = 0 from rfl] at hx151_2)
        (try rw [show 0 * 5 = 0 from rfl] at hx151_2)
        (try rw [Addr.add_zero'] at hx151_2)
        (try rw [show ((0 : Int)).toNat = 0 from rfl] at hx151_3)
        (try rw [show 0 * 5 = 0 from rfl] at hx151_3)
        (try rw [Addr.add_zero'] at hx151_3)
        (try rw [show ((0 : Int)).toNat = 0 from rfl] at hx151_4)
        (try rw [show 0 * 5 = 0 from rfl] at hx151_4)
        (try rw [Addr.add_zero'] at hx151_4)
        replace p151 := eq_true p151
        replace q151 := eq_true q151
        have p152 : 0 ≤ (x12_3 : Int) := of_decide_eq_true zgglam
        have q152 : x12_3 < (t102.length : Int) := of_decide_eq_true zgglam
        obtain ⟨ad152, e152, hx152_0, hx152_1, hx152_2, hx152_3, hx152_4⟩ := at_T32 (Kd.R_reads' HO_3.out).2.2 x12_3 p152 q152
        obtain rfl : ad140 = ad152 := (by injection e152)
        replace p152 := eq_true p152
        replace q152 := eq_true q152
        refine start_ (n := 48) (S := fun w' => w'.cell? ⟨gb146, 0, none⟩ = some (.int .i64 t141) ∧ w'.cell? ⟨gb146, 1, none⟩ = some (.string t142) ∧ w'.cell? ⟨gb146, 2, none⟩ = some (.slice (some ad147) t143.length co64) ∧ w'.cell? ad147 = some (.string ((rd_T32 t143 0).f0)) ∧ w'.cell? ⟨ad147.block, ad147.off + 1, none⟩ = some (.int .i64 ((rd_T32 t143 0).f1)) ∧ w'.cell? ⟨ad147.block, ad147.off + 2, none⟩ = some (.int .i64 ((rd_T32 t143 0).f2)) ∧ w'.cell? ⟨ad147.block, ad147.off + 3, none⟩ = some (.int .i64 ((rd_T32 t143 0).f3)) ∧ w'.cell? ⟨ad147.block, ad147.off + 4, none⟩ = some (.int .i64 ((rd_T32 t143 0).f4)) ∧ w'.cell? (ad140.add ((x12_3).toNat * 5)) = some (.string ((rd_T32 t102 x12_3).f0)) ∧ w'.cell? ⟨(ad140.add ((x12_3).toNat * 5)).block, (ad140.add ((x12_3).toNat * 5)).off + 1, none⟩ = some (.int .i64 ((rd_T32 t102 x12_3).f1)) ∧ w'.cell? ⟨(ad140.add ((x12_3).toNat * 5)).block, (ad140.add ((x12_3).toNat * 5)).off + 2, none⟩ = some (.int .i64 ((rd_T32 t102 x12_3).f2)) ∧ w'.cell? ⟨(ad140.add ((x12_3).toNat * 5)).block, (ad140.add ((x12_3).toNat * 5)).off + 3, none⟩ = some (.int .i64 ((rd_T32 t102 x12_3).f3)) ∧ w'.cell? ⟨(ad140.add ((x12_3).toNat * 5)).block, (ad140.add ((x12_3).toNat * 5)).off + 4, none⟩ = some (.int .i64 ((rd_T32 t102 x12_3).f4)) ∧ w'.cell? ad147 = some (.string ((rd_T32 t143 0).f0)) ∧ w'.cell? ⟨ad147.block, ad147.off + 1, none⟩ = some (.int .i64 ((rd_T32 t143 0).f1)) ∧ w'.cell? ⟨ad147.block, ad147.off + 2, none⟩ = some (.int .i64 ((rd_T32 t143 0).f2)) ∧ w'.cell? ⟨ad147.block, ad147.off + 3, none⟩ = some (.int .i64 ((rd_T32 t143 0).f3)) ∧ w'.cell? ⟨ad147.block, ad147.off + 4, none⟩ = some (.int .i64 ((rd_T32 t143 0).f4)) ∧ w'.cell? (ad140.add ((x12_3).toNat * 5)) = some (.string ((rd_T32 t102 x12_3).f0)) ∧ w'.cell? ⟨(ad140.add ((x12_3).toNat * 5)).block, (ad140.add ((x12_3).toNat * 5)).off + 1, none⟩ = some (.int .i64 ((rd_T32 t102 x12_3).f1)) ∧ w'.cell? ⟨(ad140.add ((x12_3).toNat * 5)).block, (ad140.add ((x12_3).toNat * 5)).off + 2, none⟩ = some (.int .i64 ((rd_T32 t102 x12_3).f2)) ∧ w'.cell? ⟨(ad140.add ((x12_3).toNat * 5)).block, (ad140.add ((x12_3).toNat * 5)).off + 3, none⟩ = some (.int .i64 ((rd_T32 t102 x12_3).f3)) ∧ w'.cell? ⟨(ad140.add ((x12_3).toNat * 5)).block, (ad140.add ((x12_3).toNat * 5)).off + 4, none⟩ = some (.int .i64 ((rd_T32 t102 x12_3).f4)) ∧ w'.cell? ad147 = some (.string ((rd_T32 t143 0).f0)) ∧ w'.cell? ⟨ad147.block, ad147.off + 1, none⟩ = some (.int .i64 ((rd_T32 t143 0).f1)) ∧ w'.cell? ⟨ad147.block, ad147.off + 2, none⟩ = some (.int .i64 ((rd_T32 t143 0).f2)) ∧ w'.cell? ⟨ad147.block, ad147.off + 3, none⟩ = some (.int .i64 ((rd_T32 t143 0).f3)) ∧ w'.cell? ⟨ad147.block, ad147.off + 4, none⟩ = some (.int .i64 ((rd_T32 t143 0).f4)) ∧ w'.cell? (ad140.add ((x12_3).toNat * 5)) = some (.string ((rd_T32 t102 x12_3).f0)) ∧ w'.cell? ⟨(ad140.add ((x12_3).toNat * 5)).block, (ad140.add ((x12_3).toNat * 5)).off + 1, none⟩ = some (.int .i64 ((rd_T32 t102 x12_3).f1)) ∧ w'.cell? ⟨(ad140.add ((x12_3).toNat * 5)).block, (ad140.add ((x12_3).toNat * 5)).off + 2, none⟩ = some (.int .i64 ((rd_T32 t102 x12_3).f2)) ∧ w'.cell? ⟨(ad140.add ((x12_3).toNat * 5)).block, (ad140.add ((x12_3).toNat * 5)).off + 3, none⟩ = some (.int .i64 ((rd_T32 t102 x12_3).f3)) ∧ w'.cell? ⟨(ad140.add ((x12_3).toNat * 5)).block, (ad140.add ((x12_3).toNat * 5)).off + 4, none⟩ = some (.int .i64 ((rd_T32 t102 x12_3).f4))) (ds := []) #[false, false, false, false, false, false, false, false, false, false, false, false, false, false, false, false, false, false, false, false, false, false, false, false, false, false, false, false, false, false, false, false, false, false, false, false, false, false, false, false, false, false, false, false, false, false, false, false] (by kernel_rfl) rfl rfl ⟨(blk_cell BK146.out 0).trans rfl, (blk_cell BK146.out 1).trans rfl, (blk_cell BK146.out 2).trans rfl, hx147_0, hx147_1, hx147_2, hx147_3, hx147_4, hx148_0, hx148_1, hx148_2, hx148_3, hx148_4, hx149_0, hx149_1, hx149_2, hx149_3, hx149_4, hx150_0, hx150_1, hx150_2, hx150_3, hx150_4, hx151_0, hx151_1, hx151_2, hx151_3, hx151_4, hx152_0, hx152_1, hx152_2, hx152_3, hx152_4⟩ (fun hHeld => ?_); refine with_tabW laws_FnCreates.tab14 laws_FnCreates.bits14 (fun HT_ HW_ => ?_)
        generalize w66.drew = w67 at HO_3 HO_115002 HO_126002 HO_133001 HO_140001 HO145 BK114 BK125 BK132 BK139 BK146 HB hx147_0 hx147_1 hx147_2 hx147_3 hx147_4 hx148_0 hx148_1 hx148_2 hx148_3 hx148_4 hx149_0 hx149_1 hx149_2 hx149_3 hx149_4 hx150_0 hx150_1 hx150_2 hx150_3 hx150_4 hx151_0 hx151_1 hx151_2 hx151_3 hx151_4 hx152_0 hx152_1 hx152_2 hx152_3 hx152_4 hHeld ⊢
        refine pu5 0 75 ?_
        refine tk33_5 1 76 ?_
        refine pu5 2 77 ?_
        refine pu5 3 78 ?_
        refine pu5 4 79 ?_
        refine tk33_5 5 80 ?_
        refine pu5 6 81 ?_
        refine pu5 7 82 ?_
        refine pu5 8 83 ?_
        refine pu5 9 84 ?_
        refine pu5 10 85 ?_
        refine pu5 15 90 ?_
        refine pu5 16 91 ?_
        refine pu5 17 92 ?_
        refine pu5 18 93 ?_
        refine tk33_5 11 86 ?_
        refine pu5 12 87 ?_
        refine pu5 13 88 ?_
        refine tk33_5 14 89 ?_
        refine tk33_5 19 94 ?_
        refine pu5 20 95 ?_
        refine pu5 21 96 ?_
        refine pu5 22 97 ?_
        refine pu5 23 98 ?_
        refine pu5 28 103 ?_
        refine pu5 29 104 ?_
        refine pu5 30 105 ?_
        refine pu5 31 106 ?_
        refine tk33_5 24 99 ?_
        refine pu5 25 100 ?_
        refine pu5 26 101 ?_
        refine tk33_5 27 102 ?_
        refine tk33_5 32 107 ?_
        refine pu5 33 108 ?_
        refine pu5 34 109 ?_
        refine pu5 35 110 ?_
        refine pu5 36 111 ?_
        refine pu5 41 116 ?_
        refine pu5 42 117 ?_
        refine pu5 43 118 ?_
        refine pu5 44 119 ?_
        refine tk33_5 37 112 ?_
        refine pu5 38 113 ?_
        refine pu5 39 114 ?_
        refine tk33_5 40 115 ?_
        refine tk33_5 45 120 ?_
        refine pu5 46 121 ?_
        refine pu5 47 122 ?_
        refine done_ (done_of HT_.out (by kernel_rfl)) ?_
        try go_wp2
        go_roundg k3
        case measure => have := HJ2.out; have := HJ6.out; have := HK3.out; omega
        case rel => exact ⟨(wrap64 (x12_3 + 1)), zagbkp, H', ⟨by have := HJ2.out; have := HJ6.out; have := HK3.out; omega⟩, ⟨by (with_reducible repeat (first | apply Kd.R_alloc | apply Kd.R_drewN | apply Kd.R_drew)); exact Kd.R_mono HO_3.out (fun _ hk => ⟨hk.1, hk.2.1⟩)⟩, ⟨by (with_reducible repeat (first | apply Kd.R_alloc | apply Kd.R_drewN | apply Kd.R_drew)); exact Kd.R_mono HO_115002.out (fun _ hk => ⟨hk.1, hk.2.1⟩)⟩, ⟨by (with_reducible repeat (first | apply Kd.R_alloc | apply Kd.R_drewN | apply Kd.R_drew)); exact Kd.R_mono HO_126002.out (fun _ hk => ⟨hk.1, hk.2.1⟩)⟩, ⟨zcaken HO_133001.out⟩, ⟨zcaken HO_140001.out⟩, ⟨zkjhpm BK114.out⟩, ⟨zkjhpm BK125.out⟩, ⟨zkjhpm BK132.out⟩, ⟨zkjhpm BK139.out⟩, ⟨zmmbho⟩⟩
       ·
        revert H
        refine obs_ fun t153 A118 H => ?_
        revert H
        refine itE_ (fun c119b0 c119b1 H => ?_) fun c119b0 c119b1 H => ?_
        rotate_left
        ·
         obtain rfl := Option.some.inj H
         exact absurd HRT.out (by decide)
        revert H
        refine itE_ (fun c120b0 c120b1 H => ?_) fun c120b0 c120b1 H => ?_
        rotate_left
        ·
         obtain rfl := Option.some.inj H
         exact absurd HRT.out (by decide)
        revert H
        refine itE_ (fun c121b0 c121b1 H => ?_) fun c121b0 c121b1 H => ?_
        rotate_left
        ·
         obtain rfl := Option.some.inj H
         exact absurd HRT.out (by decide)
        revert H
        refine itE_ (fun c122b0 c122b1 H => ?_) fun c122b0 c122b1 H => ?_
        rotate_left
        ·
         obtain rfl := Option.some.inj H
         exact absurd HRT.out (by decide)
        revert H
        refine itG_ fun c123 H => ?_
        have c123b0 := decide_eq_true c123
        have c123b1 : decide (0 < t122.length) = true := decide_eq_true (by omega)
        clear c123
        revert H
        refine itE_ (fun c124b0 c124b1 H => ?_) fun c124b0 c124b1 H => ?_
        rotate_left
        ·
         obtain rfl := Option.some.inj H
         exact absurd HRT.out (by decide)
        revert H
        refine itE_ (fun c125b0 c125b1 H => ?_) fun c125b0 c125b1 H => ?_
        rotate_left
        ·
         obtain rfl := Option.some.inj H
         exact absurd HRT.out (by decide)
        revert H
        refine itE_ (fun c126b0 c126b1 H => ?_) fun c126b0 c126b1 H => ?_
        rotate_left
        ·
         obtain rfl := Option.some.inj H
         exact absurd HRT.out (by decide)
        by_cases c127 : t106 = true
        ·
         subst c127
         rw [if_pos rfl] at H
         revert H
         refine ob3_ fun t156 t157 t158 A128 H => ?_
         (try dsimp only at H)
         obtain rfl := Option.some.inj H
         have hnb129 := NB114_125.out
         have hnc129 := NB125_114.out
         have hnb130 := NB114_132.out
         have hnc130 := NB132_114.out
         have hnb131 := NB114_139.out
         have hnc131 := NB139_114.out
         obtain ⟨hcz132_0, hcz132_1, hcz132_2, hfz132_0, hfz132_1, hfz132_2⟩ := blk3_ BK114.out
         go_wp2_with (first | (refine gc_ Tryd.func12 (some 125) #[.slice Ao13 t111.length co13] ?_; (with_reducible refine (impl_TreeFault.calls k3 _ _ t111 t153 _ zafndb zlonic A118.out).mono ?_); rintro e w133 ⟨rfl, hb⟩; refine ⟨_, rfl, ?_⟩; replace HO_3 := aa (Kd.R_below (zcaken HO_3.out) hb); replace HO_115002 := aa (Kd.R_below (zcaken HO_115002.out) hb); replace HO_126002 := aa (Kd.R_below (zcaken HO_126002.out) hb); replace HO_133001 := aa (Kd.R_below (zcaken HO_133001.out) hb); replace HO_140001 := aa (Kd.R_below (zcaken HO_140001.out) hb); replace BK114 := aa (bb_ BK114.out hb); replace BK125 := aa (bb_ BK125.out hb); replace BK132 := aa (bb_ BK132.out hb); replace BK139 := aa (bb_ BK139.out hb); replace HB := aa (below_step zgdeah hb); (try clear hb hk hi); obtain ⟨hcz134_0, hcz134_1, hcz134_2, hfz134_0, hfz134_1, hfz134_2⟩ := blk3_ BK114.out; have hnb135 := NB125_132.out; have hnc135 := NB132_125.out; have hnb136 := NB125_139.out; have hnc136 := NB139_125.out; obtain ⟨hcz137_0, hcz137_1, hcz137_2, hfz137_0, hfz137_1, hfz137_2⟩ := blk3_ BK125.out; have p154 : 0 ≤ (0 : Int) := (by omega); have q154 : 0 < (t122.length : Int) := of_decide_eq_true zgglam; obtain ⟨ad154, e154, hx154_0, hx154_1, hx154_2, hx154_3, hx154_4⟩ := at_T32 (Kd.R_reads' HO_126002.out).2.2 0 p154 q154; cases e154; have qi154 : (0 < t122.length) = True := eq_true (by omega); (try rw [show ((0 : Int)).toNat = 0 from rfl] at hx154_0); (try rw [show 0 * 5 = 0 from rfl] at hx154_0); (try rw [Addr.add_zero'] at hx154_0); (try rw [show ((0 : Int)).toNat = 0 from rfl] at hx154_1); (try rw [show 0 * 5 = 0 from rfl] at hx154_1); (try rw [Addr.add_zero'] at hx154_1); (try rw [show ((0 : Int)).toNat = 0 from rfl] at hx154_2); (try rw [show 0 * 5 = 0 from rfl] at hx154_2); (try rw [Addr.add_zero'] at hx154_2); (try rw [show ((0 : Int)).toNat = 0 from rfl] at hx154_3); (try rw [show 0 * 5 = 0 from rfl] at hx154_3); (try rw [Addr.add_zero'] at hx154_3); (try rw [show ((0 : Int)).toNat = 0 from rfl] at hx154_4); (try rw [show 0 * 5 = 0 from rfl] at hx154_4); (try rw [Addr.add_zero'] at hx154_4); replace p154 := eq_true p154; replace q154 := eq_true q154; have p155 : 0 ≤ (0 : Int) := (by omega); have q155 : 0 < (t122.length : Int) := of_decide_eq_true zgglam; obtain ⟨ad155, e155, hx155_0, hx155_1, hx155_2, hx155_3, hx155_4⟩ := at_T32 (Kd.R_reads' HO_126002.out).2.2 0 p155 q155; obtain rfl : ad154 = ad155 := (by injection e155); have qi155 : (0 < t122.length) = True := eq_true (by omega); (try rw [show ((0 : Int)).toNat = 0 from rfl] at hx155_0); (try rw [show 0 * 5 = 0 from rfl] at hx155_0); (try rw [Addr.add_zero'] at hx155_0); (try rw [show ((0 : Int)).toNat = 0 from rfl] at hx155_1); (try rw [show 0 * 5 = 0 from rfl] at hx155_1); (try rw [Addr.add_zero'] at hx155_1); (try rw [show ((0 : Int)).toNat = 0 from rfl] at hx155_2); (try rw [show 0 * 5 = 0 from rfl] at hx155_2); (try rw [Addr.add_zero'] at hx155_2); (try rw [show ((0 : Int)).toNat = 0 from rfl] at hx155_3); (try rw [show 0 * 5 = 0 from rfl] at hx155_3); (try rw [Addr.add_zero'] at hx155_3); (try rw [show ((0 : Int)).toNat = 0 from rfl] at hx155_4); (try rw [show 0 * 5 = 0 from rfl] at hx155_4); (try rw [Addr.add_zero'] at hx155_4); replace p155 := eq_true p155; replace q155 := eq_true q155; have hnb138 := NB132_139.out; have hnc138 := NB139_132.out; obtain ⟨hcz139_0, hcz139_1, hfz139_0, hfz139_1⟩ := blk2_ BK132.out; obtain ⟨hcz140_0, hcz140_1, hfz140_0, hfz140_1⟩ := blk2_ BK139.out) | (go_at_call 11; (with_reducible refine gate_args5 #[.slice _ t102.length _, .string t110] ?_); (with_reducible refine (impl_GetZ.calls k3 _ _ t102 t110 t156 t157 t158 _ zifagg zkdfbh A128.out).mono ?_); rintro e w141 ⟨v159, rfl, ho0, hb⟩; have n0_ := aa (Kd.R_elder' (zcaken HO_3.out) (Kd.R_base ho0) hb); have n1_ := aa (Kd.R_elder' (zcaken HO_115002.out) (Kd.R_base ho0) hb); have n2_ := aa (Kd.R_elder' (zcaken HO_126002.out) (Kd.R_base ho0) hb); have n3_ := aa (Kd.R_below (zcaken HO_133001.out) hb); have n4_ := aa (Kd.R_below (zcaken HO_140001.out) hb); have n5_ := aa (Kd.R_lower (Kd.R_new' (Kd.R_new' (Kd.R_new' ho0 (Kd.R_lt (zcaken HO_3.out))) (Kd.R_lt (zcaken HO_115002.out))) (Kd.R_lt (zcaken HO_126002.out))) (below_size zgdeah)); have n6_ := aa (bb_ BK114.out hb); have n7_ := aa (bb_ BK125.out hb); have n8_ := aa (bb_ BK132.out hb); have n9_ := aa (bb_ BK139.out hb); have n10_ := aa (below_step zgdeah hb); clear HO_3; clear HO_115002; clear HO_126002; clear HO_133001; clear HO_140001; clear BK114; clear BK125; clear BK132; clear BK139; clear HB; have HO_3 := n0_; have HO_115002 := n1_; have HO_126002 := n2_; have HO_133001 := n3_; have HO_140001 := n4_; have HO160 := n5_; have BK114 := n6_; have BK125 := n7_; have BK132 := n8_; have BK139 := n9_; have HB := n10_; clear n0_ n1_ n2_ n3_ n4_ n5_ n6_ n7_ n8_ n9_ n10_; (try clear hb hk hi ho0)))
         go_ret
         exact ⟨zlhpib, zgdeah⟩
        replace c127 := Bool.eq_false_iff.mpr c127
        subst c127
        rw [if_neg fT_] at H
        revert H
        refine itE_ (fun c142b0 c142b1 H => ?_) fun c142b0 c142b1 H => ?_
        rotate_left
        ·
         obtain rfl := Option.some.inj H
         exact absurd HRT.out (by decide)
        revert H
        refine ob3_ fun t161 t162 t163 A143 H => ?_
        (try dsimp only at H)
        obtain rfl := Option.some.inj H
        have hnb144 := NB114_125.out
        have hnc144 := NB125_114.out
        have hnb145 := NB114_132.out
        have hnc145 := NB132_114.out
        have hnb146 := NB114_139.out
        have hnc146 := NB139_114.out
        obtain ⟨hcz147_0, hcz147_1, hcz147_2, hfz147_0, hfz147_1, hfz147_2⟩ := blk3_ BK114.out
        go_wp2_with (first | (refine gc_ Tryd.func12 (some 125) #[.slice Ao13 t111.length co13] ?_; (with_reducible refine (impl_TreeFault.calls k3 _ _ t111 t153 _ zafndb zlonic A118.out).mono ?_); rintro e w148 ⟨rfl, hb⟩; refine ⟨_, rfl, ?_⟩; replace HO_3 := aa (Kd.R_below (zcaken HO_3.out) hb); replace HO_115002 := aa (Kd.R_below (zcaken HO_115002.out) hb); replace HO_126002 := aa (Kd.R_below (zcaken HO_126002.out) hb); replace HO_133001 := aa (Kd.R_below (zcaken HO_133001.out) hb); replace HO_140001 := aa (Kd.R_below (zcaken HO_140001.out) hb); replace BK114 := aa (bb_ BK114.out hb); replace BK125 := aa (bb_ BK125.out hb); replace BK132 := aa (bb_ BK132.out hb); replace BK139 := aa (bb_ BK139.out hb); replace HB := aa (below_step zgdeah hb); (try clear hb hk hi); obtain ⟨hcz149_0, hcz149_1, hcz149_2, hfz149_0, hfz149_1, hfz149_2⟩ := blk3_ BK114.out; have hnb150 := NB125_132.out; have hnc150 := NB132_125.out; have hnb151 := NB125_139.out; have hnc151 := NB139_125.out; obtain ⟨hcz152_0, hcz152_1, hcz152_2, hfz152_0, hfz152_1, hfz152_2⟩ := blk3_ BK125.out; have p154 : 0 ≤ (0 : Int) := (by omega); have q154 : 0 < (t122.length : Int) := of_decide_eq_true zgglam; obtain ⟨ad154, e154, hx154_0, hx154_1, hx154_2, hx154_3, hx154_4⟩ := at_T32 (Kd.R_reads' HO_126002.out).2.2 0 p154 q154; cases e154; have qi154 : (0 < t122.length) = True := eq_true (by omega); (try rw [show ((0 : Int)).toNat = 0 from rfl] at hx154_0); (try rw [show 0 * 5 = 0 from rfl] at hx154_0); (try rw [Addr.add_zero'] at hx154_0); (try rw [show ((0 : Int)).toNat = 0 from rfl] at hx154_1); (try rw [show 0 * 5 = 0 from rfl] at hx154_1); (try rw [Addr.add_zero'] at hx154_1); (try rw [show ((0 : Int)).toNat = 0 from rfl] at hx154_2); (try rw [show 0 * 5 = 0 from rfl] at hx154_2); (try rw [Addr.add_zero'] at hx154_2); (try rw [show ((0 : Int)).toNat = 0 from rfl] at hx154_3); (try rw [show 0 * 5 = 0 from rfl] at hx154_3); (try rw [Addr.add_zero'] at hx154_3); (try rw [show ((0 : Int)).toNat = 0 from rfl] at hx154_4); (try rw [show 0 * 5 = 0 from rfl] at hx154_4); (try rw [Addr.add_zero'] at hx154_4); replace p154 := eq_true p154; replace q154 := eq_true q154; have p155 : 0 ≤ (0 : Int) := (by omega); have q155 : 0 < (t122.length : Int) := of_decide_eq_true zgglam; obtain ⟨ad155, e155, hx155_0, hx155_1, hx155_2, hx155_3, hx155_4⟩ := at_T32 (Kd.R_reads' HO_126002.out).2.2 0 p155 q155; obtain rfl : ad154 = ad155 := (by injection e155); have qi155 : (0 < t122.length) = True := eq_true (by omega); (try rw [show ((0 : Int)).toNat = 0 from rfl] at hx155_0); (try rw [show 0 * 5 = 0 from rfl] at hx155_0); (try rw [Addr.add_zero'] at hx155_0); (try rw [show ((0 : Int)).toNat = 0 from rfl] at hx155_1); (try rw [show 0 * 5 = 0 from rfl] at hx155_1); (try rw [Addr.add_zero'] at hx155_1); (try rw [show ((0 : Int)).toNat = 0 from rfl] at hx155_2); (try rw [show 0 * 5 = 0 from rfl] at hx155_2); (try rw [Addr.add_zero'] at hx155_2); (try rw [show ((0 : Int)).toNat = 0 from rfl] at hx155_3); (try rw [show 0 * 5 = 0 from rfl] at hx155_3); (try rw [Addr.add_zero'] at hx155_3); (try rw [show ((0 : Int)).toNat = 0 from rfl] at hx155_4); (try rw [show 0 * 5 = 0 from rfl] at hx155_4); (try rw [Addr.add_zero'] at hx155_4); replace p155 := eq_true p155; replace q155 := eq_true q155; have hnb153 := NB132_139.out; have hnc153 := NB139_132.out; obtain ⟨hcz154_0, hcz154_1, hfz154_0, hfz154_1⟩ := blk2_ BK132.out; obtain ⟨hcz155_0, hcz155_1, hfz155_0, hfz155_1⟩ := blk2_ BK139.out) | (go_at_call 11; (with_reducible refine gate_args5 #[.slice _ t102.length _, .string t110] ?_); (with_reducible refine (impl_GetZ.calls k3 _ _ t102 t110 t161 t162 t163 _ zifagg zkdfbh A143.out).mono ?_); rintro e w156 ⟨v164, rfl, ho0, hb⟩; have n0_ := aa (Kd.R_elder' (zcaken HO_3.out) (Kd.R_base ho0) hb); have n1_ := aa (Kd.R_elder' (zcaken HO_115002.out) (Kd.R_base ho0) hb); have n2_ := aa (Kd.R_elder' (zcaken HO_126002.out) (Kd.R_base ho0) hb); have n3_ := aa (Kd.R_below (zcaken HO_133001.out) hb); have n4_ := aa (Kd.R_below (zcaken HO_140001.out) hb); have n5_ := aa (Kd.R_lower (Kd.R_new' (Kd.R_new' (Kd.R_new' ho0 (Kd.R_lt (zcaken HO_3.out))) (Kd.R_lt (zcaken HO_115002.out))) (Kd.R_lt (zcaken HO_126002.out))) (below_size zgdeah)); have n6_ := aa (bb_ BK114.out hb); have n7_ := aa (bb_ BK125.out hb); have n8_ := aa (bb_ BK132.out hb); have n9_ := aa (bb_ BK139.out hb); have n10_ := aa (below_step zgdeah hb); clear HO_3; clear HO_115002; clear HO_126002; clear HO_133001; clear HO_140001; clear BK114; clear BK125; clear BK132; clear BK139; clear HB; have HO_3 := n0_; have HO_115002 := n1_; have HO_126002 := n2_; have HO_133001 := n3_; have HO_140001 := n4_; have HO165 := n5_; have BK114 := n6_; have BK125 := n7_; have BK132 := n8_; have BK139 := n9_; have HB := n10_; clear n0_ n1_ n2_ n3_ n4_ n5_ n6_ n7_ n8_ n9_ n10_; (try clear hb hk hi ho0)))
        go_ret
        exact ⟨zlhpib, zgdeah⟩
end Go.Proofs.YtegggpipggniaaaDoor.Qa
/- Arguments laid open: what a value of a type holds in memory, by the print's kinds; for every type that is met here. -/
namespace Go.Proofs.YtegggpipggniaaaDoor.Tro
open Go.ChangeShapes Go.WideShapes Go.RowKit Go.Deep Go.Proofs.YtegggpipggniaaaDoorW.PrintWords

def Tr {α : Type} (P : Program) (k : Kd α) (T : TypeId) (good : α → Prop) : Prop :=
  ∀ {H : Type} (enc : TypeId × Value → H) (w : World) (fuel : Nat) (cs : List Value) (x : DataW H × List MemPlace), DataW.trod enc P w 0 (fun _ => true) true fuel T cs = some x → ∃ a : α, k.K w a cs ∧ good a
theorem tr_int {P : Program} {T : TypeId} {k : IntKind} (h : P.underlying T = some (.int k)) : Tr P (Kd.int k) T (fun a => (Lit.int k a).wf = true) := by
  intro H enc w fuel cs x hx
  obtain ⟨n, rfl, _, hw⟩ := DataW.trod_int h hx
  exact ⟨n, rfl, hw⟩
theorem choose_list {α : Type} {p : Nat → α → Prop} : ∀ n : Nat, (∀ i, i < n → ∃ a, p i a) → ∃ xs : List α, xs.length = n ∧ ∀ i a, xs[i]? = some a → p i a
  | 0, _ => ⟨[], rfl, fun i a h => by simp at h⟩
  | n + 1, h => by
    obtain ⟨xs, hl, hx⟩ := choose_list n (fun i hi => h i (by omega))
    obtain ⟨a, ha⟩ := h n (by omega)
    refine ⟨xs ++ [a], by simp [hl], fun i b hb => ?_⟩
    rcases Nat.lt_or_ge i xs.length with hi | hi
    · rw [List.getElem?_append_left hi] at hb
      exact hx i b hb
    · rw [List.getElem?_append_right hi] at hb
      have hi' : i = xs.length := by
        rcases Nat.eq_or_lt_of_le hi with e | e
        · exact e.symm
        · rw [List.getElem?_eq_none (by simp; omega)] at hb
          cases hb
      subst hi'
      rw [Nat.sub_self] at hb
      cases hb
      rw [hl]
      exact ha
theorem tr_slice {α : Type} {P : Program} {T e : TypeId} {d : Kd α} {good : α → Prop} (h : P.underlying T = some (.slice e)) (hz : d.sz = P.cellsOf e) (he : Tr P d e good) :
    Tr P (Kd.slice e d) T (fun xs => xs.length ≤ 9223372036854775807 ∧ ∀ x ∈ xs, good x) := by
  intro H enc w fuel cs x hx
  rcases open_slice h hx with ⟨rfl, _⟩ | ⟨a, len, cap, m, n, D, Pl, rfl, _, hl, hm, hmm, _, hi⟩
  · exact ⟨[], ⟨none, 0, rfl, Nat.le_refl _, rfl, Nat.zero_le _, fun h0 => absurd h0 (Nat.lt_irrefl 0)⟩, Nat.zero_le _, fun x hx => by simp at hx⟩
  · have hmc : m = cap := by simpa using hmm
    have hcap : cap ≤ 9223372036854775807 := hm
    obtain ⟨xs, hxl, hxs⟩ := choose_list (p := fun i b => (∃ c, c.length = d.sz ∧ d.K w b c ∧ ∀ j u, c[j]? = some u → w.cell? (a.add (i * d.sz + j)) = some u) ∧ good b) len (fun i hil => by
      obtain ⟨cs', hc, ht⟩ := hi i (by omega)
      obtain ⟨b, hb, hg⟩ := he enc w n cs' _ ht
      refine ⟨b, ⟨cs', d.K_len hb, hb, fun j u hu => ?_⟩, hg⟩
      obtain ⟨_, hcl, hat⟩ := World.cells?_some hc
      have hj : j < P.cellsOf e := by rw [← hcl]; exact (List.getElem?_eq_some_iff.1 hu).1
      have := hat j hj
      rw [hz, ← Go.Deep.add_add, this, hu])
    refine ⟨xs, ⟨some a, cap, by rw [hxl], by omega, rfl, by omega, fun _ => ⟨a, rfl, fun j p hp => (hxs j p hp).1⟩⟩, by omega, fun b hb => ?_⟩
    obtain ⟨i, hil, he⟩ := List.getElem_of_mem hb
    exact (hxs i b (by rw [← he]; exact List.getElem?_eq_getElem hil)).2
end Go.Proofs.YtegggpipggniaaaDoor.Tro

namespace Go.Proofs.YtegggpipggniaaaDoor.Qa
open Go.RowKit Go.Proofs.YtegggpipggniaaaDoorW.PrintWords Go.Proofs.YtegggpipggniaaaDoorW.PrintLast Go.Proofs.YtegggpipggniaaaDoorW.PrintMore Go.ChangeShapes Go.WideShapes Go.Proofs.YtegggpipggniaaaDoor.Tro
attribute [local go_sem] max2_int min2_int max_two min_two max_three min_three max_four min_four   -- for this text's walks alone
set_option linter.unusedVariables false
set_option linter.unusedSimpArgs false
end Go.Proofs.YtegggpipggniaaaDoor.Qa
/- Small laws of the pure side: what ends, step by step; whole numbers; lists by places. -/
namespace Go.Proofs.YtegggpipggniaaaDoor.Aid
open Go.RowKit Go.Proofs.YtegggpipggniaaaDoorW.PrintWords

theorem wrap_id {x : Int} (h0 : -9223372036854775808 ≤ x) (h1 : x ≤ 9223372036854775807) : wrap64 x = x := by
  unfold wrap64
  omega
theorem wrap_up {i n : Nat} (h : i < n) (hn : n ≤ 4611686018427387904) : wrap64 ((i : Int) + 1) = ((i + 1 : Nat) : Int) := by
  rw [wrap_id (by omega) (by omega)]
  omega
theorem ev_step {α : Type} {g : Nat → Option α} (f : Nat → Option α) {r : α} (h : ∀ k, g (k + 1) = f k) (k : Ev f r) : Ev g r := Ev.step h k
theorem ev_done {α : Type} {g : Nat → Option α} {r : α} (h : ∀ k, g (k + 1) = some r) : Ev g r := Ev.step h (Ev.now r)
theorem ev_is {α : Type} {g : Nat → Option α} {r : α} (h : ∀ k, g k = some r) : Ev g r := ⟨0, fun k _ => h k⟩
theorem ev_call {α β : Type} {g : Nat → Option α} {f : Nat → α → Option β} {a : α} {r : β} (h : Ev g a) (k : Ev (fun n => f n a) r) : Ev (fun n => (g n).bind (f n)) r := Ev.bind h k
theorem ev_cong {α : Type} {g f : Nat → Option α} {r : α} (h : ∀ k, g k = f k) (k : Ev f r) : Ev g r := Ev.congr h k
theorem rd_at {l : List Int} {i : Nat} (h : i < l.length) : rd l (i : Int) = l[i] := by
  unfold rd
  rw [Int.toNat_natCast, List.getD_eq_getElem?_getD, List.getElem?_eq_getElem h]
  rfl
theorem drop_at {α : Type} {l : List α} {i : Nat} (h : i < l.length) : l.drop i = l[i] :: l.drop (i + 1) := List.drop_eq_getElem_cons h
theorem drop_end {α : Type} {l : List α} {i : Nat} (h : l.length ≤ i) : l.drop i = [] := List.drop_eq_nil_of_le h
theorem rdOf_at {α : Type} {z : α} {l : List α} {i : Nat} (h : i < l.length) : rdOf z l (i : Int) = l[i] := by
  unfold rdOf
  rw [Int.toNat_natCast, List.getD_eq_getElem?_getD, List.getElem?_eq_getElem h]
  rfl
theorem take_set_snoc {α : Type} {l : List α} {i : Nat} {v : α} (h : i < l.length) : (l.set i v).take (i + 1) = l.take i ++ [v] := by
  rw [List.take_succ_eq_append_getElem (by simpa using h), List.take_set_of_le (Nat.le_refl i)]
  simp
theorem size_strOfNums (xs : List Int) : (strOfNums xs).size = xs.length := by
  simp [strOfNums, ByteArray.size]
theorem take_pos {α : Type} (p : α → Bool) (l : List α) (hm : l.Pairwise (fun x y => p y = true → p x = true)) : ∀ j (hj : j < l.length), p l[j] = true ↔ j < (l.takeWhile p).length := by
  induction l with
  | nil => intro j hj; simp at hj
  | cons x l ih =>
    intro j hj
    obtain ⟨h1, h2⟩ := List.pairwise_cons.1 hm
    cases hx : p x with
    | true =>
      rw [List.takeWhile_cons_of_pos hx]
      cases j with
      | zero => simp [hx]
      | succ j => simpa using ih h2 j (by simpa using hj)
    | false =>
      rw [List.takeWhile_cons_of_neg (by simp [hx])]
      cases j with
      | zero => simp [hx]
      | succ j =>
        have hj' : j < l.length := by simpa using hj
        have : p l[j] = true → False := fun h => by
          have := h1 l[j] (List.getElem_mem hj') h
          rw [hx] at this
          cases this
        simp
        exact Bool.eq_false_iff.2 this
theorem take_pos_le {α : Type} (p : α → Bool) (l : List α) : (l.takeWhile p).length ≤ l.length := (List.takeWhile_prefix p).length_le
theorem mid_eq {a b : Nat} (h : a + b ≤ 4611686018427387904) : wrap64 ((IntKind.u64.wrap (wrap64 ((a : Int) + (b : Int)))) / 2) = ((((a + b) / 2 : Nat)) : Int) := by
  have e : wrap64 ((a : Int) + (b : Int)) = ((a + b : Nat) : Int) := by rw [wrap_id (by omega) (by omega)]; omega
  have e2 : IntKind.u64.wrap (((a + b : Nat)) : Int) = ((a + b : Nat) : Int) := by
    have : IntKind.u64.wrap (((a + b : Nat)) : Int) = (((a + b : Nat)) : Int) % 18446744073709551616 := rfl
    rw [this]
    omega
  rw [e, e2, wrap_id (by omega) (by omega)]
  omega
end Go.Proofs.YtegggpipggniaaaDoor.Aid

namespace Go.Proofs.YtegggpipggniaaaDoor.Qa
open Go.RowKit Go.Proofs.YtegggpipggniaaaDoorW.PrintWords Go.Proofs.YtegggpipggniaaaDoorW.PrintLast Go.Proofs.YtegggpipggniaaaDoor.Aid
set_option linter.unusedVariables false
set_option linter.unusedSimpArgs false
theorem rd_T32_at {l : List (S32)} {i : Nat} (h : i < l.length) : rd_T32 l (i : Int) = l[i] := by
  unfold rd_T32
  rw [Int.toNat_natCast, List.getD_eq_getElem?_getD, List.getElem?_eq_getElem h]
  rfl
theorem rd_T32_set {l : List (S32)} {i : Nat} {v : S32} (h : i < l.length) : rd_T32 (l.set i v) (i : Int) = v := by
  rw [rd_T32_at (by simpa using h)]
  simp
end Go.Proofs.YtegggpipggniaaaDoor.Qa
/- A number within bounds, by the program and by the reference. -/
namespace Go.Proofs.YtegggpipggniaaaDoor.Pure
open Go.RowKit Go.Proofs.YtegggpipggniaaaDoor.Qa Go.Proofs.YtegggpipggniaaaDoorW.PrintWords Go.Proofs.YtegggpipggniaaaDoorW.PrintLast Go.Proofs.YtegggpipggniaaaDoor.Aid
theorem spec_l1In_is (a lo hi : Int) : spec_l1In.f a lo hi = some (decide (lo ≤ a ∧ a ≤ hi)) := by
  unfold spec_l1In.f
  by_cases h : lo ≤ a
  · rw [if_pos h]; simp [h]
  · rw [if_neg h]; simp [h]
theorem impl_within_is (a lo hi : Int) : impl_within.f a lo hi = some (decide (lo ≤ a ∧ a ≤ hi)) := by
  unfold impl_within.f
  by_cases h : lo ≤ a
  · rw [if_pos h]; simp [h]
  · rw [if_neg h]; simp [h]
end Go.Proofs.YtegggpipggniaaaDoor.Pure

/- Names: what is one, by the program and by the reference: the same, for every text. -/
namespace Go.Proofs.YtegggpipggniaaaDoor.Pure
open Go.RowKit Go.Proofs.YtegggpipggniaaaDoor.Qa Go.Proofs.YtegggpipggniaaaDoorW.PrintWords Go.Proofs.YtegggpipggniaaaDoorW.PrintLast Go.Proofs.YtegggpipggniaaaDoor.Aid

theorem bt_at {s : ByteArray} {i : Nat} (h : i < s.data.toList.length) : bt s (i : Int) = ((s.data.toList[i]).toNat : Int) := by
  have h' : (i : Int).toNat < s.size := by rw [Int.toNat_natCast]; exact h
  unfold bt
  rw [dif_pos h']
  rfl
theorem size_list (s : ByteArray) : s.size = s.data.toList.length := rfl
def okU (c : UInt8) : Bool := (decide (97 ≤ c.toNat) && decide (c.toNat ≤ 122)) || (decide (48 ≤ c.toNat) && decide (c.toNat ≤ 57))
def nameB (s : ByteArray) : Bool := s.data.toList.all okU && decide (1 ≤ (s.size : Int) ∧ (s.size : Int) ≤ 8)
theorem okU_true {c : UInt8} (h : okU c = true) : (97 ≤ (c.toNat : Int) ∧ (c.toNat : Int) ≤ 122) ∨ (48 ≤ (c.toNat : Int) ∧ (c.toNat : Int) ≤ 57) := by
  unfold okU at h
  simp only [Bool.or_eq_true, Bool.and_eq_true, decide_eq_true_eq] at h
  omega
theorem okU_false {c : UInt8} (h : okU c = false) : ¬ ((97 ≤ (c.toNat : Int) ∧ (c.toNat : Int) ≤ 122) ∨ (48 ≤ (c.toNat : Int) ∧ (c.toNat : Int) ≤ 57)) := by
  intro g
  have : okU c = true := by
    unfold okU
    simp only [Bool.or_eq_true, Bool.and_eq_true, decide_eq_true_eq]
    omega
  rw [h] at this
  cases this
theorem name_spec_l0 (s : ByteArray) (hl : s.size ≤ 4611686018427387904) (d : Nat) : ∀ (i : Nat), i + d = s.size → Ev (fun k => spec_l1Name.l0 k s (i : Int)) ((s.data.toList.drop i).all okU && decide (1 ≤ (s.size : Int) ∧ (s.size : Int) ≤ 8)) := by
  have hs := size_list s
  induction d with
  | zero =>
    intro i h
    rw [drop_end (by omega)]
    exact ev_done fun k => by simp only [spec_l1Name.l0]; rw [if_neg (by omega), spec_l1In_is]; rfl
  | succ d ih =>
    intro i h
    have hi : i < s.data.toList.length := by omega
    rw [drop_at hi, List.all_cons]
    cases c : okU s.data.toList[i] with
    | true =>
      have hc := okU_true c
      rw [Bool.true_and]
      refine ev_step (fun k => spec_l1Name.l0 k s ((i + 1 : Nat) : Int)) (fun k => ?_) (ih (i + 1) (by omega))
      simp only [spec_l1Name.l0]; rw [if_pos (by omega), if_pos (by omega), bt_at hi, wrap_up hi (by omega)]
      by_cases h1 : ((s.data.toList[i]).toNat : Int) < 97
      · rw [if_pos h1, if_neg (by omega), if_neg (by omega)]
      · rw [if_neg h1, if_neg (by omega)]
    | false =>
      have hc := okU_false c
      rw [Bool.false_and, Bool.false_and]
      refine ev_done fun k => ?_
      simp only [spec_l1Name.l0]; rw [if_pos (by omega), if_pos (by omega), bt_at hi]
      by_cases h1 : ((s.data.toList[i]).toNat : Int) < 97
      · rw [if_pos h1]
        by_cases h2 : ((s.data.toList[i]).toNat : Int) < 48
        · rw [if_pos h2]
        · rw [if_neg h2, if_pos (by omega)]
      · rw [if_neg h1, if_pos (by omega), if_neg (by omega), if_pos (by omega)]
theorem name_spec (s : ByteArray) (hl : s.size ≤ 4611686018427387904) : Ev (fun k => spec_l1Name.f k s) (nameB s) := by
  have h := name_spec_l0 s hl s.size 0 (by omega)
  rw [List.drop_zero] at h
  exact h
theorem name_impl_l0 (s : ByteArray) (hl : s.size ≤ 4611686018427387904) (d : Nat) : ∀ (i : Nat), i + d = s.size → Ev (fun k => impl_isName.l0 k s (s.size : Int) (i : Int)) ((s.data.toList.drop i).all okU && decide (1 ≤ (s.size : Int) ∧ (s.size : Int) ≤ 8)) := by
  have hs := size_list s
  induction d with
  | zero =>
    intro i h
    rw [drop_end (by omega)]
    exact ev_done fun k => by simp only [impl_isName.l0]; rw [if_neg (by omega), impl_within_is]; rfl
  | succ d ih =>
    intro i h
    have hi : i < s.data.toList.length := by omega
    rw [drop_at hi, List.all_cons]
    cases c : okU s.data.toList[i] with
    | true =>
      have hc := okU_true c
      rw [Bool.true_and]
      refine ev_step (fun k => impl_isName.l0 k s (s.size : Int) ((i + 1 : Nat) : Int)) (fun k => ?_) (ih (i + 1) (by omega))
      simp only [impl_isName.l0]; rw [if_pos (by omega), if_pos (by omega), if_pos (by omega), bt_at hi, wrap_up hi (by omega)]
      by_cases h1 : ((s.data.toList[i]).toNat : Int) < 97
      · rw [if_pos h1, if_neg (by omega), if_neg (by omega)]
      · rw [if_neg h1, if_neg (by omega)]
    | false =>
      have hc := okU_false c
      rw [Bool.false_and, Bool.false_and]
      refine ev_done fun k => ?_
      simp only [impl_isName.l0]; rw [if_pos (by omega), if_pos (by omega), if_pos (by omega), bt_at hi]
      by_cases h1 : ((s.data.toList[i]).toNat : Int) < 97
      · rw [if_pos h1]
        by_cases h2 : ((s.data.toList[i]).toNat : Int) < 48
        · rw [if_pos h2]
        · rw [if_neg h2, if_pos (by omega)]
      · rw [if_neg h1, if_pos (by omega), if_neg (by omega), if_pos (by omega)]
theorem name_impl (s : ByteArray) (hl : s.size ≤ 4611686018427387904) : Ev (fun k => impl_isName.f k s) (nameB s) := by
  have h := name_impl_l0 s hl s.size 0 (by omega)
  rw [List.drop_zero] at h
  exact h
end Go.Proofs.YtegggpipggniaaaDoor.Pure

/- Paths: a text cut at the marks, by the program (strings.Split) and by the reference: the same; what is wrong with a path: the same, for every text. -/
namespace Go.Proofs.YtegggpipggniaaaDoor.Pure
open Go.RowKit Go.Proofs.YtegggpipggniaaaDoor.Qa Go.Proofs.YtegggpipggniaaaDoorW.PrintWords Go.Proofs.YtegggpipggniaaaDoorW.PrintLast Go.Proofs.YtegggpipggniaaaDoor.Aid

def mkB (l : List UInt8) : ByteArray := ⟨⟨l⟩⟩
theorem eq_mk {t : ByteArray} {l : List UInt8} (h : t.data.toList = l) : t = mkB l := by subst h; rfl
theorem ext_list (s : ByteArray) (a b : Nat) : (s.extract a b).data.toList = (s.data.toList.drop a).take (b - a) := by
  rw [ByteArray.data_extract, Array.toList_extract]
theorem ext_mk (s : ByteArray) (a b : Nat) : s.extract a b = mkB ((s.data.toList.drop a).take (b - a)) := eq_mk (ext_list s a b)
theorem tl (s : ByteArray) : s.toList = s.data.toList := ByteArray.toList_eq s
def splF : List UInt8 → List UInt8 → List (List UInt8)
  | P, [] => [P]
  | P, c :: l => if c = 47 then P :: splF [] l else splF (P ++ [c]) l
theorem splF_len (l : List UInt8) : ∀ P, (splF P l).length = l.count 47 + 1 := by
  induction l with
  | nil => intro P; rfl
  | cons c l ih =>
    intro P
    unfold splF
    by_cases h : c = 47
    · rw [if_pos h, List.length_cons, ih, h, List.count_cons_self]
    · rw [if_neg h, ih, List.count_cons_of_ne (by simpa using h)]
theorem splF_none (l : List UInt8) : ∀ P, l.count 47 = 0 → splF P l = [P ++ l] := by
  induction l with
  | nil => intro P _; simp [splF]
  | cons c l ih =>
    intro P h
    have hc : c ≠ 47 := fun e => by rw [e, List.count_cons_self] at h; omega
    rw [List.count_cons_of_ne (by simpa using hc)] at h
    unfold splF
    rw [if_neg hc, ih _ h, List.append_assoc]
    rfl
theorem splF_some (l : List UInt8) (h : 0 < l.count 47) : ∃ p, p < l.length ∧ Lib.indexByte l 47 = (p : Int) ∧ (∀ P, splF P l = (P ++ l.take p) :: splF [] (l.drop (p + 1))) ∧ (l.drop (p + 1)).count 47 + 1 = l.count 47 := by
  induction l with
  | nil => simp at h
  | cons c l ih =>
    by_cases hc : c = 47
    · subst hc
      refine ⟨0, by simp, by unfold Lib.indexByte; rfl, fun P => ?_, by simp⟩
      rw [show splF P (47 :: l) = P :: splF [] l from if_pos rfl]
      simp
    · rw [List.count_cons_of_ne (by simpa using hc)] at h ⊢
      obtain ⟨p, h1, h2, h3, h4⟩ := ih h
      refine ⟨p + 1, by simpa using h1, ?_, fun P => ?_, by simpa using h4⟩
      · unfold Lib.indexByte
        rw [if_neg (by simpa using hc), h2, if_neg (by simp)]
        omega
      · rw [show splF P (c :: l) = splF (P ++ [c]) l from if_neg hc, h3]
        simp
theorem cut_l0 (s : ByteArray) (hs : s.size ≤ 4398046511104) (d : Nat) : ∀ (i f : Nat) (out : List ByteArray), i + d = s.size → f ≤ i → out.length ≤ i → Ev (fun k => spec_l1Cut.l0 k s 47 out (f : Int) (i : Int)) (out ++ (splF ((s.data.toList.drop f).take (i - f)) (s.data.toList.drop i)).map mkB) := by
  have hl := size_list s
  have fin : ∀ (n f : Nat) (out : List ByteArray), s.size < n → Ev (fun k => spec_l1Cut.l0 k s 47 out (f : Int) (n : Int)) out := fun n f out hn => ev_done fun k => by simp only [spec_l1Cut.l0]; rw [if_neg (by omega)]
  induction d with
  | zero =>
    intro i f out h hf ho
    have e : s.data.toList.drop i = [] := drop_end (by omega)
    rw [e]
    have hx := ext_mk s f i
    refine ev_step (fun k => spec_l1Cut.l0 k s 47 (out ++ [s.extract f i]) ((i + 1 : Nat) : Int) ((i + 1 : Nat) : Int)) (fun k => ?_) ?_
    · simp only [spec_l1Cut.l0]; rw [if_pos (by omega), if_pos (by omega), if_pos (by omega), if_pos (by omega), if_pos (by omega), wrap_id (by omega) (by omega)]; rfl
    · rw [hx]
      exact fin _ _ _ (by omega)
  | succ d ih =>
    intro i f out h hf ho
    have hi : i < s.data.toList.length := by omega
    rw [drop_at hi]
    by_cases c : s.data.toList[i] = 47
    · rw [splF, if_pos c]
      have IH := ih (i + 1) (i + 1) (out ++ [s.extract f i]) (by omega) (by omega) (by simp; omega)
      rw [Nat.sub_self, List.take_zero] at IH
      have e : out ++ (((s.data.toList.drop f).take (i - f)) :: splF [] (s.data.toList.drop (i + 1))).map mkB = (out ++ [s.extract f i]) ++ (splF [] (s.data.toList.drop (i + 1))).map mkB := by rw [ext_mk, List.map_cons, List.append_assoc]; rfl
      rw [e]
      refine ev_step (fun k => spec_l1Cut.l0 k s 47 (out ++ [s.extract f i]) ((i + 1 : Nat) : Int) ((i + 1 : Nat) : Int)) (fun k => ?_) IH
      simp only [spec_l1Cut.l0]; rw [if_pos (by omega), if_neg (by omega), if_pos (by omega), if_pos (by omega), bt_at hi, c, if_pos (show ((UInt8.toNat 47 : Nat) : Int) = 47 from rfl), if_pos (by omega), if_pos (by omega), if_pos (by omega), wrap_up hi (by omega)]; rfl
    · rw [splF, if_neg c]
      have e : (s.data.toList.drop f).take (i - f) ++ [s.data.toList[i]] = (s.data.toList.drop f).take (i + 1 - f) := by
        rw [show i + 1 - f = (i - f) + 1 by omega, List.take_succ_eq_append_getElem (by rw [List.length_drop]; omega)]
        congr 2
        rw [List.getElem_drop]
        congr 1
        omega
      rw [e]
      refine ev_step (fun k => spec_l1Cut.l0 k s 47 out (f : Int) ((i + 1 : Nat) : Int)) (fun k => ?_) (ih (i + 1) f out (by omega) (by omega) (by omega))
      have hne : ¬ (((s.data.toList[i]).toNat : Int) = 47) := fun e => c (by
        have e2 : (s.data.toList[i]).toNat = 47 := by omega
        exact UInt8.toNat_inj.1 e2)
      simp only [spec_l1Cut.l0]; rw [if_pos (by omega), if_neg (by omega), if_pos (by omega), if_pos (by omega), bt_at hi, if_neg hne, wrap_up hi (by omega)]
def pieces (s : ByteArray) : List ByteArray := (splF [] s.data.toList).map mkB
theorem pieces_len (s : ByteArray) : (pieces s).length = s.data.toList.count 47 + 1 := by unfold pieces; rw [List.length_map, splF_len]
theorem cut_spec (s : ByteArray) (hs : s.size ≤ 4398046511104) : Ev (fun k => spec_l1Cut.f k s 47) (pieces s) := by
  have h := cut_l0 s hs s.size 0 0 [] (by omega) (by omega) (by simp)
  rw [List.nil_append, Nat.sub_self, List.take_zero, List.drop_zero] at h
  exact h
theorem w_up (p : Nat) (h : p ≤ 4611686018427387904) : wrap64 ((p : Int) + 1) = ((p + 1 : Nat) : Int) := by rw [wrap_id (by omega) (by omega)]; omega
theorem w_one (p : Nat) (h : p ≤ 4611686018427387904) : wrap64 ((p : Int) + ((⟨#[47]⟩ : ByteArray).size : Int)) = ((p + 1 : Nat) : Int) := w_up p h
theorem w_zero (p : Nat) (h : p ≤ 4611686018427387904) : wrap64 ((p : Int) + 0) = (p : Int) := by rw [Int.add_zero]; exact wrap_id (by omega) (by omega)
theorem split_l0 (n : Nat) (hn : n ≤ 4398046511104) (d : Nat) : ∀ (i : Nat) (x : ByteArray) (a : List ByteArray), x.data.toList.count 47 = d → i + d = n → a.length = n + 1 → x.size ≤ 4398046511104 → Ev (fun k => strings_genSplit.l0 k x (⟨#[47]⟩ : ByteArray) 0 (n : Int) a (i : Int)) (a.take i ++ (splF [] x.data.toList).map mkB) := by
  have ix : ∀ x : ByteArray, strings_Index.f x (⟨#[47]⟩ : ByteArray) = some (Lib.indexByte x.data.toList 47) := fun x => if_pos rfl
  induction d with
  | zero =>
    intro i x a hc h ha hx
    have e : a.take i ++ (splF [] x.data.toList).map mkB = (a.set i x).take (i + 1) := by
      rw [splF_none _ _ hc, take_set_snoc (by omega)]
      rfl
    rw [e]
    refine ev_done fun k => ?_
    have q0 : ¬ ((i : Int) < (n : Int)) := by omega
    have q1 : (0 : Int) ≤ (i : Int) := by omega
    have q2 : (i : Int) < (a.length : Int) := by omega
    have q3 : (0 : Int) ≤ ((i + 1 : Nat) : Int) := by omega
    have q4 : ((i + 1 : Nat) : Int) ≤ (a.length : Int) := by omega
    have wi := w_up i (by omega)
    simp only [strings_genSplit.l0, wi, q0, q1, q2, q3, q4, if_true, if_false, Int.toNat_natCast]
  | succ d ih =>
    intro i x a hc h ha hx
    obtain ⟨p, h1, h2, h3, h4⟩ := splF_some x.data.toList (by omega)
    have hl := size_list x
    have e1 : x.extract 0 p = mkB (x.data.toList.take p) := by rw [ext_mk]; rfl
    have e2 : (x.extract (p + 1) x.size).data.toList = x.data.toList.drop (p + 1) := by rw [ext_list, List.take_of_length_le (by rw [List.length_drop]; omega)]
    have IH := ih (i + 1) (x.extract (p + 1) x.size) (a.set i (x.extract 0 p)) (by rw [e2]; omega) (by omega) (by rw [List.length_set]; exact ha) (by rw [size_list, e2, List.length_drop]; omega)
    have e : a.take i ++ (splF [] x.data.toList).map mkB = (a.set i (x.extract 0 p)).take (i + 1) ++ (splF [] (x.extract (p + 1) x.size).data.toList).map mkB := by
      rw [e2, h3, take_set_snoc (by omega), List.append_assoc, e1]
      rfl
    rw [e]
    refine ev_step (fun k => strings_genSplit.l0 k (x.extract (p + 1) x.size) (⟨#[47]⟩ : ByteArray) 0 (n : Int) (a.set i (x.extract 0 p)) ((i + 1 : Nat) : Int)) (fun k => ?_) IH
    have q0 : (i : Int) < (n : Int) := by omega
    have q1 : (0 : Int) ≤ (i : Int) := by omega
    have q2 : (i : Int) < (a.length : Int) := by omega
    have q3 : (0 : Int) ≤ ((p + 1 : Nat) : Int) := by omega
    have q4 : ((p + 1 : Nat) : Int) ≤ (x.size : Int) := by omega
    have q5 : (0 : Int) ≤ (p : Int) := by omega
    have q6 : (p : Int) ≤ (x.size : Int) := by omega
    have q7 : ¬ ((p : Int) < 0) := by omega
    have hp_ : p ≤ 4611686018427387904 := by omega
    have hi_ : i ≤ 4611686018427387904 := by omega
    have wi := w_up i hi_
    have w1 := w_one p hp_
    have w0 := w_zero p hp_
    simp only [strings_genSplit.l0]
    rw [if_pos q0, ix, Option.bind_some, h2, if_neg q7, w0, if_pos q5, if_pos q6, if_pos q1, if_pos q2, w1, if_pos q3, if_pos q4, wi, Int.toNat_natCast, Int.toNat_natCast, Int.toNat_natCast]
theorem split_impl (s : ByteArray) (hs : s.size ≤ 1099511627776) : Ev (fun k => strings_Split.f k s (⟨#[47]⟩ : ByteArray)) (pieces s) := by
  have hl := size_list s
  have hle : s.data.toList.count 47 ≤ s.size := by rw [hl]; exact List.count_le_length
  have h := split_l0 (s.data.toList.count 47) (by omega) (s.data.toList.count 47) 0 s (List.replicate (s.data.toList.count 47 + 1) (⟨#[]⟩ : ByteArray)) rfl (by omega) (by simp) (by omega)
  have ct : strings_Count.f s (⟨#[47]⟩ : ByteArray) = some ((s.data.toList.count 47 : Nat) : Int) := if_pos rfl
  have en : wrap64 (((s.data.toList.count 47 : Nat) : Int) + 1) = ((s.data.toList.count 47 + 1 : Nat) : Int) := by rw [wrap_id (by omega) (by omega)]; omega
  have hm : mn ((s.data.toList.count 47 + 1 : Nat) : Int) (wrap64 ((s.size : Int) + 1)) = ((s.data.toList.count 47 + 1 : Nat) : Int) := by
    rw [wrap_id (by omega) (by omega)]
    unfold mn
    by_cases h : (s.size : Int) + 1 < ((s.data.toList.count 47 + 1 : Nat) : Int)
    · omega
    · rw [if_neg h]
  have hm1 : wrap64 (((s.data.toList.count 47 + 1 : Nat) : Int) - 1) = ((s.data.toList.count 47 : Nat) : Int) := by rw [wrap_id (by omega) (by omega)]; omega
  rw [List.take_zero, List.nil_append] at h
  unfold strings_Split.f
  refine ev_call (a := pieces s) ?_ (Ev.now _)
  unfold strings_genSplit.f
  refine ev_cong (fun k => (if_neg (by omega)).trans ((if_neg (by rw [tl]; simp)).trans (if_pos (by omega)))) ?_
  simp only [ct, Option.bind_some, en]
  refine ev_step _ (fun k => ?_) h
  simp only [strings_genSplit.j0]; rw [hm, if_pos (by omega), if_pos (by omega), hm1, Int.toNat_natCast]; rfl
end Go.Proofs.YtegggpipggniaaaDoor.Pure

/- What is wrong with a path: by the program and by the reference the same, for every text. -/
namespace Go.Proofs.YtegggpipggniaaaDoor.Pure
open Go.RowKit Go.Proofs.YtegggpipggniaaaDoor.Qa Go.Proofs.YtegggpipggniaaaDoorW.PrintWords Go.Proofs.YtegggpipggniaaaDoorW.PrintLast Go.Proofs.YtegggpipggniaaaDoor.Aid

theorem splF_size (l : List UInt8) : ∀ P, ∀ x ∈ splF P l, x.length ≤ P.length + l.length := by
  induction l with
  | nil => intro P x hx; rw [splF, List.mem_singleton] at hx; subst hx; omega
  | cons c l ih =>
    intro P x hx
    unfold splF at hx
    by_cases h : c = 47
    · rw [if_pos h] at hx
      rcases List.mem_cons.1 hx with rfl | hx
      · omega
      · have := ih [] x hx; simp at this ⊢; omega
    · rw [if_neg h] at hx
      have := ih _ x hx
      simp at this ⊢
      omega
theorem pieces_size (s : ByteArray) : ∀ x ∈ pieces s, x.size ≤ s.size := by
  intro x hx
  obtain ⟨l, hl, rfl⟩ := List.mem_map.1 hx
  have := splF_size s.data.toList [] l hl
  have e : (mkB l).size = l.length := rfl
  rw [List.length_nil] at this
  rw [e, size_list s]
  omega
def headR (s : ByteArray) : ByteArray := rdOf ByteArray.empty (pieces s) 0
def namesR (s : ByteArray) : List ByteArray × Bool :=
  if s.data.toList = [47] then ([], true) else if (pieces s).length < 2 then ([], false) else if (headR s).data.toList = [] then (if ((pieces s).drop 1).all nameB = true then ((pieces s).drop 1, true) else ([], false)) else ([], false)
def faultR (s : ByteArray) : Int :=
  if 24 < s.size then 2 else if s.data.toList = [47] then 0 else if 5 < (pieces s).length then 2 else if (namesR s).2 = true then 0 else 5
theorem head_bne (s : ByteArray) : ((rdOf ByteArray.empty (pieces s) 0).toList != ([] : List UInt8)) = !decide ((headR s).data.toList = []) := by
  unfold headR
  rw [tl]
  by_cases h : (rdOf ByteArray.empty (pieces s) 0).data.toList = []
  · rw [h]; rfl
  · rw [decide_eq_false h]
    exact bne_iff_ne.2 h
theorem fault_l0 (W : List ByteArray) (hW : ∀ x ∈ W, x.size ≤ 1048576) (hl : W.length ≤ 1048576) (d : Nat) : ∀ (i : Nat), i + d = W.length → Ev (fun k => impl_PathFault.l0 k W (W.length : Int) (i : Int)) (if (W.drop i).all nameB = true then 0 else 5) := by
  induction d with
  | zero =>
    intro i h
    rw [drop_end (by omega)]
    exact ev_done fun k => by simp only [impl_PathFault.l0]; rw [if_neg (by omega)]; rfl
  | succ d ih =>
    intro i h
    have hi : i < W.length := by omega
    have hx := hW W[i] (List.getElem_mem hi)
    rw [drop_at hi, List.all_cons]
    refine ev_step _ (fun k => by simp only [impl_PathFault.l0]; rw [if_pos (by omega), if_pos (by omega), if_pos (by omega), rdOf_at hi, wrap_up hi (by omega)]) (ev_call (name_impl W[i] (by omega)) ?_)
    cases c : nameB W[i] with
    | true => exact ev_cong (fun k => if_pos rfl) (by rw [Bool.true_and]; exact ih (i + 1) (by omega))
    | false => exact ev_is fun k => if_neg (by simp)
theorem names_l0 (W : List ByteArray) (hW : ∀ x ∈ W, x.size ≤ 1048576) (hl : W.length ≤ 1048576) (h1 : 1 ≤ W.length) (d : Nat) : ∀ (i : Nat), i + d = W.length → Ev (fun k => spec_l1Names.l0 k W (i : Int)) (if (W.drop i).all nameB = true then (W.drop 1, true) else ([], false)) := by
  induction d with
  | zero =>
    intro i h
    rw [drop_end (by omega)]
    exact ev_done fun k => by simp only [spec_l1Names.l0]; rw [if_neg (by omega), if_pos (by omega)]; rfl
  | succ d ih =>
    intro i h
    have hi : i < W.length := by omega
    have hx := hW W[i] (List.getElem_mem hi)
    rw [drop_at hi, List.all_cons]
    refine ev_step _ (fun k => by simp only [spec_l1Names.l0]; rw [if_pos (by omega), if_pos (by omega), rdOf_at hi, wrap_up hi (by omega)]) (ev_call (name_spec W[i] (by omega)) ?_)
    cases c : nameB W[i] with
    | true => exact ev_cong (fun k => if_pos rfl) (by rw [Bool.true_and]; exact ih (i + 1) (by omega))
    | false => exact ev_is fun k => if_neg (by simp)
theorem pieces_le (s : ByteArray) : (pieces s).length ≤ s.size + 1 := by
  have : s.data.toList.count 47 ≤ s.data.toList.length := List.count_le_length
  rw [pieces_len, size_list]
  omega
theorem names_spec (s : ByteArray) (hs : s.size ≤ 24) : Ev (fun k => spec_l1Names.f k s) (namesR s) := by
  have hl := pieces_le s
  unfold spec_l1Names.f namesR
  by_cases h : s.data.toList = [47]
  · rw [if_pos h]
    exact ev_is fun k => if_pos (by rw [tl]; exact h)
  · rw [if_neg h]
    refine ev_cong (fun k => if_neg (by rw [tl]; exact h)) (ev_call (cut_spec s (by omega)) ?_)
    by_cases h2 : (pieces s).length < 2
    · rw [if_pos h2]
      exact ev_cong (fun k => if_pos (by omega)) (ev_done fun k => by simp only [spec_l1Names.j0]; exact if_pos trivial)
    · rw [if_neg h2]
      refine ev_cong (fun k => (if_neg (by omega)).trans (if_pos (by omega))) ?_
      rw [head_bne]
      by_cases h3 : (headR s).data.toList = []
      · rw [if_pos h3]
        refine ev_step _ (fun k => by simp only [spec_l1Names.j0]; rw [if_neg (by simp [h3])]) ?_
        exact names_l0 (pieces s) (fun x hx => by have := pieces_size s x hx; omega) (by omega) (by omega) ((pieces s).length - 1) 1 (by omega)
      · rw [if_neg h3]
        exact ev_done fun k => by simp only [spec_l1Names.j0]; exact if_pos (by simp [h3])
theorem fault_spec (s : ByteArray) : Ev (fun k => spec_l1Fault.f k s) (faultR s) := by
  unfold spec_l1Fault.f faultR
  by_cases h : 24 < s.size
  · rw [if_pos h]
    exact ev_cong (fun k => if_pos (by omega)) (ev_done fun k => by simp only [spec_l1Fault.j0]; exact if_pos trivial)
  · rw [if_neg h]
    have tail : Ev (fun k => spec_l1Fault.j0 k s false) (if (namesR s).2 = true then 0 else 5) := by
      refine ev_step _ (fun k => by simp only [spec_l1Fault.j0]; rw [if_neg (by simp)]) (ev_call (names_spec s (by omega)) ?_)
      exact ev_is fun k => by by_cases h4 : (namesR s).2 = true <;> simp [h4]
    refine ev_cong (fun k => if_neg (by omega)) ?_
    by_cases h47 : s.data.toList = [47]
    · rw [if_pos h47]
      refine ev_cong (fun k => if_pos (by rw [tl]; exact h47)) ?_
      have e : (namesR s).2 = true := by unfold namesR; rw [if_pos h47]
      rw [if_pos e] at tail
      exact tail
    · rw [if_neg h47]
      refine ev_cong (fun k => if_neg (by rw [tl]; exact h47)) (ev_call (cut_spec s (by omega)) ?_)
      by_cases h5 : 5 < (pieces s).length
      · rw [if_pos h5, show decide (((pieces s).length : Int) > 5) = true from decide_eq_true (by omega)]
        exact ev_done fun k => by simp only [spec_l1Fault.j0]; exact if_pos trivial
      · rw [if_neg h5, show decide (((pieces s).length : Int) > 5) = false from decide_eq_false (by omega)]
        exact tail
theorem fault_impl (s : ByteArray) : Ev (fun k => impl_PathFault.f k s) (faultR s) := by
  unfold impl_PathFault.f faultR
  by_cases h : 24 < s.size
  · rw [if_pos h]
    exact ev_cong (fun k => if_pos (by omega)) (ev_done fun k => by simp only [impl_PathFault.j0]; exact if_pos trivial)
  · rw [if_neg h]
    have ct : strings_Count.f s (⟨#[47]⟩ : ByteArray) = some ((s.data.toList.count 47 : Nat) : Int) := if_pos rfl
    have pl := pieces_len s
    have hl := pieces_le s
    refine ev_cong (fun k => (if_neg (by omega)).trans (by rw [ct, Option.bind_some])) ?_
    by_cases h47 : s.data.toList = [47]
    · rw [if_pos h47, h47]
      refine ev_done fun k => ?_
      simp only [impl_PathFault.j0]; rw [if_neg (by decide), if_pos (by rw [tl]; exact h47)]
    · rw [if_neg h47]
      by_cases h5 : 5 < (pieces s).length
      · rw [if_pos h5, show decide (((s.data.toList.count 47 : Nat) : Int) > 4) = true from decide_eq_true (by omega)]
        exact ev_done fun k => by simp only [impl_PathFault.j0]; exact if_pos trivial
      · rw [if_neg h5, show decide (((s.data.toList.count 47 : Nat) : Int) > 4) = false from decide_eq_false (by omega)]
        refine ev_step _ (fun k => by simp only [impl_PathFault.j0]; rw [if_neg (by simp), if_neg (by rw [tl]; exact h47)]) (ev_call (split_impl s (by omega)) ?_)
        unfold namesR
        rw [if_neg h47]
        by_cases h2 : (pieces s).length < 2
        · rw [if_pos h2, if_neg (by simp)]
          exact ev_cong (fun k => if_pos (by omega)) (ev_done fun k => by simp only [impl_PathFault.j1]; exact if_pos trivial)
        · rw [if_neg h2]
          refine ev_cong (fun k => (if_neg (by omega)).trans (if_pos (by omega))) ?_
          rw [head_bne]
          by_cases h3 : (headR s).data.toList = []
          · rw [if_pos h3]
            refine ev_step _ (fun k => by simp only [impl_PathFault.j1]; rw [if_neg (by simp [h3]), if_pos (by omega), Option.bind_some]) ?_
            have := fault_l0 ((pieces s).drop 1) (fun x hx => by have := pieces_size s x (List.mem_of_mem_drop hx); omega) (by rw [List.length_drop]; omega) ((pieces s).drop 1).length 0 (by omega)
            rw [List.drop_zero] at this
            by_cases h6 : ((pieces s).drop 1).all nameB = true
            · rw [if_pos h6] at this ⊢; exact this
            · rw [if_neg h6] at this ⊢; exact this
          · rw [if_neg h3, if_neg (by simp)]
            exact ev_done fun k => by simp only [impl_PathFault.j1]; exact if_pos (by simp [h3])
theorem fault_zero {s : ByteArray} (h : faultR s = 0) : s.size ≤ 24 ∧ (s.data.toList = [47] ∨ s.data.toList ≠ [47] ∧ namesR s = ((pieces s).drop 1, true) ∧ 0 < s.data.toList.count 47) := by
  unfold faultR at h
  by_cases h1 : 24 < s.size
  · rw [if_pos h1] at h; omega
  · rw [if_neg h1] at h
    refine ⟨by omega, ?_⟩
    by_cases h2 : s.data.toList = [47]
    · exact .inl h2
    · rw [if_neg h2] at h
      refine .inr ⟨h2, ?_⟩
      by_cases h5 : 5 < (pieces s).length
      · rw [if_pos h5] at h; omega
      · rw [if_neg h5] at h
        have pl := pieces_len s
        by_cases h6 : (namesR s).2 = true
        · have h7 := h6
          unfold namesR at h6 ⊢
          rw [if_neg h2] at h6 ⊢
          by_cases h8 : (pieces s).length < 2
          · rw [if_pos h8] at h6; cases h6
          · rw [if_neg h8] at h6 ⊢
            by_cases h9 : (headR s).data.toList = []
            · rw [if_pos h9] at h6 ⊢
              by_cases h10 : ((pieces s).drop 1).all nameB = true
              · rw [if_pos h10]; exact ⟨rfl, by omega⟩
              · rw [if_neg h10] at h6; cases h6
            · rw [if_neg h9] at h6; cases h6
        · rw [if_neg h6] at h; omega
end Go.Proofs.YtegggpipggniaaaDoor.Pure

/- The last mark of a path: by the program (strings.LastIndex) and by the reference the same. -/
namespace Go.Proofs.YtegggpipggniaaaDoor.Pure
open Go.RowKit Go.Proofs.YtegggpipggniaaaDoor.Qa Go.Proofs.YtegggpipggniaaaDoorW.PrintWords Go.Proofs.YtegggpipggniaaaDoorW.PrintLast Go.Proofs.YtegggpipggniaaaDoor.Aid
theorem last_exists (l : List UInt8) (h : 0 < l.count 47) : ∃ (p : Nat) (hp : p < l.length), l[p] = 47 ∧ ∀ (j : Nat) (hj : j < l.length), p < j → l[j] ≠ 47 := by
  induction l with
  | nil => simp at h
  | cons c l ih =>
    by_cases h0 : 0 < l.count 47
    · obtain ⟨p, hp, h1, h2⟩ := ih h0
      refine ⟨p + 1, by simpa using hp, by simpa using h1, fun j hj hlt => ?_⟩
      cases j with
      | zero => omega
      | succ j => simpa using h2 j (by simpa using hj) (by omega)
    · have hc : c = 47 := by
        by_cases hc : c = 47
        · exact hc
        · rw [List.count_cons_of_ne (by simpa using hc)] at h
          exact absurd h h0
      refine ⟨0, by simp, by simpa using hc, fun j hj hlt => ?_⟩
      cases j with
      | zero => omega
      | succ j =>
        intro e
        have e' : l[j]'(by simpa using hj) = 47 := by simpa using e
        exact h0 (List.count_pos_iff.2 (e' ▸ List.getElem_mem _))
theorem ne_int {c : UInt8} (h : c ≠ 47) : ¬ ((c.toNat : Int) = 47) := fun e => h (by
  have e2 : c.toNat = 47 := by omega
  exact UInt8.toNat_inj.1 e2)
theorem last_spec_l0 (s : ByteArray) (hs : s.size ≤ 24) (p : Nat) (hp : p < s.data.toList.length) (h1 : s.data.toList[p] = 47) (h2 : ∀ (j : Nat) (hj : j < s.data.toList.length), p < j → s.data.toList[j] ≠ 47) (d : Nat) : ∀ (i : Nat) (x : Int), i + d = s.size → (p < i → x = (p : Int)) → Ev (fun k => spec_l1Last.l0 k s x (i : Int)) (p : Int) := by
  have hl := size_list s
  induction d with
  | zero =>
    intro i x h hx
    rw [hx (by omega)]
    exact ev_done fun k => by simp only [spec_l1Last.l0]; rw [if_neg (by omega)]
  | succ d ih =>
    intro i x h hx
    have hi : i < s.data.toList.length := by omega
    have q0 : (i : Int) < (s.size : Int) := by omega
    have q1 : (0 : Int) ≤ (i : Int) := by omega
    have wi := w_up i (by omega)
    by_cases c : s.data.toList[i] = 47
    · have hip : ¬ p < i := fun hlt => h2 i hi hlt c
      refine ev_step (fun k => spec_l1Last.l0 k s (i : Int) ((i + 1 : Nat) : Int)) (fun k => ?_) (ih (i + 1) (i : Int) (by omega) (fun hlt => by omega))
      simp only [spec_l1Last.l0]; rw [if_pos q0, if_pos q1, bt_at hi, c, if_pos (show ((UInt8.toNat 47 : Nat) : Int) = 47 from rfl), wi]
    · have hip : i ≠ p := fun e => c (by subst e; exact h1)
      refine ev_step (fun k => spec_l1Last.l0 k s x ((i + 1 : Nat) : Int)) (fun k => ?_) (ih (i + 1) x (by omega) (fun hlt => hx (by omega)))
      simp only [spec_l1Last.l0]; rw [if_pos q0, if_pos q1, bt_at hi, if_neg (ne_int c), wi]
theorem last_impl_l0 (s : ByteArray) (hs : s.size ≤ 24) (p : Nat) (hp : p < s.data.toList.length) (h1 : s.data.toList[p] = 47) (h2 : ∀ (j : Nat) (hj : j < s.data.toList.length), p < j → s.data.toList[j] ≠ 47) (d : Nat) : p + d < s.data.toList.length → Ev (fun k => bytealg_LastIndexByteString.l0 k s 47 ((p + d : Nat) : Int)) (p : Int) := by
  have hl := size_list s
  induction d with
  | zero =>
    intro _
    have q0 : ((p + 0 : Nat) : Int) < (s.size : Int) := by omega
    have q1 : (0 : Int) ≤ ((p + 0 : Nat) : Int) := by omega
    refine ev_done fun k => ?_
    simp only [bytealg_LastIndexByteString.l0]; rw [if_pos q1, if_pos q1, if_pos q0, bt_at (show p + 0 < s.data.toList.length from hp), if_pos (by simp only [Nat.add_zero, h1]; rfl)]
    rfl
  | succ d ih =>
    intro hd
    have q0 : ((p + (d + 1) : Nat) : Int) < (s.size : Int) := by omega
    have q1 : (0 : Int) ≤ ((p + (d + 1) : Nat) : Int) := by omega
    have wi : wrap64 (((p + (d + 1) : Nat) : Int) - 1) = ((p + d : Nat) : Int) := by rw [wrap_id (by omega) (by omega)]; omega
    refine ev_step (fun k => bytealg_LastIndexByteString.l0 k s 47 ((p + d : Nat) : Int)) (fun k => ?_) (ih (by omega))
    simp only [bytealg_LastIndexByteString.l0]; rw [if_pos q1, if_pos q1, if_pos q0, bt_at hd, if_neg (ne_int (h2 _ hd (by omega))), wi]
theorem last_both (s : ByteArray) (hs : s.size ≤ 24) (h : 0 < s.data.toList.count 47) : ∃ (p : Nat) (hp : p < s.data.toList.length), s.data.toList[p] = 47 ∧ Ev (fun k => spec_l1Last.f k s) (p : Int) ∧ Ev (fun k => strings_LastIndex.f k s (⟨#[47]⟩ : ByteArray)) (p : Int) := by
  have hl := size_list s
  obtain ⟨p, hp, h1, h2⟩ := last_exists _ h
  refine ⟨p, hp, h1, last_spec_l0 s hs p hp h1 h2 s.size 0 0 (by omega) (fun h => by omega), ?_⟩
  have hd := last_impl_l0 s hs p hp h1 h2 (s.data.toList.length - 1 - p) (by omega)
  have e : wrap64 ((s.size : Int) - 1) = ((p + (s.data.toList.length - 1 - p) : Nat) : Int) := by rw [wrap_id (by omega) (by omega)]; omega
  have e1 : ((⟨#[47]⟩ : ByteArray).size : Int) = 1 := rfl
  have e2 : bt (⟨#[47]⟩ : ByteArray) 0 = 47 := rfl
  unfold strings_LastIndex.f
  rw [e1, e2]
  refine ev_cong (fun k => (if_neg (by omega)).trans ((if_pos rfl).trans (if_pos (by omega)))) (ev_call (a := (p : Int)) ?_ (Ev.now _))
  unfold bytealg_LastIndexByteString.f
  rw [e]
  exact hd
theorem parted_both (s : ByteArray) (hs : s.size ≤ 24) (h : 0 < s.data.toList.count 47) : ∃ (u n : ByteArray), Ev (fun k => impl_parted.f k s) (u, n) ∧ (∃ p : Nat, p < s.size ∧ n = s.extract (p + 1) s.size ∧ u = (if p = 0 then (⟨#[47]⟩ : ByteArray) else s.extract 0 p) ∧ Ev (fun k => spec_l1Last.f k s) (p : Int)) := by
  have hl := size_list s
  obtain ⟨p, hp, h1, h2, h3⟩ := last_both s hs h
  have hz : s.extract 0 1 = mkB [s.data.toList[0]] := by
    rw [ext_mk]
    congr 1
    rw [show (1 : Nat) - 0 = 0 + 1 from rfl, List.drop_zero, List.take_succ_eq_append_getElem (by omega)]
    rfl
  refine ⟨if p = 0 then (⟨#[47]⟩ : ByteArray) else s.extract 0 p, s.extract (p + 1) s.size, ?_, p, by omega, rfl, rfl, h2⟩
  unfold impl_parted.f
  refine ev_call h3 (ev_is fun k => ?_)
  have wi := w_up p (by omega)
  have q3 : (0 : Int) ≤ ((p + 1 : Nat) : Int) := by omega
  have q4 : ((p + 1 : Nat) : Int) ≤ (s.size : Int) := by omega
  by_cases c : p = 0
  · subst c
    have m : mx ((0 : Nat) : Int) 1 = 1 := rfl
    rw [m, if_pos (by omega), if_pos (by omega), wi, if_pos q3, if_pos q4, if_pos rfl, show ((1 : Int).toNat) = 1 from rfl, hz, h1, Int.toNat_natCast]
    rfl
  · have m : mx (p : Int) 1 = (p : Int) := by unfold mx; rw [if_neg (by omega)]
    rw [m, if_pos (by omega), if_pos (by omega), wi, if_pos q3, if_pos q4, if_neg c, Int.toNat_natCast, Int.toNat_natCast]
end Go.Proofs.YtegggpipggniaaaDoor.Pure

/- Texts in order: what a comparison of two texts says of their bytes; searches in rising lists. -/
namespace Go.Proofs.YtegggpipggniaaaDoor.Aid
open Go.RowKit Go.Proofs.YtegggpipggniaaaDoorW.PrintWords

theorem u8_tri (a b : UInt8) (h1 : ¬ a < b) (h2 : ¬ b < a) : a = b := by
  have e1 : ¬ a.toNat < b.toNat := h1
  have e2 : ¬ b.toNat < a.toNat := h2
  exact UInt8.toNat_inj.1 (by omega)
theorem bl_lt : ∀ (x y : List UInt8), Op.bytesLess x y = decide (x < y)
  | [], [] => by simp [Op.bytesLess]
  | _ :: _, [] => by simp [Op.bytesLess]
  | [], _ :: _ => by simp [Op.bytesLess]
  | a :: x, b :: y => by
    rw [Op.bytesLess, bl_lt x y]
    rw [Bool.eq_iff_iff]
    simp [List.cons_lt_cons_iff]
theorem cmp_is : ∀ (x y : List UInt8), Lib.compareBytes x y = if x < y then -1 else if x = y then 0 else 1
  | [], [] => by simp [Lib.compareBytes]
  | _ :: _, [] => by simp [Lib.compareBytes]
  | [], _ :: _ => by simp [Lib.compareBytes]
  | a :: x, b :: y => by
    rw [Lib.compareBytes, cmp_is x y]
    by_cases h1 : a < b
    · rw [if_pos h1, if_pos (List.cons_lt_cons_iff.2 (.inl h1))]
    · rw [if_neg h1]
      by_cases h2 : b < a
      · have hne : a ≠ b := fun e => by subst e; exact h1 h2
        rw [if_pos h2, if_neg (fun h => by
          rcases List.cons_lt_cons_iff.1 h with h | ⟨h, _⟩
          · exact h1 h
          · exact hne h), if_neg (fun h => hne (List.cons.inj h).1)]
      · have e := u8_tri a b h1 h2
        subst e
        rw [if_neg h2]
        by_cases h3 : x < y
        · rw [if_pos h3, if_pos (List.cons_lt_cons_iff.2 (.inr ⟨rfl, h3⟩))]
        · have h5 : ¬ (a :: x < a :: y) := fun h => by
            rcases List.cons_lt_cons_iff.1 h with h | ⟨_, h⟩
            · exact h1 h
            · exact h3 h
          rw [if_neg h3, if_neg h5]
          by_cases h4 : x = y
          · subst h4
            rw [if_pos rfl, if_pos rfl]
          · have h6 : ¬ (a :: x = a :: y) := fun h => h4 (List.cons.inj h).2
            rw [if_neg h4, if_neg h6]
theorem lt_irr (x : List UInt8) : ¬ x < x := List.lt_irrefl x
theorem lt_tr {x y z : List UInt8} (h : x < y) (k : y < z) : x < z := List.lt_trans h k
theorem lt_tri {x y : List UInt8} (h : ¬ x < y) (k : ¬ x = y) : y < x := by
  have := cmp_is x y
  rw [if_neg h, if_neg k] at this
  rcases Decidable.em (y < x) with c | c
  · exact c
  · exact absurd (List.le_antisymm c h) k
def posK {α : Type} (key : α → List UInt8) (l : List α) (q : List UInt8) : Nat := (l.takeWhile (fun z => decide (key z < q))).length
def hereK {α : Type} (key : α → List UInt8) (l : List α) (q : List UInt8) : Bool := match l[posK key l q]? with
  | some z => decide (key z = q)
  | none => false
def Rises {α : Type} (key : α → List UInt8) (l : List α) : Prop := l.Pairwise (fun x y => key x < key y)
theorem posK_le {α : Type} (key : α → List UInt8) (l : List α) (q : List UInt8) : posK key l q ≤ l.length := take_pos_le _ l
theorem posK_iff {α : Type} {key : α → List UInt8} {l : List α} (h : Rises key l) (q : List UInt8) (j : Nat) (hj : j < l.length) : key l[j] < q ↔ j < posK key l q := by
  have := take_pos (fun z : α => decide (key z < q)) l (h.imp (fun {x y} hxy hy => decide_eq_true (lt_tr hxy (of_decide_eq_true hy)))) j hj
  rw [decide_eq_true_eq] at this
  exact this
theorem hereK_lt {α : Type} {key : α → List UInt8} {l : List α} {q : List UInt8} (h : hereK key l q = true) : posK key l q < l.length := by
  unfold hereK at h
  cases hp : l[posK key l q]? with
  | none => rw [hp] at h; cases h
  | some s => exact (List.getElem?_eq_some_iff.1 hp).1
theorem hereK_eq {α : Type} {key : α → List UInt8} {l : List α} {q : List UInt8} (h : hereK key l q = true) : key (l[posK key l q]'(hereK_lt h)) = q := by
  have hp := hereK_lt h
  unfold hereK at h
  rw [List.getElem?_eq_getElem hp] at h
  exact of_decide_eq_true h
theorem hereK_at {α : Type} {key : α → List UInt8} {l : List α} (h : Rises key l) (j : Nat) (hj : j < l.length) : posK key l (key l[j]) = j ∧ hereK key l (key l[j]) = true := by
  have h1 := (posK_iff h (key l[j]) j hj)
  have h2 : ¬ j < posK key l (key l[j]) := fun c => lt_irr _ (h1.2 c)
  have h3 : ¬ posK key l (key l[j]) < j := fun c => by
    have hp : posK key l (key l[j]) < l.length := by omega
    have := (List.pairwise_iff_getElem.1 h) _ _ hp hj c
    have := (posK_iff h (key l[j]) _ hp).1 this
    omega
  have e : posK key l (key l[j]) = j := by omega
  refine ⟨e, ?_⟩
  unfold hereK
  rw [e, List.getElem?_eq_getElem hj]
  exact decide_eq_true rfl
theorem hereK_mem {α : Type} {key : α → List UInt8} {l : List α} (h : Rises key l) {z : α} (hz : z ∈ l) : hereK key l (key z) = true := by
  obtain ⟨j, hj, rfl⟩ := List.getElem_of_mem hz
  exact (hereK_at h j hj).2
end Go.Proofs.YtegggpipggniaaaDoor.Aid

/- What is wrong with a tree, in plain words of lists; paths' parents. -/
namespace Go.Proofs.YtegggpipggniaaaDoor.Pure
open Go.RowKit Go.Proofs.YtegggpipggniaaaDoor.Qa Go.Proofs.YtegggpipggniaaaDoorW.PrintWords Go.Proofs.YtegggpipggniaaaDoorW.PrintLast Go.Proofs.YtegggpipggniaaaDoor.Aid

theorem splF_head : ∀ (l P : List UInt8), P ≠ [] → ∃ x r, splF P l = x :: r ∧ x ≠ []
  | [], P, h => ⟨P, [], rfl, h⟩
  | c :: l, P, h => by
    unfold splF
    by_cases hc : c = 47
    · rw [if_pos hc]; exact ⟨P, _, rfl, h⟩
    · rw [if_neg hc]; exact splF_head l _ (by simp)
theorem path_mark {s : ByteArray} (h : faultR s = 0) : s.size ≤ 24 ∧ (∃ t, s.data.toList = 47 :: t) ∧ 0 < s.data.toList.count 47 := by
  have hl := size_list s
  obtain ⟨h1, h2⟩ := fault_zero h
  refine ⟨h1, ?_⟩
  rcases h2 with h2 | ⟨h2, h3, h4⟩
  · rw [h2]; exact ⟨⟨[], rfl⟩, by decide⟩
  · refine ⟨?_, h4⟩
    have hn : (namesR s).2 = true := by rw [h3]
    unfold namesR at hn
    rw [if_neg h2] at hn
    by_cases h5 : (pieces s).length < 2
    · rw [if_pos h5] at hn; cases hn
    · rw [if_neg h5] at hn
      by_cases h6 : (headR s).data.toList = []
      · cases hs : s.data.toList with
        | nil => rw [hs] at h4; simp at h4
        | cons c t =>
          by_cases hc : c = 47
          · exact ⟨t, by rw [hc]⟩
          · exfalso
            obtain ⟨x, r, hx, hne⟩ := splF_head t [c] (by simp)
            have e : pieces s = (x :: r).map mkB := by
              unfold pieces
              rw [hs, splF, if_neg hc, List.nil_append, hx]
            unfold headR at h6
            rw [e, List.map_cons] at h6
            exact hne h6
      · rw [if_neg h6] at hn; cases hn

theorem up_ex (s : ByteArray) (h : faultR s = 0) : ∃ un : ByteArray × ByteArray, Ev (fun k => impl_parted.f k s) un ∧ ∃ p : Nat, p < s.size ∧ un.2 = s.extract (p + 1) s.size ∧ un.1 = (if p = 0 then (⟨#[47]⟩ : ByteArray) else s.extract 0 p) ∧ Ev (fun k => spec_l1Last.f k s) (p : Int) := by
  obtain ⟨h1, _, h3⟩ := path_mark h
  obtain ⟨u, n, h4, p, h5⟩ := parted_both s h1 h3
  exact ⟨(u, n), h4, p, h5⟩
open Classical in
noncomputable def upN (s : ByteArray) : ByteArray × ByteArray := if h : faultR s = 0 then (up_ex s h).choose else (⟨#[]⟩, ⟨#[]⟩)
noncomputable def upR (s : ByteArray) : ByteArray := (upN s).1
noncomputable def nmR (s : ByteArray) : ByteArray := (upN s).2
theorem upN_spec {s : ByteArray} (h : faultR s = 0) : Ev (fun k => impl_parted.f k s) (upN s) ∧ ∃ p : Nat, p < s.size ∧ nmR s = s.extract (p + 1) s.size ∧ upR s = (if p = 0 then (⟨#[47]⟩ : ByteArray) else s.extract 0 p) ∧ Ev (fun k => spec_l1Last.f k s) (p : Int) := by
  unfold nmR upR upN
  rw [dif_pos h]
  exact (up_ex s h).choose_spec
theorem parted_is {s : ByteArray} (h : faultR s = 0) : Ev (fun k => impl_parted.f k s) (upR s, nmR s) := (upN_spec h).1
theorem parent_is {s : ByteArray} (h : faultR s = 0) : Ev (fun k => spec_l1Parent.f k s) (upR s) := by
  obtain ⟨_, p, h6, _, h8, h9⟩ := upN_spec h
  unfold spec_l1Parent.f
  refine ev_call h9 (ev_is fun k => ?_)
  rw [h8]
  by_cases c : p = 0
  · rw [if_pos (by omega), if_pos c]
  · rw [if_neg (by omega), if_pos (by omega), if_pos (by omega), if_neg c, Int.toNat_natCast]
theorem upR_size {s : ByteArray} (h : faultR s = 0) : (upR s).size ≤ 24 ∧ (nmR s).size ≤ 24 := by
  obtain ⟨_, p, h6, h7, h8, _⟩ := upN_spec h
  have := (path_mark h).1
  have sz : ∀ a b : Nat, b ≤ 24 → (s.extract a b).size ≤ 24 := fun a b hb => by
    rw [size_list, ext_list, List.length_take, List.length_drop]
    omega
  rw [h7, h8]
  refine ⟨?_, sz _ _ this⟩
  by_cases c : p = 0
  · rw [if_pos c]; decide
  · rw [if_neg c]; exact sz _ _ (by omega)
theorem top_fault : faultR (⟨#[47]⟩ : ByteArray) = 0 := by unfold faultR; decide
theorem upR_top (s : ByteArray) (hs : s.data.toList = [47]) : upR s = (⟨#[47]⟩ : ByteArray) := by
  have h : faultR s = 0 := by unfold faultR; rw [if_neg (by rw [size_list, hs]; decide), if_pos hs]
  obtain ⟨_, p, h6, _, h8, _⟩ := upN_spec h
  rw [size_list, hs] at h6
  rw [h8, if_pos (by simpa using h6)]

abbrev ZZ := S32
def pk (z : ZZ) : List UInt8 := z.f0.data.toList
def zIn (z : ZZ) : Bool := decide (0 ≤ z.f1 ∧ z.f1 ≤ 9999) && (decide (0 ≤ z.f2 ∧ z.f2 ≤ 999) && (decide (0 ≤ z.f3 ∧ z.f3 ≤ 9) && decide (0 ≤ z.f4 ∧ z.f4 ≤ 100)))
def zOwn (z : ZZ) : Int := if faultR z.f0 = 0 then (if zIn z = true then 0 else 3) else faultR z.f0
def zOne (prev : Option (List UInt8)) (z : ZZ) : Int := if zOwn z = 0 then (match prev with
  | some p => if p < pk z then 0 else 1
  | none => 0) else zOwn z
def zFrom : Option (List UInt8) → List ZZ → Int
  | _, [] => 0
  | prev, z :: r => if zOne prev z = 0 then zFrom (some (pk z)) r else zOne prev z
theorem zFrom_cons {prev : Option (List UInt8)} {z : ZZ} {r : List ZZ} : zFrom prev (z :: r) = if zOne prev z = 0 then zFrom (some (pk z)) r else zOne prev z := rfl
theorem zOwn_ok {z : ZZ} (h : zOwn z = 0) : faultR z.f0 = 0 ∧ zIn z = true := by
  unfold zOwn at h
  by_cases h1 : faultR z.f0 = 0
  · rw [if_pos h1] at h
    by_cases h2 : zIn z = true
    · exact ⟨h1, h2⟩
    · rw [if_neg h2] at h; cases h
  · rw [if_neg h1] at h; exact absurd h h1
theorem zFrom_ok : ∀ (l : List ZZ) (prev : Option (List UInt8)), zFrom prev l = 0 → (∀ z ∈ l, zOwn z = 0) ∧ Rises pk l ∧ ∀ p, prev = some p → ∀ z ∈ l, p < pk z
  | [], _, _ => ⟨by simp, List.Pairwise.nil, by simp⟩
  | z :: r, prev, h => by
    rw [zFrom_cons] at h
    by_cases h1 : zOne prev z = 0
    · rw [if_pos h1] at h
      obtain ⟨g1, g2, g3⟩ := zFrom_ok r (some (pk z)) h
      have hg : zOwn z = 0 := by
        unfold zOne at h1
        by_cases c : zOwn z = 0
        · exact c
        · rw [if_neg c] at h1; exact h1
      have hp : ∀ p, prev = some p → p < pk z := by
        intro p hp
        subst hp
        unfold zOne at h1
        rw [if_pos hg] at h1
        by_cases c : p < pk z
        · exact c
        · simp [c] at h1
      refine ⟨?_, List.pairwise_cons.2 ⟨fun y hy => g3 _ rfl y hy, g2⟩, ?_⟩
      · intro x hx
        rcases List.mem_cons.1 hx with rfl | hx
        · exact hg
        · exact g1 x hx
      · intro p he x hx
        rcases List.mem_cons.1 hx with rfl | hx
        · exact hp p he
        · exact lt_tr (hp p he) (g3 _ rfl x hx)
    · rw [if_neg h1] at h; exact absurd h h1
noncomputable def upK (z : ZZ) : List UInt8 := (upR z.f0).data.toList
noncomputable def upHere (l : List ZZ) (z : ZZ) : Bool := hereK pk l (upK z)
noncomputable def upOwn (l : List ZZ) (z : ZZ) : Bool := !decide ((rd_T32 l (posK pk l (upK z) : Int)).f3 = 0)
noncomputable def treeR (l : List ZZ) : Int :=
  if l.length > 20 then 2 else if zFrom none l = 0 then
    (if hereK pk l [47] = true then (if l.all (upHere l) = true then (if l.any (upOwn l) = true then 1 else 0) else 4) else 4)
  else zFrom none l
structure RightT (l : List ZZ) : Prop where
  few : l.length ≤ 20
  good : ∀ z ∈ l, zOwn z = 0
  rise : Rises pk l
  top : hereK pk l [47] = true
  ups : ∀ z ∈ l, upHere l z = true
  free : ∀ z ∈ l, upOwn l z = false
theorem right_of {l : List ZZ} (h : treeR l = 0) : RightT l := by
  unfold treeR at h
  by_cases h1 : l.length > 20
  · rw [if_pos h1] at h; cases h
  · rw [if_neg h1] at h
    by_cases h2 : zFrom none l = 0
    · rw [if_pos h2] at h
      obtain ⟨g1, g2, _⟩ := zFrom_ok l none h2
      by_cases h3 : hereK pk l [47] = true
      · rw [if_pos h3] at h
        by_cases h4 : l.all (upHere l) = true
        · rw [if_pos h4] at h
          by_cases h5 : l.any (upOwn l) = true
          · rw [if_pos h5] at h; cases h
          · refine ⟨by omega, g1, g2, h3, List.all_eq_true.1 h4, fun z hz => ?_⟩
            cases c : upOwn l z with
            | false => rfl
            | true => exact absurd (List.any_eq_true.2 ⟨z, hz, c⟩) h5
        · rw [if_neg h4] at h; cases h
      · rw [if_neg h3] at h; cases h
    · rw [if_neg h2] at h; exact absurd h h2
theorem RightT.zero {l : List ZZ} (h : RightT l) (hz : zFrom none l = 0) : treeR l = 0 := by
  unfold treeR
  rw [if_neg (by have := h.few; omega), if_pos hz, if_pos h.top, if_pos (List.all_eq_true.2 h.ups), if_neg (fun c => by
    obtain ⟨z, hz, c⟩ := List.any_eq_true.1 c
    rw [h.free z hz] at c
    cases c)]
theorem top_first {l : List ZZ} (hg : ∀ z ∈ l, zOwn z = 0) (hr : Rises pk l) (h : hereK pk l [47] = true) : posK pk l [47] = 0 := by
  have hp := hereK_lt h
  have h0 : 0 < l.length := by omega
  have hn : ¬ pk l[0] < [47] := by
    obtain ⟨_, ⟨t, ht⟩, _⟩ := path_mark (zOwn_ok (hg _ (List.getElem_mem h0))).1
    unfold pk
    rw [ht]
    intro c
    rcases List.cons_lt_cons_iff.1 c with c | ⟨_, c⟩
    · exact UInt8.lt_irrefl _ c
    · exact absurd c (by simp)
  have := (not_congr (posK_iff hr [47] 0 h0)).1 hn
  omega
end Go.Proofs.YtegggpipggniaaaDoor.Pure

/- What is wrong with a tree: by the program (a search by halves) and by the reference (one by one) the same, for every list of nodes. -/
namespace Go.Proofs.YtegggpipggniaaaDoor.Pure
open Go.RowKit Go.Proofs.YtegggpipggniaaaDoor.Qa Go.Proofs.YtegggpipggniaaaDoorW.PrintWords Go.Proofs.YtegggpipggniaaaDoorW.PrintLast Go.Proofs.YtegggpipggniaaaDoor.Aid

theorem bl_pk (a b : ByteArray) : (Op.bytesLess a.toList b.toList = true) = (a.data.toList < b.data.toList) := by
  rw [tl, tl, bl_lt]
  exact decide_eq_true_eq
theorem order_is (z : ZZ) (q : ByteArray) : impl_pathOrder.f z.f0 z.f1 z.f2 z.f3 z.f4 q = some (if pk z < q.data.toList then -1 else if pk z = q.data.toList then 0 else 1) := by
  unfold impl_pathOrder.f strings_Compare.f
  rw [cmp_is]
  rfl
theorem find_l0 {l : List ZZ} (h : Rises pk l) (hl : l.length ≤ 1048576000) (q : ByteArray) (d : Nat) : ∀ (lo hi : Nat), hi - lo ≤ d → lo ≤ posK pk l q.data.toList → posK pk l q.data.toList ≤ hi → hi ≤ l.length → Ev (fun k => slices_BinarySearchFunc_impl_Znode_impl_Znode_string.l0 k l q (l.length : Int) (lo : Int) (hi : Int)) ((posK pk l q.data.toList : Int), hereK pk l q.data.toList) := by
  induction d with
  | zero =>
    intro lo hi hd h1 h2 h3
    have e : lo = posK pk l q.data.toList := by omega
    subst e
    refine ev_done fun k => ?_
    simp only [slices_BinarySearchFunc_impl_Znode_impl_Znode_string.l0]
    rw [if_neg (by omega)]
    by_cases hp : posK pk l q.data.toList < l.length
    · rw [if_pos (by omega), if_pos (by omega), if_pos (by omega), rd_T32_at hp, order_is, Option.bind_some]
      have hn : ¬ pk (l[posK pk l q.data.toList]) < q.data.toList := fun c => by have := (posK_iff h q.data.toList _ hp).1 c; omega
      have e : hereK pk l q.data.toList = decide (pk (l[posK pk l q.data.toList]) = q.data.toList) := by unfold hereK; rw [List.getElem?_eq_getElem hp]
      rw [e, if_neg hn]
      by_cases c : pk (l[posK pk l q.data.toList]) = q.data.toList
      · rw [if_pos c, decide_eq_true c]; rfl
      · rw [if_neg c, decide_eq_false c]; rfl
    · rw [if_neg (by omega)]
      have e : hereK pk l q.data.toList = false := by unfold hereK; rw [List.getElem?_eq_none (by omega)]
      rw [e]
  | succ d ih =>
    intro lo hi hd h1 h2 h3
    by_cases hlt : lo < hi
    · have hm : (lo + hi) / 2 < l.length := by omega
      have hiff := posK_iff h q.data.toList _ hm
      have hmid := mid_eq (a := lo) (b := hi) (by omega)
      by_cases c : pk (l[(lo + hi) / 2]) < q.data.toList
      · refine ev_step (fun k => slices_BinarySearchFunc_impl_Znode_impl_Znode_string.l0 k l q (l.length : Int) (((lo + hi) / 2 + 1 : Nat) : Int) (hi : Int)) (fun k => ?_) (ih _ _ (by omega) (by have := hiff.1 c; omega) h2 h3)
        simp only [slices_BinarySearchFunc_impl_Znode_impl_Znode_string.l0]
        rw [hmid, if_pos (by omega), if_pos (by omega), if_pos (by omega), rd_T32_at hm, order_is, if_pos c, Option.bind_some, if_pos (by omega), wrap_up hm (by omega)]
      · refine ev_step (fun k => slices_BinarySearchFunc_impl_Znode_impl_Znode_string.l0 k l q (l.length : Int) (lo : Int) (((lo + hi) / 2 : Nat) : Int)) (fun k => ?_) (ih _ _ (by omega) h1 (by have := (not_congr hiff).1 c; omega) (by omega))
        simp only [slices_BinarySearchFunc_impl_Znode_impl_Znode_string.l0]
        rw [hmid, if_pos (by omega), if_pos (by omega), if_pos (by omega), rd_T32_at hm, order_is, if_neg c, Option.bind_some, if_neg (by split <;> omega)]
    · exact (fun e : hi - lo ≤ d => ih lo hi e h1 h2 h3) (by omega)
theorem find_is {l : List ZZ} (h : Rises pk l) (hl : l.length ≤ 1048576000) (q : ByteArray) : Ev (fun k => impl_find.f k l q) ((posK pk l q.data.toList : Int), hereK pk l q.data.toList) := by
  unfold impl_find.f slices_BinarySearchFunc_impl_Znode_impl_Znode_string.f
  exact ev_call (find_l0 h hl q l.length 0 l.length (by omega) (by omega) (posK_le pk l _) (Nat.le_refl _)) (Ev.now _)
theorem at_l0 {l : List ZZ} (h : Rises pk l) (hl : l.length ≤ 1048576000) (q : ByteArray) (d : Nat) : ∀ (i : Nat), i + d = l.length → (hereK pk l q.data.toList = true → i ≤ posK pk l q.data.toList) → Ev (fun k => spec_l2At.l0 k l q (i : Int)) (if hereK pk l q.data.toList then (posK pk l q.data.toList : Int) else -1) := by
  induction d with
  | zero =>
    intro i hd hi
    have e : hereK pk l q.data.toList = false := by
      cases c : hereK pk l q.data.toList with
      | false => rfl
      | true => have := hereK_lt c; have := hi c; omega
    rw [e]
    exact ev_done fun k => by simp only [spec_l2At.l0]; rw [if_neg (by omega)]; rfl
  | succ d ih =>
    intro i hd hi
    have hil : i < l.length := by omega
    by_cases c : pk l[i] = q.data.toList
    · obtain ⟨e1, e2⟩ := hereK_at h i hil
      rw [c] at e1 e2
      rw [e2, e1]
      exact ev_done fun k => by simp only [spec_l2At.l0]; rw [if_pos (by omega), if_pos (by omega), rd_T32_at hil, tl, tl, if_pos (show (l[i]).f0.data.toList = q.data.toList from c)]; rfl
    · refine ev_step (fun k => spec_l2At.l0 k l q ((i + 1 : Nat) : Int)) (fun k => ?_) (ih (i + 1) (by omega) (fun hh => ?_))
      · simp only [spec_l2At.l0]; rw [if_pos (by omega), if_pos (by omega), rd_T32_at hil, tl, tl, if_neg (show ¬ (l[i]).f0.data.toList = q.data.toList from c), wrap_up hil (by omega)]
      · have h1 := hi hh
        have h2 := hereK_eq hh
        have : i ≠ posK pk l q.data.toList := fun e => c (by
          have : ∀ (j : Nat) (hj : j < l.length), i = j → pk l[j] = q.data.toList → pk l[i] = q.data.toList := fun j hj e => by subst e; exact id
          exact this _ (hereK_lt hh) e h2)
        omega
theorem at_is {l : List ZZ} (h : Rises pk l) (hl : l.length ≤ 1048576000) (q : ByteArray) : Ev (fun k => spec_l2At.f k l q) (if hereK pk l q.data.toList then (posK pk l q.data.toList : Int) else -1) := at_l0 h hl q l.length 0 (by omega) (fun _ => Nat.zero_le _)

theorem nodeFault_is (z : ZZ) : Ev (fun k => impl_nodeFault.f k z.f0 z.f1 z.f2 z.f3 z.f4) (zOwn z) := by
  unfold impl_nodeFault.f zOwn
  refine ev_call (fault_impl z.f0) (ev_is fun k => ?_)
  by_cases h : faultR z.f0 = 0
  · rw [if_pos h, if_pos h]
    unfold impl_isData.f impl_isOwner.f zIn
    rw [impl_within_is, impl_within_is, impl_within_is, impl_within_is]
    by_cases c1 : 0 ≤ z.f1 ∧ z.f1 ≤ 9999 <;> by_cases c2 : 0 ≤ z.f2 ∧ z.f2 ≤ 999 <;> by_cases c3 : 0 ≤ z.f3 ∧ z.f3 ≤ 9 <;> by_cases c4 : 0 ≤ z.f4 ∧ z.f4 ≤ 100 <;> simp [c1, c2, c3, c4]
  · rw [if_neg h, if_neg h]
def prevK (l : List ZZ) : Nat → Option (List UInt8)
  | 0 => none
  | i + 1 => some (pk (rd_T32 l (i : Int)))
theorem wrap_dn {i : Nat} (h : i < 4611686018427387904) : wrap64 (((i + 1 : Nat) : Int) - 1) = (i : Int) := by
  rw [wrap_id (by omega) (by omega)]
  omega
theorem impl_l0 (l : List ZZ) (hl : l.length ≤ 20) (r : Int) (hr : zFrom none l = 0 → Ev (fun k => impl_TreeFault.l0 k l l (l.length : Int) (l.length : Int)) r) (d : Nat) : ∀ (i : Nat), i + d = l.length → (zFrom none l = zFrom (prevK l i) (l.drop i)) → Ev (fun k => impl_TreeFault.l0 k l l (l.length : Int) (i : Int)) (if zFrom none l = 0 then r else zFrom none l) := by
  induction d with
  | zero =>
    intro i h he
    have e : i = l.length := by omega
    subst e
    rw [List.drop_length] at he
    have h0 : zFrom none l = 0 := he
    rw [if_pos h0]
    exact hr h0
  | succ d ih =>
    intro i h he
    have hi : i < l.length := by omega
    have hrd := rd_T32_at hi
    rw [drop_at hi, zFrom_cons] at he
    have hp : prevK l (i + 1) = some (pk l[i]) := by rw [prevK, hrd]
    refine ev_step (fun k => (impl_nodeFault.f k (l[i]).f0 (l[i]).f1 (l[i]).f2 (l[i]).f3 (l[i]).f4).bind fun t103 => (if t103 = 0 then (if (i : Int) > 0 then (if 0 ≤ (wrap64 ((i : Int) - 1)) then (if (wrap64 ((i : Int) - 1)) < (l.length : Int) then (if ((Op.bytesLess (((rd_T32 l (wrap64 ((i : Int) - 1))).f0).toList) (((l[i]).f0).toList)) = true) then (impl_TreeFault.l0 k l l (l.length : Int) ((i + 1 : Nat) : Int)) else (some 1)) else (none)) else (none)) else (impl_TreeFault.l0 k l l (l.length : Int) ((i + 1 : Nat) : Int))) else (some t103))) (fun k => ?_) (ev_call (nodeFault_is l[i]) ?_)
    · simp only [impl_TreeFault.l0]
      rw [if_pos (by omega), if_pos (by omega), if_pos (by omega), hrd, wrap_up hi (by omega)]
    · by_cases ho : zOwn l[i] = 0
      · refine ev_cong (fun k => if_pos ho) ?_
        cases i with
        | zero =>
          have e1 : zOne (prevK l 0) l[0] = 0 := by unfold zOne; rw [if_pos ho]; rfl
          rw [if_pos e1] at he
          rw [← hp] at he
          exact ev_cong (fun k => if_neg (by omega)) (ih 1 (by omega) he)
        | succ j =>
          have hj : j < l.length := by omega
          have wd := wrap_dn (i := j) (by omega)
          refine ev_cong (fun k => (if_pos (by omega)).trans ?_) (f := fun k => if ((Op.bytesLess (((rd_T32 l (j : Int)).f0).toList) (((l[j + 1]).f0).toList)) = true) then (impl_TreeFault.l0 k l l (l.length : Int) ((j + 1 + 1 : Nat) : Int)) else (some 1)) ?_
          · rw [wd, if_pos (by omega), if_pos (by omega)]
          · by_cases c : pk (rd_T32 l (j : Int)) < pk l[j + 1]
            · have e1 : zOne (prevK l (j + 1)) l[j + 1] = 0 := by unfold zOne; rw [if_pos ho]; exact if_pos c
              rw [if_pos e1, ← hp] at he
              refine ev_cong (fun k => if_pos (by rw [bl_pk]; exact c)) (ih (j + 1 + 1) (by omega) he)
            · have e1 : zOne (prevK l (j + 1)) l[j + 1] = 1 := by unfold zOne; rw [if_pos ho]; exact if_neg c
              rw [e1, if_neg (by omega)] at he
              rw [he, if_neg (by omega)]
              exact ev_is fun k => if_neg (by rw [bl_pk]; exact c)
      · have e1 : zOne (prevK l i) l[i] = zOwn l[i] := by unfold zOne; rw [if_neg ho]
        rw [e1, if_neg ho] at he
        rw [he, if_neg ho]
        exact ev_is fun k => if_neg ho
theorem spec_l0 (l : List ZZ) (hl : l.length ≤ 20) (r : Int) (hr : zFrom none l = 0 → Ev (fun k => spec_l2Fault.l0 k l (l.length : Int)) r) (d : Nat) : ∀ (i : Nat), i + d = l.length → (zFrom none l = zFrom (prevK l i) (l.drop i)) → Ev (fun k => spec_l2Fault.l0 k l (i : Int)) (if zFrom none l = 0 then r else zFrom none l) := by
  induction d with
  | zero =>
    intro i h he
    have e : i = l.length := by omega
    subst e
    rw [List.drop_length] at he
    have h0 : zFrom none l = 0 := he
    rw [if_pos h0]
    exact hr h0
  | succ d ih =>
    intro i h he
    have hi : i < l.length := by omega
    have hrd := rd_T32_at hi
    rw [drop_at hi, zFrom_cons] at he
    have hp : prevK l (i + 1) = some (pk l[i]) := by rw [prevK, hrd]
    refine ev_step (fun k => (spec_l1Fault.f k (l[i]).f0).bind fun t103 => (if t103 = 0 then spec_l2Fault.j1 k l (i : Int) (!zIn l[i]) else (some t103))) (fun k => ?_) (ev_call (fault_spec (l[i]).f0) ?_)
    · simp only [spec_l2Fault.l0]
      rw [if_pos (by omega), if_pos (by omega), hrd]
      refine congrArg (fun z => Option.bind _ z) (funext fun t => ?_)
      unfold spec_l2Data.f spec_l2Owner.f zIn
      rw [spec_l1In_is, spec_l1In_is, spec_l1In_is, spec_l1In_is]
      by_cases c0 : t = 0
      · rw [if_pos c0, if_pos c0]
        by_cases c1 : 0 ≤ (l[i]).f1 ∧ (l[i]).f1 ≤ 9999 <;> by_cases c2 : 0 ≤ (l[i]).f2 ∧ (l[i]).f2 ≤ 999 <;> by_cases c3 : 0 ≤ (l[i]).f3 ∧ (l[i]).f3 ≤ 9 <;> by_cases c4 : 0 ≤ (l[i]).f4 ∧ (l[i]).f4 ≤ 100 <;> simp [c1, c2, c3, c4]
      · rw [if_neg c0, if_neg c0]
    · by_cases hf : faultR (l[i]).f0 = 0
      · refine ev_cong (fun k => if_pos hf) ?_
        cases hz : zIn l[i] with
        | false =>
          have ho : zOwn l[i] = 3 := by unfold zOwn; rw [if_pos hf, if_neg (by simp [hz])]
          have e1 : zOne (prevK l i) l[i] = 3 := by unfold zOne; rw [if_neg (by omega), ho]
          rw [e1, if_neg (by omega)] at he
          rw [he, if_neg (by omega)]
          exact ev_done fun k => by simp only [spec_l2Fault.j1]; exact if_pos rfl
        | true =>
          have ho : zOwn l[i] = 0 := by unfold zOwn; rw [if_pos hf, if_pos hz]
          cases i with
          | zero =>
            have e1 : zOne (prevK l 0) l[0] = 0 := by unfold zOne; rw [if_pos ho]; rfl
            rw [if_pos e1, ← hp] at he
            refine ev_step (fun k => spec_l2Fault.l0 k l ((0 + 1 : Nat) : Int)) (fun k => ?_) (ih 1 (by omega) he)
            simp only [spec_l2Fault.j1]; rw [if_neg (by simp), if_neg (by omega), wrap_up hi (by omega)]
          | succ j =>
            have hj : j < l.length := by omega
            have wd := wrap_dn (i := j) (by omega)
            by_cases c : pk (rd_T32 l (j : Int)) < pk l[j + 1]
            · have e1 : zOne (prevK l (j + 1)) l[j + 1] = 0 := by unfold zOne; rw [if_pos ho]; exact if_pos c
              rw [if_pos e1, ← hp] at he
              refine ev_step (fun k => spec_l2Fault.l0 k l ((j + 1 + 1 : Nat) : Int)) (fun k => ?_) (ih (j + 1 + 1) (by omega) he)
              simp only [spec_l2Fault.j1]; rw [if_neg (by simp), if_pos (by omega), if_pos (by omega), if_pos (by omega), wd, if_pos (by omega), if_pos (by omega), if_pos (by rw [hrd, bl_pk]; exact c), wrap_up hi (by omega)]
            · have e1 : zOne (prevK l (j + 1)) l[j + 1] = 1 := by unfold zOne; rw [if_pos ho]; exact if_neg c
              rw [e1, if_neg (by omega)] at he
              rw [he, if_neg (by omega)]
              exact ev_done fun k => by simp only [spec_l2Fault.j1]; rw [if_neg (by simp), if_pos (by omega), if_pos (by omega), if_pos (by omega), wd, if_pos (by omega), if_pos (by omega), if_neg (by rw [hrd, bl_pk]; exact c)]
      · have ho : zOwn l[i] = faultR (l[i]).f0 := by unfold zOwn; rw [if_neg hf]
        have e1 : zOne (prevK l i) l[i] = zOwn l[i] := by unfold zOne; rw [if_neg (by rw [ho]; exact hf)]
        rw [e1, ho, if_neg hf] at he
        rw [he, if_neg hf]
        exact ev_is fun k => if_neg hf
theorem spec_l1_ (l : List ZZ) (hg : ∀ z ∈ l, zOwn z = 0) (hR : Rises pk l) (hl : l.length ≤ 20) (r : Int) (hr : l.all (upHere l) = true → Ev (fun k => spec_l2Fault.l2 k l 0) r) (d : Nat) : ∀ (i : Nat), i + d = l.length → (l.all (upHere l) = (l.drop i).all (upHere l)) → Ev (fun k => spec_l2Fault.l1 k l (i : Int)) (if l.all (upHere l) = true then r else 4) := by
  induction d with
  | zero =>
    intro i h he
    rw [drop_end (by omega)] at he
    have he' : l.all (upHere l) = true := he
    rw [if_pos he']
    refine ev_step _ (fun k => ?_) (hr he')
    simp only [spec_l2Fault.l1]; rw [if_neg (by omega)]
  | succ d ih =>
    intro i h he
    have hi : i < l.length := by omega
    have hrd := rd_T32_at hi
    rw [drop_at hi, List.all_cons] at he
    have hgi := zOwn_ok (hg _ (List.getElem_mem hi))
    refine ev_step (fun k => (spec_l1Parent.f k (l[i]).f0).bind fun t116 => ((spec_l2At.f k l t116).bind fun t117 => (if t117 < 0 then (some 4) else (spec_l2Fault.l1 k l ((i + 1 : Nat) : Int))))) (fun k => ?_) (ev_call (parent_is hgi.1) (ev_call (at_is hR (by omega) (upR (l[i]).f0)) ?_))
    · simp only [spec_l2Fault.l1]; rw [if_pos (by omega), if_pos (by omega), hrd, wrap_up hi (by omega)]
    · have e : hereK pk l (upR (l[i]).f0).data.toList = upHere l l[i] := rfl
      rw [e]
      cases c : upHere l l[i] with
      | true =>
        rw [c, Bool.true_and] at he
        exact ev_cong (fun k => if_neg (by rw [if_pos rfl]; omega)) (ih (i + 1) (by omega) he)
      | false =>
        rw [c, Bool.false_and] at he
        rw [he, if_neg (by simp)]
        exact ev_is fun k => if_pos (by simp)
theorem spec_l2_ (l : List ZZ) (hg : ∀ z ∈ l, zOwn z = 0) (hR : Rises pk l) (hl : l.length ≤ 20) (hA : l.all (upHere l) = true) (d : Nat) : ∀ (i : Nat), i + d = l.length → (l.any (upOwn l) = (l.drop i).any (upOwn l)) → Ev (fun k => spec_l2Fault.l2 k l (i : Int)) (if l.any (upOwn l) = true then 1 else 0) := by
  induction d with
  | zero =>
    intro i h he
    rw [drop_end (by omega)] at he
    have he' : l.any (upOwn l) = false := he
    rw [he', if_neg (by simp)]
    exact ev_done fun k => by simp only [spec_l2Fault.l2]; rw [if_neg (by omega)]
  | succ d ih =>
    intro i h he
    have hi : i < l.length := by omega
    have hrd := rd_T32_at hi
    rw [drop_at hi, List.any_cons] at he
    have hgi := zOwn_ok (hg _ (List.getElem_mem hi))
    have hh : hereK pk l (upR (l[i]).f0).data.toList = true := List.all_eq_true.1 hA _ (List.getElem_mem hi)
    have hp := hereK_lt hh
    have ho : upOwn l l[i] = !decide ((rd_T32 l (posK pk l (upR (l[i]).f0).data.toList : Int)).f3 = 0) := rfl
    refine ev_step (fun k => (spec_l1Parent.f k (l[i]).f0).bind fun t119 => ((spec_l2At.f k l t119).bind fun t120 => (if 0 ≤ t120 then (if t120 < (l.length : Int) then (if ((rd_T32 l t120).f3) = 0 then (spec_l2Fault.l2 k l ((i + 1 : Nat) : Int)) else (some 1)) else (none)) else (none)))) (fun k => ?_) (ev_call (parent_is hgi.1) (ev_call (at_is hR (by omega) (upR (l[i]).f0)) ?_))
    · simp only [spec_l2Fault.l2]; rw [if_pos (by omega), if_pos (by omega), hrd, wrap_up hi (by omega)]
    · rw [hh]
      generalize hP : posK pk l (upR (l[i]).f0).data.toList = P at hp ho
      refine ev_cong (f := fun k => (if ((rd_T32 l (P : Int)).f3) = 0 then (spec_l2Fault.l2 k l ((i + 1 : Nat) : Int)) else (some 1))) (fun k => ?_) ?_
      · rw [if_pos rfl, if_pos (by omega), if_pos (by omega)]
      · by_cases c : (rd_T32 l (P : Int)).f3 = 0
        · have : upOwn l l[i] = false := by rw [ho, decide_eq_true c]; rfl
          rw [this, Bool.false_or] at he
          exact ev_cong (fun k => if_pos c) (ih (i + 1) (by omega) he)
        · have : upOwn l l[i] = true := by rw [ho, decide_eq_false c]; rfl
          rw [this, Bool.true_or] at he
          rw [he, if_pos rfl]
          exact ev_is fun k => if_neg c
theorem treeR_spec (l : List ZZ) : Ev (fun k => spec_l2Fault.f k l) (treeR l) := by
  unfold spec_l2Fault.f treeR
  by_cases h : l.length > 20
  · rw [if_pos h]
    exact ev_is fun k => if_pos (by omega)
  · rw [if_neg h]
    refine ev_cong (fun k => if_neg (by omega)) (spec_l0 l (by omega) _ (fun hz => ?_) l.length 0 (by omega) rfl)
    obtain ⟨hg, hR, _⟩ := zFrom_ok l none hz
    refine ev_step (fun k => (spec_l2At.f k l (⟨#[47]⟩ : ByteArray)).bind fun t114 => (if t114 < 0 then (some 4) else (spec_l2Fault.l1 k l 0))) (fun k => ?_) (ev_call (at_is hR (by omega) (⟨#[47]⟩ : ByteArray)) ?_)
    · simp only [spec_l2Fault.l0]; rw [if_neg (by omega)]
    · have e : (⟨#[47]⟩ : ByteArray).data.toList = [47] := rfl
      rw [e]
      cases c : hereK pk l [47] with
      | false =>
        rw [if_neg (by simp)]
        exact ev_is fun k => if_pos (by simp)
      | true =>
        rw [if_pos rfl]
        refine ev_cong (fun k => if_neg (by omega)) (spec_l1_ l hg hR (by omega) _ (fun hA => ?_) l.length 0 (by omega) rfl)
        exact spec_l2_ l hg hR (by omega) hA l.length 0 (by omega) rfl
theorem impl_l1_ (l m : List ZZ) (hm : ∀ z ∈ m, zOwn z = 0) (hR : Rises pk l) (hl : l.length ≤ 20) (hml : m.length ≤ 20) (d : Nat) : ∀ (i : Nat) (b : Bool), i + d = m.length → Ev (fun k => impl_TreeFault.l1 k l b m (m.length : Int) (i : Int)) (if (m.drop i).all (upHere l) = true then (if (b || (m.drop i).any (upOwn l)) = true then 1 else 0) else 4) := by
  induction d with
  | zero =>
    intro i b h
    rw [drop_end (by omega)]
    refine ev_done fun k => ?_
    simp only [impl_TreeFault.l1]
    rw [if_neg (by omega), List.all_nil, if_pos rfl, List.any_nil, Bool.or_false]
    cases b <;> rfl
  | succ d ih =>
    intro i b h
    have hi : i < m.length := by omega
    have hrd := rd_T32_at hi
    have hgi := zOwn_ok (hm _ (List.getElem_mem hi))
    rw [drop_at hi, List.all_cons, List.any_cons]
    refine ev_step (fun k => (impl_parted.f k (m[i]).f0).bind fun bt114 => ((impl_find.f k l bt114.1).bind fun bt116 => (if bt116.2 = true then (if b = true then (impl_TreeFault.l1 k l true m (m.length : Int) ((i + 1 : Nat) : Int)) else (if 0 ≤ bt116.1 then (if bt116.1 < (l.length : Int) then (impl_TreeFault.l1 k l (((rd_T32 l bt116.1).f3) != 0) m (m.length : Int) ((i + 1 : Nat) : Int)) else (none)) else (none))) else (some 4)))) (fun k => ?_) (ev_call (parted_is hgi.1) (ev_call (find_is hR (by omega) (upR (m[i]).f0)) ?_))
    · simp only [impl_TreeFault.l1]; rw [if_pos (by omega), if_pos (by omega), if_pos (by omega), hrd, wrap_up hi (by omega)]
    · have e : hereK pk l (upR (m[i]).f0).data.toList = upHere l m[i] := rfl
      have ho : upOwn l m[i] = !decide ((rd_T32 l (posK pk l (upR (m[i]).f0).data.toList : Int)).f3 = 0) := rfl
      have hp : upHere l m[i] = true → posK pk l (upR (m[i]).f0).data.toList < l.length := fun c => hereK_lt c
      generalize hP : posK pk l (upR (m[i]).f0).data.toList = P at ho hp
      rw [e]
      cases c : upHere l m[i] with
      | false =>
        rw [Bool.false_and, if_neg (by simp)]
        exact ev_is fun k => if_neg (by simp)
      | true =>
        have hp := hp c
        rw [Bool.true_and]
        cases b with
        | true =>
          have IH := ih (i + 1) true (by omega)
          rw [Bool.true_or] at IH ⊢
          exact ev_cong (fun k => (if_pos rfl).trans (if_pos rfl)) IH
        | false =>
          have e2 : (((rd_T32 l (P : Int)).f3) != 0) = upOwn l m[i] := by
            rw [ho]
            by_cases c2 : (rd_T32 l (P : Int)).f3 = 0
            · rw [decide_eq_true c2, c2]; rfl
            · rw [decide_eq_false c2]; exact bne_iff_ne.2 c2
          have IH := ih (i + 1) (upOwn l m[i]) (by omega)
          rw [Bool.false_or]
          refine ev_cong (fun k => ?_) IH
          rw [if_pos rfl, if_neg (by simp), if_pos (by show 0 ≤ (P : Int); omega), if_pos (by show (P : Int) < (l.length : Int); omega)]
          show impl_TreeFault.l1 k l (((rd_T32 l (P : Int)).f3) != 0) m (m.length : Int) ((i + 1 : Nat) : Int) = _
          rw [e2]
theorem treeR_impl (l : List ZZ) : Ev (fun k => impl_TreeFault.f k l) (treeR l) := by
  unfold impl_TreeFault.f treeR
  by_cases h : l.length > 20
  · rw [if_pos h]
    exact ev_is fun k => if_pos (by omega)
  · rw [if_neg h]
    refine ev_cong (fun k => if_neg (by omega)) (impl_l0 l (by omega) _ (fun hz => ?_) l.length 0 (by omega) rfl)
    obtain ⟨hg, hR, _⟩ := zFrom_ok l none hz
    refine ev_step (fun k => (impl_find.f k l (⟨#[47]⟩ : ByteArray)).bind fun bt105 => (if bt105.2 = true then (if 0 < (l.length : Int) then (if 1 ≤ (l.length : Int) then ((some (l.drop 1 : List ZZ)).bind fun y108 => (impl_TreeFault.l1 k l (((rd_T32 l 0).f3) != 0) y108 (y108.length : Int) 0)) else (none)) else (none)) else (some 4))) (fun k => ?_) (ev_call (find_is hR (by omega) (⟨#[47]⟩ : ByteArray)) ?_)
    · simp only [impl_TreeFault.l0]; rw [if_neg (by omega)]
    · have e : (⟨#[47]⟩ : ByteArray).data.toList = [47] := rfl
      rw [e]
      cases c : hereK pk l [47] with
      | false =>
        rw [if_neg (by simp)]
        exact ev_is fun k => if_neg (by simp)
      | true =>
        rw [if_pos rfl]
        have hp := hereK_lt c
        have h0 := top_first hg hR c
        have hlen : 0 < l.length := by omega
        have hk : pk l[0] = [47] := by
          have := hereK_eq c
          have g : ∀ (j : Nat) (hj : j < l.length), j = 0 → pk l[j] = [47] → pk l[0] = [47] := fun j hj e => by subst e; exact id
          exact g _ hp h0 this
        have hsplit : l = l[0] :: l.drop 1 := by
          have := drop_at hlen
          rwa [List.drop_zero] at this
        have hu : upR (l[0]).f0 = (⟨#[47]⟩ : ByteArray) := upR_top _ hk
        have hu0 : upHere l l[0] = true := by unfold upHere upK; rw [hu]; exact c
        have ho0 : upOwn l l[0] = (((rd_T32 l 0).f3) != 0) := by
          unfold upOwn upK
          rw [hu]
          have e3 : (⟨#[47]⟩ : ByteArray).data.toList = [47] := rfl
          rw [e3, h0]
          show (!decide ((rd_T32 l 0).f3 = 0)) = ((rd_T32 l 0).f3 != 0)
          by_cases c2 : (rd_T32 l 0).f3 = 0
          · rw [decide_eq_true c2, c2]; rfl
          · rw [decide_eq_false c2]; exact (bne_iff_ne.2 c2).symm
        have hall : l.all (upHere l) = (l.drop 1).all (upHere l) := by
          have g : ∀ m : List ZZ, m = l[0] :: l.drop 1 → m.all (upHere l) = (l.drop 1).all (upHere l) := fun m hm => by rw [hm, List.all_cons, hu0, Bool.true_and]
          exact g l hsplit
        have hany : l.any (upOwn l) = ((((rd_T32 l 0).f3) != 0) || (l.drop 1).any (upOwn l)) := by
          have g : ∀ m : List ZZ, m = l[0] :: l.drop 1 → m.any (upOwn l) = ((((rd_T32 l 0).f3) != 0) || (l.drop 1).any (upOwn l)) := fun m hm => by rw [hm, List.any_cons, ho0]
          exact g l hsplit
        rw [hall, hany]
        have := impl_l1_ l (l.drop 1) (fun z hz => hg z (List.mem_of_mem_drop hz)) hR (by omega) (by rw [List.length_drop]; omega) (l.drop 1).length 0 (((rd_T32 l 0).f3) != 0) (by omega)
        rw [List.drop_zero] at this
        refine ev_cong (fun k => ?_) this
        rw [if_pos rfl, if_pos (by omega), if_pos (by omega), Option.bind_some]
        rfl
end Go.Proofs.YtegggpipggniaaaDoor.Pure

/- When a tree is right: told by its members. -/
namespace Go.Proofs.YtegggpipggniaaaDoor.Pure
open Go.RowKit Go.Proofs.YtegggpipggniaaaDoor.Qa Go.Proofs.YtegggpipggniaaaDoorW.PrintWords Go.Proofs.YtegggpipggniaaaDoorW.PrintLast Go.Proofs.YtegggpipggniaaaDoor.Aid
theorem zFrom_of : ∀ (l : List ZZ) (prev : Option (List UInt8)), (∀ z ∈ l, zOwn z = 0) → Rises pk l → (∀ p, prev = some p → ∀ z ∈ l, p < pk z) → zFrom prev l = 0
  | [], _, _, _, _ => rfl
  | z :: r, prev, h1, h2, h3 => by
    obtain ⟨g1, g2⟩ := List.pairwise_cons.1 h2
    have ho : zOne prev z = 0 := by
      unfold zOne
      rw [if_pos (h1 z (by simp))]
      cases prev with
      | none => rfl
      | some p => exact if_pos (h3 p rfl z (by simp))
    rw [zFrom_cons, if_pos ho]
    exact zFrom_of r (some (pk z)) (fun x hx => h1 x (List.mem_cons_of_mem _ hx)) g2 (fun p hp x hx => by cases hp; exact g1 x hx)
theorem RightT.code {l : List ZZ} (h : RightT l) : treeR l = 0 := h.zero (zFrom_of l none h.good h.rise (fun p hp => by cases hp))
theorem at_of {l : List ZZ} (hr : Rises pk l) {y : ZZ} (hy : y ∈ l) : rd_T32 l (posK pk l (pk y) : Int) = y := by
  obtain ⟨j, hj, rfl⟩ := List.getElem_of_mem hy
  rw [(hereK_at hr j hj).1, rd_T32_at hj]
theorem mem_of_here {l : List ZZ} {q : List UInt8} (h : hereK pk l q = true) : ∃ y ∈ l, pk y = q := ⟨l[posK pk l q]'(hereK_lt h), List.getElem_mem _, hereK_eq h⟩
structure TreeM (l : List ZZ) : Prop where
  few : l.length ≤ 20
  good : ∀ z ∈ l, zOwn z = 0
  rise : Rises pk l
  top : ∃ z ∈ l, pk z = [47]
  ups : ∀ z ∈ l, ∃ y ∈ l, pk y = upK z ∧ y.f3 = 0
theorem TreeM.of {l : List ZZ} (h : RightT l) : TreeM l := by
  refine ⟨h.few, h.good, h.rise, mem_of_here h.top, fun z hz => ?_⟩
  obtain ⟨y, hy, e⟩ := mem_of_here (h.ups z hz)
  refine ⟨y, hy, e, ?_⟩
  have := h.free z hz
  unfold upOwn at this
  rw [← e, at_of h.rise hy] at this
  simpa using this
theorem TreeM.right {l : List ZZ} (h : TreeM l) : RightT l := by
  refine ⟨h.few, h.good, h.rise, ?_, fun z hz => ?_, fun z hz => ?_⟩
  · obtain ⟨y, hy, e⟩ := h.top
    rw [← e]
    exact hereK_mem h.rise hy
  · obtain ⟨y, hy, e, _⟩ := h.ups z hz
    unfold upHere
    rw [← e]
    exact hereK_mem h.rise hy
  · obtain ⟨y, hy, e, h0⟩ := h.ups z hz
    unfold upOwn
    rw [← e, at_of h.rise hy, h0]
    rfl
theorem TreeM.code {l : List ZZ} (h : TreeM l) : treeR l = 0 := h.right.code
theorem here_iff {l : List ZZ} (hr : Rises pk l) (q : List UInt8) : hereK pk l q = true ↔ ∃ y ∈ l, pk y = q := ⟨mem_of_here, fun ⟨y, hy, e⟩ => by rw [← e]; exact hereK_mem hr hy⟩
end Go.Proofs.YtegggpipggniaaaDoor.Pure

/- Answers that hold nodes. -/

namespace Go.Proofs.YtegggpipggniaaaDoor.Pure
open Go.RowKit Go.Proofs.YtegggpipggniaaaDoor.Qa Go.Proofs.YtegggpipggniaaaDoorW.PrintWords Go.Proofs.YtegggpipggniaaaDoorW.PrintLast Go.Proofs.YtegggpipggniaaaDoor.Aid
abbrev ZR := Int × ByteArray × List ZZ
def badZ (c : Int) : ZR := (c, (⟨#[]⟩ : ByteArray), [])
end Go.Proofs.YtegggpipggniaaaDoor.Pure

/- A row of nodes copied, by the reference. -/
namespace Go.Proofs.YtegggpipggniaaaDoor.Pure
open Go.RowKit Go.Proofs.YtegggpipggniaaaDoor.Qa Go.Proofs.YtegggpipggniaaaDoorW.PrintWords Go.Proofs.YtegggpipggniaaaDoorW.PrintLast Go.Proofs.YtegggpipggniaaaDoor.Aid
theorem copy_spec (l : List ZZ) (hl : l.length ≤ 1048576000) : spec_l2Copy.f l = some l := by
  unfold spec_l2Copy.f
  simp only [Option.bind_some, List.nil_append, List.length_nil, Nat.zero_add]
  rw [if_pos (by omega)]
end Go.Proofs.YtegggpipggniaaaDoor.Pure

/- A node's data set in a right tree, by the reference. -/
namespace Go.Proofs.YtegggpipggniaaaDoor.Pure
open Go.RowKit Go.Proofs.YtegggpipggniaaaDoor.Qa Go.Proofs.YtegggpipggniaaaDoorW.PrintWords Go.Proofs.YtegggpipggniaaaDoorW.PrintLast Go.Proofs.YtegggpipggniaaaDoor.Aid
def putD (l : List ZZ) (i : Int) (d : Int) : List ZZ := l.set i.toNat (⟨(rd_T32 l i).f0, d, (rd_T32 l i).f2, (rd_T32 l i).f3, (rd_T32 l i).f4⟩ : ZZ)
def putV (l : List ZZ) (i : Int) : List ZZ := l.set i.toNat (⟨(rd_T32 l i).f0, (rd_T32 l i).f1, wrap64 (((rd_T32 l i).f2) + 1), (rd_T32 l i).f3, (rd_T32 l i).f4⟩ : ZZ)
def setAt (l : List ZZ) (p : Nat) (d v : Int) : ZR :=
  if v = -1 ∨ v = (rd_T32 l (p : Int)).f2 then (if (rd_T32 l (p : Int)).f2 = 999 then badZ 2 else (0, (⟨#[]⟩ : ByteArray), putV (putD l (p : Int) d) (p : Int))) else badZ 7
noncomputable def setIn (l : List ZZ) (q : ByteArray) (d v : Int) : ZR :=
  if 0 ≤ d ∧ d ≤ 9999 then (if hereK pk l q.data.toList = true then setAt l (posK pk l q.data.toList) d v else badZ 4) else badZ 3
theorem ver_le {l : List ZZ} (hg : ∀ z ∈ l, zOwn z = 0) {p : Nat} (hp : p < l.length) : 0 ≤ (rd_T32 l (p : Int)).f2 ∧ (rd_T32 l (p : Int)).f2 ≤ 999 := by
  rw [rd_T32_at hp]
  have := (zOwn_ok (hg _ (List.getElem_mem hp))).2
  unfold zIn at this
  simp only [Bool.and_eq_true, decide_eq_true_eq] at this
  exact this.2.1
theorem set_j0 {l : List ZZ} (hg : ∀ z ∈ l, zOwn z = 0) (hl : l.length ≤ 20) {p : Nat} (hp : p < l.length) (d v : Int) (b : Bool) (hb : b = true ↔ ¬ (v = -1 ∨ v = (rd_T32 l (p : Int)).f2)) : Ev (fun k => spec_l2Set.j0 k l d (p : Int) b) (setAt l p d v) := by
  have hv := ver_le hg hp
  unfold setAt
  cases b with
  | true =>
    rw [if_neg (hb.1 rfl)]
    exact ev_done fun k => by simp only [spec_l2Set.j0]; rw [if_pos trivial]; rfl
  | false =>
    have hn : v = -1 ∨ v = (rd_T32 l (p : Int)).f2 := Decidable.byContradiction fun c => by have := hb.2 c; cases this
    rw [if_pos hn]
    refine ev_done fun k => ?_
    simp only [spec_l2Set.j0]
    rw [if_neg (by simp), if_pos (by omega), if_pos (by omega), copy_spec l (by omega)]
    by_cases c : (rd_T32 l (p : Int)).f2 = 999
    · rw [if_pos (by omega), if_pos c]; rfl
    · rw [if_neg (by omega), if_neg c, Option.bind_some, if_pos (by omega)]; rfl
theorem set_in_spec {l : List ZZ} (hg : ∀ z ∈ l, zOwn z = 0) (hl : l.length ≤ 20) (hr : Rises pk l) (q : ByteArray) (d v : Int) : Ev (fun k => spec_l2Set.f k l q d v) (setIn l q d v) := by
  unfold spec_l2Set.f spec_l2Data.f setIn
  rw [spec_l1In_is]
  simp only [Option.bind_some]
  by_cases h1 : 0 ≤ d ∧ d ≤ 9999
  · rw [if_pos h1]
    refine ev_cong (fun k => if_pos (decide_eq_true h1)) (ev_call (at_is hr (by omega) q) ?_)
    cases c : hereK pk l q.data.toList with
    | false =>
      rw [if_neg (by simp), if_neg (by simp)]
      exact ev_is fun k => if_pos (by omega)
    | true =>
      have hp := hereK_lt c
      rw [if_pos rfl, if_pos rfl]
      generalize posK pk l q.data.toList = p at hp
      refine ev_cong (fun k => if_neg (by omega)) ?_
      by_cases h2 : v = -1
      · exact ev_cong (fun k => if_pos h2) (set_j0 hg hl hp d v false ⟨fun h => by simp at h, fun h => absurd (.inl h2) h⟩)
      · refine ev_cong (fun k => (if_neg h2).trans ((if_pos (by omega)).trans (if_pos (by omega)))) (set_j0 hg hl hp d v _ ⟨fun h => ?_, fun h => ?_⟩)
        · have := bne_iff_ne.1 h
          rintro (h3 | h3)
          · exact h2 h3
          · exact this h3
        · exact bne_iff_ne.2 fun h3 => h (.inr h3)
  · rw [if_neg h1]
    exact ev_is fun k => (if_neg (by simpa using h1)).trans rfl
end Go.Proofs.YtegggpipggniaaaDoor.Pure

/- A name with a number behind it, by the reference. -/
namespace Go.Proofs.YtegggpipggniaaaDoor.Pure
open Go.RowKit Go.Proofs.YtegggpipggniaaaDoor.Qa Go.Proofs.YtegggpipggniaaaDoorW.PrintWords Go.Proofs.YtegggpipggniaaaDoorW.PrintLast Go.Proofs.YtegggpipggniaaaDoor.Aid
def twoN (n : Int) : List Int := [(wrap64 (48 + (wrap64 (Int.tdiv n 10)))) % 256, (wrap64 (48 + (Int.tmod n 10))) % 256]
def seqT (s : ByteArray) (n : Int) : ByteArray := s ++ strOfNums (twoN n)
def seqR (s : ByteArray) (n : Int) : Int × ByteArray := if nameB s then (if 0 ≤ n ∧ n ≤ 99 then (if nameB (seqT s n) then (0, seqT s n) else (5, ⟨#[]⟩)) else (3, ⟨#[]⟩)) else (5, ⟨#[]⟩)
theorem strOfNums_two (a b : Int) : strOfNums [a] ++ strOfNums [b] = strOfNums [a, b] := by
  unfold strOfNums
  apply ByteArray.ext
  simp
theorem digit (d : Int) (h0 : 0 ≤ d) (h1 : d < 10) : Ev (fun k => spec_l1Digits.f k d) (strOfNums [(wrap64 (48 + d)) % 256]) :=
  ev_done fun k => by simp only [spec_l1Digits.f]; rw [if_neg (by omega), if_pos h1]
theorem tdiv10 {n : Int} (h : 0 ≤ n ∧ n ≤ 99) : wrap64 (Int.tdiv n 10) = n / 10 ∧ Int.tmod n 10 = n % 10 := by
  have h1 : Int.tdiv n 10 = n / 10 := Int.tdiv_eq_ediv_of_nonneg h.1
  have h2 : Int.tmod n 10 = n % 10 := Int.tmod_eq_emod_of_nonneg h.1
  rw [h1, h2, wrap_id (by omega) (by omega)]
  exact ⟨rfl, rfl⟩
theorem seq_spec (s : ByteArray) (n : Int) (hs : s.size ≤ 1048576) (hn : 0 ≤ n ∧ n ≤ 99) : Ev (fun k => spec_l1Seq.f k s n) (seqT s n) := by
  obtain ⟨e1, e2⟩ := tdiv10 hn
  unfold spec_l1Seq.f
  have e : seqT s n = (s ++ strOfNums [(wrap64 (48 + (wrap64 (Int.tdiv n 10)))) % 256]) ++ strOfNums [(wrap64 (48 + (Int.tmod n 10))) % 256] := by
    unfold seqT twoN
    rw [ByteArray.append_assoc, strOfNums_two]
  rw [e]
  refine ev_call (digit (wrap64 (Int.tdiv n 10)) (by rw [e1]; omega) (by rw [e1]; omega)) (ev_cong (fun k => if_pos (by rw [size_strOfNums]; simp; omega)) ?_)
  refine ev_call (digit (Int.tmod n 10) (by rw [e2]; omega) (by rw [e2]; omega)) (ev_is fun k => if_pos (by rw [ByteArray.size_append, size_strOfNums, size_strOfNums]; simp; omega))
theorem seqT_size (s : ByteArray) (n : Int) : (seqT s n).size = s.size + 2 := by
  unfold seqT twoN
  rw [ByteArray.size_append, size_strOfNums]
  rfl
end Go.Proofs.YtegggpipggniaaaDoor.Pure

/- A path joined, by the reference. -/
namespace Go.Proofs.YtegggpipggniaaaDoor.Pure
open Go.RowKit Go.Proofs.YtegggpipggniaaaDoor.Qa Go.Proofs.YtegggpipggniaaaDoorW.PrintWords Go.Proofs.YtegggpipggniaaaDoorW.PrintLast Go.Proofs.YtegggpipggniaaaDoor.Aid
def joinR (s n : ByteArray) : ByteArray := if s.data.toList = [47] then s ++ n else (s ++ (⟨#[47]⟩ : ByteArray)) ++ n
theorem cat_size (s n : ByteArray) : (s ++ n).size = s.size + n.size := ByteArray.size_append
theorem join_spec (s n : ByteArray) (hs : s.size ≤ 24) (hn : n.size ≤ 1048576) : spec_l1Join.f s n = some (joinR s n) := by
  unfold spec_l1Join.f joinR
  rw [tl, cat_size]
  have e1 : (⟨#[47]⟩ : ByteArray).size = 1 := rfl
  by_cases h : s.data.toList = [47]
  · have e : s = (⟨#[47]⟩ : ByteArray) := eq_mk h
    rw [if_pos h, if_pos h, if_pos (by omega), e]
  · rw [if_neg h, if_neg h, if_pos (by omega), if_pos (by omega)]
end Go.Proofs.YtegggpipggniaaaDoor.Pure

/- A node put to a right tree, by the reference. -/
namespace Go.Proofs.YtegggpipggniaaaDoor.Pure
open Go.RowKit Go.Proofs.YtegggpipggniaaaDoor.Qa Go.Proofs.YtegggpipggniaaaDoorW.PrintWords Go.Proofs.YtegggpipggniaaaDoorW.PrintLast Go.Proofs.YtegggpipggniaaaDoor.Aid
theorem ev_one {α : Type} {g : Nat → Option α} {a b : α} (h : Ev g a) (k : Ev g b) : a = b := by
  obtain ⟨n, hn⟩ := h
  obtain ⟨m, hm⟩ := k
  have h1 := hn (n + m) (by omega)
  have h2 := hm (n + m) (by omega)
  rw [h1] at h2
  exact Option.some.inj h2
theorem splF_tail (l : List UInt8) : ∀ (P : List UInt8) (p : Nat) (hp : p < l.length), l[p] = 47 → (∀ (j : Nat) (hj : j < l.length), p < j → l[j] ≠ 47) → l.drop (p + 1) ∈ (splF P l).drop 1 := by
  induction l with
  | nil => intro P p hp; simp at hp
  | cons c t ih =>
    intro P p hp h1 h2
    unfold splF
    by_cases hc : c = 47
    · rw [if_pos hc, List.drop_succ_cons, List.drop_zero]
      cases p with
      | zero =>
        have h0 : t.count 47 = 0 := List.count_eq_zero.2 fun hm => by
          obtain ⟨j, hj, e⟩ := List.getElem_of_mem hm
          exact h2 (j + 1) (by simpa using hj) (by omega) (by simpa using e)
        rw [splF_none t [] h0]
        simp
      | succ p =>
        have := ih [] p (by simpa using hp) (by simpa using h1) (fun j hj hlt => by
          have := h2 (j + 1) (by simpa using hj) (by omega)
          rwa [List.getElem_cons_succ] at this)
        rw [List.drop_succ_cons]
        exact List.mem_of_mem_drop this
    · rw [if_neg hc]
      cases p with
      | zero => exact absurd (by simpa using h1) hc
      | succ p =>
        have := ih (P ++ [c]) p (by simpa using hp) (by simpa using h1) (fun j hj hlt => by
          have := h2 (j + 1) (by simpa using hj) (by omega)
          rwa [List.getElem_cons_succ] at this)
        rw [List.drop_succ_cons]
        exact this
theorem nm_name {s : ByteArray} (h : faultR s = 0) (ht : s.data.toList ≠ [47]) : nameB (nmR s) = true := by
  have hl := size_list s
  obtain ⟨hs, h2⟩ := fault_zero h
  rcases h2 with h2 | ⟨_, h3, h4⟩
  · exact absurd h2 ht
  · have hall : ((pieces s).drop 1).all nameB = true := by
      have hn : (namesR s).2 = true := by rw [h3]
      unfold namesR at hn
      rw [if_neg ht] at hn
      by_cases c1 : (pieces s).length < 2
      · rw [if_pos c1] at hn; cases hn
      · rw [if_neg c1] at hn
        by_cases c2 : (headR s).data.toList = []
        · rw [if_pos c2] at hn
          by_cases c3 : ((pieces s).drop 1).all nameB = true
          · exact c3
          · rw [if_neg c3] at hn; cases hn
        · rw [if_neg c2] at hn; cases hn
    obtain ⟨_, p, _, h7, _, h9⟩ := upN_spec h
    obtain ⟨p', hp', e1, e2⟩ := last_exists _ h4
    have h10 : Ev (fun k => spec_l1Last.f k s) (p' : Int) := last_spec_l0 s hs p' hp' e1 e2 s.size 0 0 (by omega) (fun h => by omega)
    have e : p = p' := by have := ev_one h9 h10; omega
    subst e
    have hm := splF_tail s.data.toList [] p hp' e1 e2
    refine List.all_eq_true.1 hall _ ?_
    have e3 : nmR s = mkB (s.data.toList.drop (p + 1)) := by
      rw [h7, ext_mk, List.take_of_length_le (by rw [List.length_drop]; omega)]
    rw [e3]
    unfold pieces
    rw [← List.map_drop]
    exact List.mem_map.2 ⟨_, hm, rfl⟩

theorem posK_map {α : Type} (key : α → List UInt8) (l : List α) (q : List UInt8) : posK key l q = ((l.map key).takeWhile (fun x => decide (x < q))).length := by
  unfold posK
  rw [List.takeWhile_map, List.length_map]
  rfl
theorem hereK_map {α : Type} (key : α → List UInt8) (l : List α) (q : List UInt8) : hereK key l q = (match (l.map key)[posK key l q]? with
    | some x => decide (x = q)
    | none => false) := by
  unfold hereK
  rw [List.getElem?_map]
  cases l[posK key l q]? <;> rfl
theorem same_keys {α : Type} {key : α → List UInt8} {l m : List α} (h : l.map key = m.map key) (q : List UInt8) : posK key l q = posK key m q ∧ hereK key l q = hereK key m q := by
  have e : posK key l q = posK key m q := by rw [posK_map, posK_map, h]
  exact ⟨e, by rw [hereK_map, hereK_map, h, e]⟩
theorem same_rise {α : Type} {key : α → List UInt8} {l m : List α} (h : l.map key = m.map key) (hr : Rises key l) : Rises key m := by
  have : (l.map key).Pairwise (· < ·) := List.pairwise_map.2 hr
  rw [h] at this
  exact List.pairwise_map.1 this
theorem set_keys {α : Type} {key : α → List UInt8} {l : List α} {i : Nat} (hi : i < l.length) {z : α} (hz : key z = key l[i]) : (l.set i z).map key = l.map key := by
  apply List.ext_getElem
  · simp
  · intro j h1 h2
    rw [List.getElem_map, List.getElem_map, List.getElem_set]
    by_cases c : i = j
    · subst c; rw [if_pos rfl, hz]
    · rw [if_neg c]

def insAt (l : List ZZ) (p : Nat) (z : ZZ) : List ZZ := l.take p ++ [z] ++ l.drop p
noncomputable def makeR (l : List ZZ) (q : ByteArray) (d o : Int) : ZR :=
  if hereK pk l q.data.toList = true then badZ 6 else if l.length = 20 then badZ 2 else (0, q, insAt l (posK pk l q.data.toList) ⟨q, d, 0, o, 0⟩)
def nextUp (l : List ZZ) (i : Int) : List ZZ := l.set i.toNat (⟨(rd_T32 l i).f0, (rd_T32 l i).f1, (rd_T32 l i).f2, (rd_T32 l i).f3, wrap64 (((rd_T32 l i).f4) + 1)⟩ : ZZ)
theorem nextUp_keys (l : List ZZ) (p : Nat) (hp : p < l.length) : (nextUp l (p : Int)).map pk = l.map pk := by
  unfold nextUp
  rw [Int.toNat_natCast]
  refine set_keys hp ?_
  rw [rd_T32_at hp]
  rfl
theorem nextUp_len (l : List ZZ) (i : Int) : (nextUp l i).length = l.length := by unfold nextUp; rw [List.length_set]
theorem put_l0 {l : List ZZ} (hr : Rises pk l) (hl : l.length ≤ 20) (z : ZZ) (d : Nat) : ∀ (i : Nat), i + d = l.length → i ≤ posK pk l (pk z) → Ev (fun k => spec_l2Put.l0 k l (i : Int) z.f0 z.f1 z.f2 z.f3 z.f4) (insAt l (posK pk l (pk z)) z) := by
  have fin : ∀ i : Nat, i ≤ l.length → (i < l.length → ¬ pk (rd_T32 l (i : Int)) < pk z) → Ev (fun k => spec_l2Put.l0 k l (i : Int) z.f0 z.f1 z.f2 z.f3 z.f4) (insAt l i z) := by
    intro i hi hn
    have ht : (l.take i).length ≤ 20 := by rw [List.length_take]; omega
    have hd : (l.drop i).length ≤ 20 := by rw [List.length_drop]; omega
    refine ev_done fun k => ?_
    simp only [spec_l2Put.l0, Option.bind_some, List.nil_append, List.length_nil, Nat.zero_add, Int.toNat_natCast]
    by_cases c : i < l.length
    · have hb : ¬ Op.bytesLess (((rd_T32 l (i : Int)).f0).toList) z.f0.toList = true := by rw [bl_pk]; exact hn c
      rw [if_pos (by omega), if_pos (by omega), if_neg hb, if_pos (by omega), if_pos (by omega), if_pos (by omega), if_pos (by rw [List.length_append, List.length_singleton]; omega)]
      rfl
    · rw [if_neg (by omega), if_pos (by omega), if_pos (by omega), if_pos (by omega), if_pos (by omega), if_pos (by rw [List.length_append, List.length_singleton]; omega)]
      rfl
  induction d with
  | zero =>
    intro i h hp
    have e : i = posK pk l (pk z) := by have := posK_le pk l (pk z); omega
    rw [← e]
    exact fin i (by omega) (fun c => by omega)
  | succ d ih =>
    intro i h hp
    have hi : i < l.length := by omega
    have hrd := rd_T32_at hi
    by_cases c : pk l[i] < pk z
    · refine ev_step (fun k => spec_l2Put.l0 k l ((i + 1 : Nat) : Int) z.f0 z.f1 z.f2 z.f3 z.f4) (fun k => ?_) (ih (i + 1) (by omega) ((posK_iff hr _ i hi).1 c))
      have hb : Op.bytesLess (((rd_T32 l (i : Int)).f0).toList) z.f0.toList = true := by rw [bl_pk, hrd]; exact c
      simp only [spec_l2Put.l0]; rw [if_pos (by omega), if_pos (by omega), if_pos hb, wrap_up hi (by omega)]
    · have e : i = posK pk l (pk z) := by have := (not_congr (posK_iff hr _ i hi)).1 c; omega
      rw [← e]
      exact fin i (by omega) (fun _ => by rw [hrd]; exact c)
theorem put_is {l : List ZZ} (hr : Rises pk l) (hl : l.length ≤ 20) (z : ZZ) : Ev (fun k => spec_l2Put.f k l z.f0 z.f1 z.f2 z.f3 z.f4) (insAt l (posK pk l (pk z)) z) := put_l0 hr hl z l.length 0 (by omega) (Nat.zero_le _)
theorem make_spec {l m : List ZZ} (hk : l.map pk = m.map pk) (hr : Rises pk l) (hl : l.length ≤ 20) (q : ByteArray) (d o : Int) : Ev (fun k => spec_l2Create.j1 k l q d o m) (makeR m q d o) := by
  have hlm : m.length = l.length := by have := congrArg List.length hk; simpa using this.symm
  obtain ⟨e1, e2⟩ := same_keys hk q.data.toList
  unfold makeR
  refine ev_step _ (fun k => by simp only [spec_l2Create.j1]; rfl) (ev_call (at_is hr (by omega) q) ?_)
  rw [e1, e2]
  cases c : hereK pk m q.data.toList with
  | true =>
    rw [if_pos rfl, if_pos rfl]
    exact ev_is fun k => if_pos (by omega)
  | false =>
    rw [if_neg (by simp), if_neg (by simp)]
    refine ev_cong (fun k => if_neg (by omega)) ?_
    by_cases c2 : m.length = 20
    · rw [if_pos c2]
      exact ev_is fun k => if_pos (by omega)
    · rw [if_neg c2]
      exact ev_cong (fun k => if_neg (by omega)) (ev_call (put_is (same_rise hk hr) (by omega) (⟨q, d, 0, o, 0⟩ : ZZ)) (Ev.now _))
noncomputable def createUp (l : List ZZ) (q : ByteArray) (p : Nat) (d o : Int) (b : Bool) : ZR :=
  if b = true then (if (rd_T32 l (p : Int)).f4 = 100 then badZ 3 else
    (if nameB (seqT (nmR q) (rd_T32 l (p : Int)).f4) = true then
      (if faultR (joinR (upR q) (seqT (nmR q) (rd_T32 l (p : Int)).f4)) = 0 then makeR (nextUp l (p : Int)) (joinR (upR q) (seqT (nmR q) (rd_T32 l (p : Int)).f4)) d o else badZ (faultR (joinR (upR q) (seqT (nmR q) (rd_T32 l (p : Int)).f4))))
      else badZ 5)) else makeR l q d o
noncomputable def createIn (l : List ZZ) (q : ByteArray) (d o : Int) (b : Bool) : ZR :=
  if (0 ≤ d ∧ d ≤ 9999) ∧ (0 ≤ o ∧ o ≤ 9) then (if q.data.toList = [47] then badZ 1 else
    (if hereK pk l (upR q).data.toList = true then
      (if (rd_T32 l (posK pk l (upR q).data.toList : Int)).f3 = 0 then createUp l q (posK pk l (upR q).data.toList) d o b else badZ 8) else badZ 4)) else badZ 3
theorem next_le {l : List ZZ} (hg : ∀ z ∈ l, zOwn z = 0) {p : Nat} (hp : p < l.length) : 0 ≤ (rd_T32 l (p : Int)).f4 ∧ (rd_T32 l (p : Int)).f4 ≤ 100 := by
  rw [rd_T32_at hp]
  have := (zOwn_ok (hg _ (List.getElem_mem hp))).2
  unfold zIn at this
  simp only [Bool.and_eq_true, decide_eq_true_eq] at this
  exact this.2.2.2
set_option maxHeartbeats 1000000 in
theorem create_j0_spec {l : List ZZ} (hg : ∀ z ∈ l, zOwn z = 0) (hr : Rises pk l) (hl : l.length ≤ 20) {q : ByteArray} (hq : faultR q = 0) (d o : Int) (b : Bool) (hdo : (0 ≤ d ∧ d ≤ 9999) ∧ (0 ≤ o ∧ o ≤ 9)) : Ev (fun k => spec_l2Create.j0 k l q d o b false) (createIn l q d o b) := by
  have hsz := upR_size hq
  unfold createIn
  rw [if_pos hdo]
  by_cases h1 : q.data.toList = [47]
  · rw [if_pos h1]
    exact ev_done fun k => by simp only [spec_l2Create.j0]; rw [if_neg (by simp), if_pos (by rw [tl]; exact h1)]; rfl
  · rw [if_neg h1]
    refine ev_step _ (fun k => by simp only [spec_l2Create.j0]; rw [if_neg (by simp), if_neg (by rw [tl]; exact h1)]) (ev_call (parent_is hq) (ev_call (at_is hr (by omega) (upR q)) ?_))
    cases c : hereK pk l (upR q).data.toList with
    | false =>
      rw [if_neg (by simp), if_neg (by simp)]
      exact ev_is fun k => if_pos (by omega)
    | true =>
      have hp := hereK_lt c
      rw [if_pos rfl, if_pos rfl]
      generalize posK pk l (upR q).data.toList = p at hp
      refine ev_cong (fun k => (if_neg (by omega)).trans ((if_pos (by omega)).trans (if_pos (by omega)))) ?_
      by_cases c2 : (rd_T32 l (p : Int)).f3 = 0
      · rw [if_pos c2]
        refine ev_cong (fun k => if_pos c2) (ev_call (ev_is fun _ => copy_spec l (by omega)) ?_)
        unfold createUp
        cases b with
        | false =>
          rw [if_neg (by simp)]
          exact ev_cong (fun k => if_neg (by simp)) (make_spec rfl hr hl q d o)
        | true =>
          rw [if_pos rfl]
          refine ev_cong (fun k => if_pos rfl) ?_
          have hn := next_le hg hp
          by_cases c3 : (rd_T32 l (p : Int)).f4 = 100
          · rw [if_pos c3]
            exact ev_is fun k => if_pos (by omega)
          · rw [if_neg c3]
            obtain ⟨_, m, h6, h7, _, h9⟩ := upN_spec hq
            have hq24 := (path_mark hq).1
            have hseq := seq_spec (nmR q) (rd_T32 l (p : Int)).f4 (by omega) (by omega)
            have hsl := seqT_size (nmR q) (rd_T32 l (p : Int)).f4
            generalize hS : seqT (nmR q) (rd_T32 l (p : Int)).f4 = S at hseq hsl
            refine ev_cong (fun k => if_neg (by omega)) (ev_call h9 ?_)
            rw [h7] at hseq
            refine ev_cong (f := fun k => (spec_l1Seq.f k (q.extract (m + 1) q.size) (rd_T32 l (p : Int)).f4).bind fun t137 => ((spec_l1Name.f k t137).bind fun t138 => (if t138 = true then ((spec_l1Parent.f k q).bind fun t144 => ((spec_l1Seq.f k (q.extract (m + 1) q.size) (rd_T32 l (p : Int)).f4).bind fun t145 => ((spec_l1Join.f t144 t145).bind fun t146 => ((spec_l1Fault.f k t146).bind fun t147 => (if t147 = 0 then (if (p : Int) < (l.length : Int) then (spec_l2Create.j1 k l t146 d o (nextUp l (p : Int))) else (none)) else ((spec_l2Bad.f t147).bind fun bt149 => (some (bt149.1, bt149.2.1, bt149.2.2)))))))) else ((spec_l2Bad.f 5).bind fun bt139 => (some (bt139.1, bt139.2.1, bt139.2.2)))))) (fun k => ?_) ?_
            · have b1 : (0 : Int) ≤ ((m + 1 : Nat) : Int) := by omega
              have b2 : ((m + 1 : Nat) : Int) ≤ (q.size : Int) := by omega
              have wm := w_up m (by omega)
              rw [wm, if_pos b1, if_pos b2, Int.toNat_natCast]; rfl
            · refine ev_call hseq (ev_call (name_spec S (by omega)) ?_)
              by_cases c4 : nameB S = true
              · rw [if_pos c4]
                refine ev_cong (fun k => if_pos c4) (ev_call (parent_is hq) (ev_call hseq (ev_call (ev_is fun _ => join_spec (upR q) S hsz.1 (by omega)) (ev_call (fault_spec _) ?_))))
                by_cases c5 : faultR (joinR (upR q) S) = 0
                · rw [if_pos c5]
                  exact ev_cong (fun k => (if_pos c5).trans (if_pos (by omega))) (make_spec (nextUp_keys l p hp).symm hr hl _ d o)
                · rw [if_neg c5]
                  exact ev_is fun k => if_neg c5
              · rw [if_neg c4]
                exact ev_is fun k => if_neg c4
      · rw [if_neg c2]
        exact ev_is fun k => if_neg c2
theorem create_in_spec {l : List ZZ} (hg : ∀ z ∈ l, zOwn z = 0) (hr : Rises pk l) (hl : l.length ≤ 20) {q : ByteArray} (hq : faultR q = 0) (d o : Int) (b : Bool) : Ev (fun k => spec_l2Create.f k l q d o b) (createIn l q d o b) := by
  unfold spec_l2Create.f spec_l2Data.f spec_l2Owner.f
  rw [spec_l1In_is, spec_l1In_is]
  simp only [Option.bind_some]
  by_cases h1 : 0 ≤ d ∧ d ≤ 9999
  · refine ev_cong (fun k => if_pos (decide_eq_true h1)) ?_
    by_cases h2 : 0 ≤ o ∧ o ≤ 9
    · rw [decide_eq_true h2]
      exact create_j0_spec hg hr hl hq d o b ⟨h1, h2⟩
    · rw [decide_eq_false h2]
      unfold createIn
      rw [if_neg (fun h => h2 h.2)]
      exact ev_done fun k => by simp only [spec_l2Create.j0]; rw [if_pos (by simp)]; rfl
  · refine ev_cong (fun k => if_neg (by simpa using h1)) ?_
    unfold createIn
    rw [if_neg (fun h => h1 h.1)]
    exact ev_done fun k => by simp only [spec_l2Create.j0]; rw [if_pos trivial]; rfl
end Go.Proofs.YtegggpipggniaaaDoor.Pure

/- The names of kids, by the reference. -/
namespace Go.Proofs.YtegggpipggniaaaDoor.Pure
open Go.RowKit Go.Proofs.YtegggpipggniaaaDoor.Qa Go.Proofs.YtegggpipggniaaaDoorW.PrintWords Go.Proofs.YtegggpipggniaaaDoorW.PrintLast Go.Proofs.YtegggpipggniaaaDoor.Aid
noncomputable def kidsL (q : ByteArray) : List ZZ → List ByteArray
  | [] => []
  | z :: r => if pk z = [47] then kidsL q r else if (upR z.f0).data.toList = q.data.toList then nmR z.f0 :: kidsL q r else kidsL q r
theorem kidsL_cons (q : ByteArray) (z : ZZ) (r : List ZZ) : kidsL q (z :: r) = if pk z = [47] then kidsL q r else if (upR z.f0).data.toList = q.data.toList then nmR z.f0 :: kidsL q r else kidsL q r := rfl
theorem kidsL_len (q : ByteArray) : ∀ l : List ZZ, (kidsL q l).length ≤ l.length
  | [] => Nat.le_refl _
  | z :: r => by
    have := kidsL_len q r
    rw [kidsL_cons, List.length_cons]
    split
    · omega
    · split
      · rw [List.length_cons]; omega
      · omega
theorem kids_spec_l0 {l : List ZZ} (hg : ∀ z ∈ l, zOwn z = 0) (hl : l.length ≤ 20) (q : ByteArray) (d : Nat) : ∀ (i : Nat) (out : List ByteArray), i + d = l.length → out.length ≤ i → Ev (fun k => spec_l2Kids.l0 k l q out (i : Int)) (out ++ kidsL q (l.drop i)) := by
  induction d with
  | zero =>
    intro i out h ho
    rw [drop_end (by omega)]
    exact ev_done fun k => by simp only [spec_l2Kids.l0]; rw [if_neg (by omega)]; simp [kidsL]
  | succ d ih =>
    intro i out h ho
    have hi : i < l.length := by omega
    have hrd := rd_T32_at hi
    have wi := wrap_up hi (by omega)
    obtain ⟨hf, _⟩ := zOwn_ok (hg _ (List.getElem_mem hi))
    rw [drop_at hi, kidsL_cons]
    by_cases c : pk l[i] = [47]
    · rw [if_pos c]
      refine ev_step (fun k => spec_l2Kids.l0 k l q out ((i + 1 : Nat) : Int)) (fun k => ?_) (ih (i + 1) out (by omega) (by omega))
      simp only [spec_l2Kids.l0]; rw [if_pos (by omega), if_pos (by omega), hrd, if_pos (show (l[i]).f0.toList = [47] by rw [tl]; exact c), wi]
    · rw [if_neg c]
      refine ev_step (fun k => (spec_l1Parent.f k (l[i]).f0).bind fun t105 => (if t105.toList = q.toList then ((spec_l1Last.f k (l[i]).f0).bind fun t106 => (if 0 ≤ (wrap64 (t106 + 1)) then (if (wrap64 (t106 + 1)) ≤ ((l[i]).f0.size : Int) then (if out.length < 8796093022208 then (spec_l2Kids.l0 k l q (out ++ [((l[i]).f0).extract ((wrap64 (t106 + 1)) : Int).toNat (l[i]).f0.size]) ((i + 1 : Nat) : Int)) else (none)) else (none)) else (none))) else (spec_l2Kids.l0 k l q out ((i + 1 : Nat) : Int)))) (fun k => ?_) (ev_call (parent_is hf) ?_)
      · simp only [spec_l2Kids.l0]; rw [if_pos (by omega), if_pos (by omega), hrd, if_neg (show ¬ (l[i]).f0.toList = [47] by rw [tl]; exact c), wi]
      · by_cases c2 : (upR (l[i]).f0).data.toList = q.data.toList
        · rw [if_pos c2]
          obtain ⟨_, p, h6, h7, _, h9⟩ := upN_spec hf
          have hsz := (path_mark hf).1
          have wp := w_up p (by omega)
          have IH := ih (i + 1) (out ++ [nmR (l[i]).f0]) (by omega) (by rw [List.length_append]; simp; omega)
          rw [List.append_assoc] at IH
          refine ev_cong (fun k => if_pos (by rw [tl, tl]; exact c2)) (ev_call h9 (ev_cong (fun k => ?_) IH))
          rw [wp, if_pos (by omega), if_pos (by omega), if_pos (by omega), Int.toNat_natCast, ← h7]
        · rw [if_neg c2]
          exact ev_cong (fun k => if_neg (by rw [tl, tl]; exact c2)) (ih (i + 1) out (by omega) (by omega))
theorem kids_spec {l : List ZZ} (hg : ∀ z ∈ l, zOwn z = 0) (hl : l.length ≤ 20) (q : ByteArray) : Ev (fun k => spec_l2Kids.f k l q) (kidsL q l) := by
  have := kids_spec_l0 hg hl q l.length 0 [] (by omega) (Nat.le_refl _)
  rw [List.nil_append, List.drop_zero] at this
  exact this
end Go.Proofs.YtegggpipggniaaaDoor.Pure

/- A node taken from a right tree, by the reference. -/
namespace Go.Proofs.YtegggpipggniaaaDoor.Pure
open Go.RowKit Go.Proofs.YtegggpipggniaaaDoor.Qa Go.Proofs.YtegggpipggniaaaDoorW.PrintWords Go.Proofs.YtegggpipggniaaaDoorW.PrintLast Go.Proofs.YtegggpipggniaaaDoor.Aid
def goneAt (l : List ZZ) (p : Nat) : List ZZ := l.take p ++ l.drop (p + 1)
noncomputable def deleteIn (l : List ZZ) (q : ByteArray) (v : Int) : ZR :=
  if q.data.toList = [47] then badZ 1 else if hereK pk l q.data.toList = true then
    (if v = -1 ∨ v = (rd_T32 l (posK pk l q.data.toList : Int)).f2 then (if kidsL q l = [] then (0, (⟨#[]⟩ : ByteArray), goneAt l (posK pk l q.data.toList)) else badZ 8) else badZ 7) else badZ 4
theorem del_top {l : List ZZ} {q : ByteArray} {v : Int} (h : q.data.toList = [47]) : deleteIn l q v = badZ 1 := by unfold deleteIn; exact if_pos h
theorem del_none {l : List ZZ} {q : ByteArray} {v : Int} (h : ¬ q.data.toList = [47]) (c : ¬ hereK pk l q.data.toList = true) : deleteIn l q v = badZ 4 := by unfold deleteIn; exact (if_neg h).trans (if_neg c)
theorem del_ver {l : List ZZ} {q : ByteArray} {v : Int} (h : ¬ q.data.toList = [47]) (c : hereK pk l q.data.toList = true) (hv : ¬ (v = -1 ∨ v = (rd_T32 l (posK pk l q.data.toList : Int)).f2)) : deleteIn l q v = badZ 7 := by unfold deleteIn; exact (if_neg h).trans ((if_pos c).trans (if_neg hv))
theorem del_kids {l : List ZZ} {q : ByteArray} {v : Int} (h : ¬ q.data.toList = [47]) (c : hereK pk l q.data.toList = true) (hv : v = -1 ∨ v = (rd_T32 l (posK pk l q.data.toList : Int)).f2) (hk : ¬ kidsL q l = []) : deleteIn l q v = badZ 8 := by unfold deleteIn; exact (if_neg h).trans ((if_pos c).trans ((if_pos hv).trans (if_neg hk)))
theorem del_ok {l : List ZZ} {q : ByteArray} {v : Int} (h : ¬ q.data.toList = [47]) (c : hereK pk l q.data.toList = true) (hv : v = -1 ∨ v = (rd_T32 l (posK pk l q.data.toList : Int)).f2) (hk : kidsL q l = []) : deleteIn l q v = (0, (⟨#[]⟩ : ByteArray), goneAt l (posK pk l q.data.toList)) := by unfold deleteIn; exact (if_neg h).trans ((if_pos c).trans ((if_pos hv).trans (if_pos hk)))
theorem kids_pos {q : ByteArray} {l : List ZZ} (h : ¬ kidsL q l = []) : ((kidsL q l).length : Int) > 0 := by
  cases hk : kidsL q l with
  | nil => exact absurd hk h
  | cons x r => rw [List.length_cons]; omega
theorem delete_l2 {l : List ZZ} (hg : ∀ z ∈ l, zOwn z = 0) (hl : l.length ≤ 20) (q : ByteArray) (p : Nat) (hp : p < l.length) (b : Bool) (R : ZR) (h7 : b = true → R = badZ 7) (h8 : b = false → ¬ kidsL q l = [] → R = badZ 8) (h0 : b = false → kidsL q l = [] → R = (0, (⟨#[]⟩ : ByteArray), goneAt l p)) : Ev (fun k => spec_l2Delete.j0 k l q (p : Int) b) R := by
  cases b with
  | true =>
    rw [h7 rfl]
    exact ev_done fun k => by simp only [spec_l2Delete.j0]; rw [if_pos trivial]; rfl
  | false =>
    refine ev_step _ (fun k => by simp only [spec_l2Delete.j0]; rw [if_neg (by simp)]) (ev_call (kids_spec hg hl q) ?_)
    by_cases hk : kidsL q l = []
    · rw [h0 rfl hk, hk]
      have ht : (l.take p).length ≤ 20 := by rw [List.length_take]; omega
      have hd : (l.drop (p + 1)).length ≤ 20 := by rw [List.length_drop]; omega
      have b0 : (0 : Int) ≤ (p : Int) := by omega
      have b1 : (p : Int) ≤ (l.length : Int) := by omega
      have b2 : (l.take p).length < 2932031007402 := by omega
      have b3 : (0 : Int) ≤ ((p + 1 : Nat) : Int) := by omega
      have b4 : ((p + 1 : Nat) : Int) ≤ (l.length : Int) := by omega
      have b5 : (l.take p).length + (l.drop (p + 1)).length < 2932031007402 := by omega
      have wp := w_up p (by omega)
      refine ev_is fun k => ?_
      rw [if_neg (show ¬ (([] : List ByteArray).length : Int) > 0 by simp)]
      simp only [Option.bind_some, List.nil_append, List.length_nil, Nat.zero_add, Int.toNat_natCast, wp, b0, b1, b2, b3, b4, b5, if_true]
      rfl
    · rw [h8 rfl hk]
      exact ev_is fun k => if_pos (kids_pos hk)
theorem delete_in_spec {l : List ZZ} (hg : ∀ z ∈ l, zOwn z = 0) (hr : Rises pk l) (hl : l.length ≤ 20) (q : ByteArray) (v : Int) : Ev (fun k => spec_l2Delete.f k l q v) (deleteIn l q v) := by
  unfold spec_l2Delete.f
  by_cases h : q.data.toList = [47]
  · rw [del_top h]
    exact ev_is fun k => if_pos (by rw [tl]; exact h)
  · refine ev_cong (fun k => if_neg (by rw [tl]; exact h)) (ev_call (at_is hr (by omega) q) ?_)
    by_cases c : hereK pk l q.data.toList = true
    · have hp := hereK_lt c
      have ei : (if hereK pk l q.data.toList = true then (posK pk l q.data.toList : Int) else -1) = (posK pk l q.data.toList : Int) := if_pos c
      have h7 : ¬ (v = -1 ∨ v = (rd_T32 l (posK pk l q.data.toList : Int)).f2) → deleteIn l q v = badZ 7 := del_ver h c
      have h8 := fun hv hk => del_kids (l := l) (q := q) (v := v) h c hv hk
      have h0 := fun hv hk => del_ok (l := l) (q := q) (v := v) h c hv hk
      rw [ei]
      generalize posK pk l q.data.toList = p at hp h7 h8 h0
      refine ev_cong (fun k => if_neg (by omega)) ?_
      by_cases h2 : v = -1
      · exact ev_cong (fun k => if_pos h2) (delete_l2 hg hl q p hp false _ (fun h => by cases h) (fun _ hk => h8 (.inl h2) hk) (fun _ hk => h0 (.inl h2) hk))
      · refine ev_cong (fun k => (if_neg h2).trans ((if_pos (by omega)).trans (if_pos (by omega)))) (delete_l2 hg hl q p hp _ _ (fun hb => h7 ?_) (fun hb hk => h8 ?_ hk) (fun hb hk => h0 ?_ hk))
        · have := bne_iff_ne.1 hb
          rintro (h3 | h3)
          · exact h2 h3
          · exact this h3
        · exact .inr (by simpa using hb)
        · exact .inr (by simpa using hb)
    · rw [del_none h c]
      have ei : (if hereK pk l q.data.toList = true then (posK pk l q.data.toList : Int) else -1) = -1 := if_neg c
      rw [ei]
      exact ev_is fun k => if_pos (by omega)
end Go.Proofs.YtegggpipggniaaaDoor.Pure
