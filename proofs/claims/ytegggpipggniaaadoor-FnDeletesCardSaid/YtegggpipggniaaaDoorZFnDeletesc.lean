/- A part of the proof that for every input the law FnDeletes returns true: no condition. Functions of the translation, each proved to do what a plain Lean function tells, and what these tell. -/
import Derived.Test.YtegggpipggniaaaDoorQax0
import Derived.Test.YtegggpipggniaaaDoorQax7
import Derived.Test.YtegggpipggniaaaDoorQax10
import Derived.Test.YtegggpipggniaaaDoorQax6
import Derived.Test.YtegggpipggniaaaDoorQax8
import Derived.Test.YtegggpipggniaaaDoorQax9
import Derived.Test.YtegggpipggniaaaDoorQax15
import Derived.Test.YtegggpipggniaaaDoorQax19
import Derived.Test.YtegggpipggniaaaDoorQax21
import Derived.Test.YtegggpipggniaaaDoorZFnDeletesb
import Derived.Test.YtegggpipggniaaaDoorQax2
import Derived.Test.YtegggpipggniaaaDoorQax20
import Derived.Test.YtegggpipggniaaaDoorQax22
import Derived.Test.YtegggpipggniaaaDoorWWords
import Derived.Deep.Slices
import Derived.ChangeArms
import Derived.Test.YtegggpipggniaaaDoorZFnDeletesa
import Derived.Test.YtegggpipggniaaaDoorQax11
import Derived.Test.YtegggpipggniaaaDoorQax12
import Derived.Test.YtegggpipggniaaaDoorQax13
import Derived.Test.YtegggpipggniaaaDoorQax14
import Derived.Test.YtegggpipggniaaaDoorQax17
import Derived.Test.YtegggpipggniaaaDoorQax18
import Derived.Lib.Bytealg
import Derived.Test.YtegggpipggniaaaDoorQax16
import Derived.Test.YtegggpipggniaaaDoorQax3
import Derived.Test.YtegggpipggniaaaDoorQax4
import Derived.Test.YtegggpipggniaaaDoorQax5
import Derived.Test.YtegggpipggniaaaDoorQax27
namespace Go.Proofs.YtegggpipggniaaaDoor.Qa
open Go.RowKit Go.Proofs.YtegggpipggniaaaDoorW.PrintWords Go.Proofs.YtegggpipggniaaaDoorW.PrintLast Go.Proofs.YtegggpipggniaaaDoorW.PrintMore
attribute [local go_sem] max2_int min2_int max_two min_two max_three min_three max_four min_four
set_option linter.unusedVariables false
set_option linter.unusedSimpArgs false
set_option maxHeartbeats 8000000
set_option maxRecDepth 100000
/-! ### impl_SeqName: function 23 -/
def impl_SeqName.f (k : Nat) (a0 : ByteArray) (a1 : Int) : Option (Int × ByteArray) := (impl_isName.f k a0).bind fun t102 => (if t102 = true then ((impl_within.f a1 0 99).bind fun t103 => (if t103 = true then ((some (([(wrap64 (48 + (wrap64 (Int.tdiv a1 10)))) % 256, (wrap64 (48 + (Int.tmod a1 10))) % 256] : List Int) : List Int)).bind fun y104 => (if a0.size + (strOfNums y104).size ≤ 9223372036854775807 then ((impl_isName.f k (a0 ++ (strOfNums y104))).bind fun t107 => (if t107 = true then (some (0, a0 ++ (strOfNums y104))) else (some (5, (⟨#[]⟩ : ByteArray))))) else (none))) else (some (3, (⟨#[]⟩ : ByteArray))))) else (some (5, (⟨#[]⟩ : ByteArray))))
theorem impl_SeqName.mono : ∀ a0 a1 k, LeO (impl_SeqName.f k a0 a1) (impl_SeqName.f (k + 1) a0 a1) := by
 intro a0 a1 k
 unfold impl_SeqName.f
 with_reducible repeat' first | exact impl_isName.mono _ _ | exact LeO.refl _ | exact LeO.none _ | refine LeO.ite ?_ ?_ | refine LeO.bind ?_ (fun _ => ?_)
theorem impl_SeqName.calls (k : Nat) (a0 : ByteArray) (a1 : Int) (r1 : Int) (r2 : ByteArray) (w : World) (h : impl_SeqName.f k a0 a1 = some (r1, r2)) :
  Calls Tryd.prog 23 #[.string a0, .int .i64 a1] w fun e w' => e = .returned (.agg #[.int .i64 r1, .string r2]) ∧ Below w.heap.size w w' := by
 have hu46 := Tryd.underlying46
 have HB := aa (Below.refl w.heap.size w)
 have H : ((impl_isName.f k a0).bind fun t102 => (if t102 = true then ((impl_within.f a1 0 99).bind fun t103 => (if t103 = true then ((some (([(wrap64 (48 + (wrap64 (Int.tdiv a1 10)))) % 256, (wrap64 (48 + (Int.tmod a1 10))) % 256] : List Int) : List Int)).bind fun y104 => (if a0.size + (strOfNums y104).size ≤ 9223372036854775807 then ((impl_isName.f k (a0 ++ (strOfNums y104))).bind fun t107 => (if t107 = true then (some (0, a0 ++ (strOfNums y104))) else (some (5, (⟨#[]⟩ : ByteArray))))) else (none))) else (some (3, (⟨#[]⟩ : ByteArray))))) else (some (5, (⟨#[]⟩ : ByteArray))))) = some (r1, r2) := h
 clear h
 revert H
 refine obs_ fun t102 A3 H => ?_
 by_cases c4 : t102 = true
 ·
  subst c4
  rw [if_pos rfl] at H
  revert H
  refine obs_ fun t103 A5 H => ?_
  by_cases c6 : t103 = true
  ·
   subst c6
   rw [if_pos rfl] at H
   revert H
   refine obl_ fun y104 Ny104 H => ?_
   by_cases c7 : a0.size + (strOfNums y104).size ≤ 9223372036854775807
   ·
    rw [if_pos c7] at H
    have c7b0 := eq_true c7
    have c7b1 := decide_eq_true c7
    try have c7b2 : (9223372036854775807 < a0.size + (strOfNums y104).size) = False := eq_false (Nat.not_lt.2 c7)
    try (have c7b3 := c7b2; simp only [ByteArray.size_append] at c7b3)
    revert H
    refine obs_ fun t107 A8 H => ?_
    by_cases c9 : t107 = true
    ·
     subst c9
     rw [if_pos rfl] at H
     simp only [Option.some.injEq, Prod.mk.injEq] at H
     obtain ⟨rfl, rfl⟩ := H
     go_enter Tryd.func23, Tryd.ntmps23
     go_wp2_with (first | (refine be_ 4 #[.int .i64 0, .string (⟨#[]⟩ : ByteArray)] 46 ?_; intro gb101 hg w10 hbox hb; have n0_ := aa (below_step zjjbob hb); have n1_ := aa (hbox); have n2_ := aa ((zkpfjp : w.heap.size ≤ gb101)); have n3_ := aa ((zkpfjp : w.heap.size ≤ gb101)); clear HB; have HB := n0_; have BK101 := n1_; have GW101 := n2_; have GE101 := n3_; clear n0_ n1_ n2_ n3_; clear hb hbox hg) | (refine gc_ Tryd.func54 (some 8) #[.string a0] ?_; (with_reducible refine (impl_isName.calls k a0 true _ A3.out).mono ?_); rintro e w' ⟨rfl, ⟨nd, rfl⟩⟩; refine ⟨_, rfl, ?_⟩; (try (rw [drewN_self w10]; generalize hq_ : World.drewN w10 _ = w10; have n0_ : Aside0 (w10.heap[gb101]? = some (.cells #[.int .i64 0, .string (⟨#[]⟩ : ByteArray)] 46 (0, 0))) := ⟨by rw [← hq_]; exact (zkjhpm BK101.out)⟩; have n1_ : Aside0 (Below w.heap.size w w10) := ⟨by rw [← hq_]; exact zkmbdh⟩; clear BK101 HB hq_; have BK101 := n0_; have HB := n1_; clear n0_ n1_))) | (refine gc_ Tryd.func55 (some 13) #[.int .i64 a1, .int .i64 0, .int .i64 99] ?_; (with_reducible refine (impl_within.calls a1 0 99 true _ A5.out).mono ?_); rintro e w' ⟨rfl, ⟨nd, rfl⟩⟩; refine ⟨_, rfl, ?_⟩; (try (rw [drewN_self w10]; generalize hq_ : World.drewN w10 _ = w10; have n0_ : Aside0 (w10.heap[gb101]? = some (.cells #[.int .i64 0, .string (⟨#[]⟩ : ByteArray)] 46 (0, 0))) := ⟨by rw [← hq_]; exact (zkjhpm BK101.out)⟩; have n1_ : Aside0 (Below w.heap.size w w10) := ⟨by rw [← hq_]; exact zkmbdh⟩; clear BK101 HB hq_; have BK101 := n0_; have HB := n1_; clear n0_ n1_))) | ((with_reducible refine gate_dst (N := 25) rfl ?_); refine Kd.R_lit (Kd.int .u8) _ 5 ?hg (N := 25) ?hd (xs := ([(wrap64 (48 + (wrap64 (Int.tdiv a1 10)))) % 256, (wrap64 (48 + (Int.tmod a1 10))) % 256] : List Int)) (inner := [.int .u8 ((wrap64 (48 + (wrap64 (Int.tdiv a1 10)))) % 256), .int .u8 ((wrap64 (48 + (Int.tmod a1 10))) % 256)]) (ok := fun _ => True) (okp := fun _ => True) ?hr ?hp (fun _ hk => hk) trivial (Below.refl _ _) (Nat.le_refl _) (by simp) ?_; (case hd => rfl); (case hg => rfl); (case hr => exact zhlgcp); (case hp => exact zdgfco); intro v105 w11 ho12 hb hg_ hnew_; clear hg_ hnew_; (first | rw [← Ny104.out] at ho12 | (simp only [Int.reduceToNat] at ho12; rw [← Ny104.out] at ho12)); have HO106 := aa (Kd.R_lower ho12 (below_size zkmbdh)); replace BK101 := aa (bb_ BK101.out hb); replace HB := aa (below_step zkmbdh hb); clear hb ho12; have hcv13 := own_string (P := Tryd.prog) Tryd.underlying22 Tryd.underlying5 Tryd.underlying9 (Kd.own_of_R HO106.out)) | (refine gc_ Tryd.func54 (some 29) #[.string (a0 ++ (strOfNums y104))] ?_; (with_reducible refine (impl_isName.calls k (a0 ++ (strOfNums y104)) true _ A8.out).mono ?_); rintro e w' ⟨rfl, ⟨nd, rfl⟩⟩; refine ⟨_, rfl, ?_⟩; (try (rw [drewN_self w11]; generalize hq_ : World.drewN w11 _ = w11; have n0_ : Aside0 (Kd.R (Kd.int .u8) 5 w11 w.heap.size (fun _ => True) v105 y104) := ⟨by rw [← hq_]; exact (zcaken HO106.out)⟩; have n1_ : Aside0 (w11.heap[gb101]? = some (.cells #[.int .i64 0, .string (⟨#[]⟩ : ByteArray)] 46 (0, 0))) := ⟨by rw [← hq_]; exact (zkjhpm BK101.out)⟩; have n2_ : Aside0 (Below w.heap.size w w11) := ⟨by rw [← hq_]; exact zkmbdh⟩; clear HO106 BK101 HB hq_; have HO106 := n0_; have BK101 := n1_; have HB := n2_; clear n0_ n1_ n2_)); obtain ⟨hcz14_0, hcz14_1, hfz14_0, hfz14_1⟩ := blk2_ BK101.out))
     refine bodyPost_ret (results_cell_row rfl _ _ gb101 46 #[.int .i64 0, .string (a0 ++ (strOfNums y104))] (0, 0) _ rfl zghkph Tryd.underlying46 rfl (by kernel_rfl)) rfl ?_
     exact ⟨zlhpib, zkmbdh⟩
    replace c9 := Bool.eq_false_iff.mpr c9
    subst c9
    rw [if_neg fT_] at H
    simp only [Option.some.injEq, Prod.mk.injEq] at H
    obtain ⟨rfl, rfl⟩ := H
    go_enter Tryd.func23, Tryd.ntmps23
    go_wp2_with (first | (refine be_ 4 #[.int .i64 0, .string (⟨#[]⟩ : ByteArray)] 46 ?_; intro gb101 hg w15 hbox hb; have n0_ := aa (below_step zjjbob hb); have n1_ := aa (hbox); have n2_ := aa ((zkpfjp : w.heap.size ≤ gb101)); have n3_ := aa ((zkpfjp : w.heap.size ≤ gb101)); clear HB; have HB := n0_; have BK101 := n1_; have GW101 := n2_; have GE101 := n3_; clear n0_ n1_ n2_ n3_; clear hb hbox hg) | (refine gc_ Tryd.func54 (some 8) #[.string a0] ?_; (with_reducible refine (impl_isName.calls k a0 true _ A3.out).mono ?_); rintro e w' ⟨rfl, ⟨nd, rfl⟩⟩; refine ⟨_, rfl, ?_⟩; (try (rw [drewN_self w15]; generalize hq_ : World.drewN w15 _ = w15; have n0_ : Aside0 (w15.heap[gb101]? = some (.cells #[.int .i64 0, .string (⟨#[]⟩ : ByteArray)] 46 (0, 0))) := ⟨by rw [← hq_]; exact (zkjhpm BK101.out)⟩; have n1_ : Aside0 (Below w.heap.size w w15) := ⟨by rw [← hq_]; exact zkmbdh⟩; clear BK101 HB hq_; have BK101 := n0_; have HB := n1_; clear n0_ n1_))) | (refine gc_ Tryd.func55 (some 13) #[.int .i64 a1, .int .i64 0, .int .i64 99] ?_; (with_reducible refine (impl_within.calls a1 0 99 true _ A5.out).mono ?_); rintro e w' ⟨rfl, ⟨nd, rfl⟩⟩; refine ⟨_, rfl, ?_⟩; (try (rw [drewN_self w15]; generalize hq_ : World.drewN w15 _ = w15; have n0_ : Aside0 (w15.heap[gb101]? = some (.cells #[.int .i64 0, .string (⟨#[]⟩ : ByteArray)] 46 (0, 0))) := ⟨by rw [← hq_]; exact (zkjhpm BK101.out)⟩; have n1_ : Aside0 (Below w.heap.size w w15) := ⟨by rw [← hq_]; exact zkmbdh⟩; clear BK101 HB hq_; have BK101 := n0_; have HB := n1_; clear n0_ n1_))) | ((with_reducible refine gate_dst (N := 25) rfl ?_); refine Kd.R_lit (Kd.int .u8) _ 5 ?hg (N := 25) ?hd (xs := ([(wrap64 (48 + (wrap64 (Int.tdiv a1 10)))) % 256, (wrap64 (48 + (Int.tmod a1 10))) % 256] : List Int)) (inner := [.int .u8 ((wrap64 (48 + (wrap64 (Int.tdiv a1 10)))) % 256), .int .u8 ((wrap64 (48 + (Int.tmod a1 10))) % 256)]) (ok := fun _ => True) (okp := fun _ => True) ?hr ?hp (fun _ hk => hk) trivial (Below.refl _ _) (Nat.le_refl _) (by simp) ?_; (case hd => rfl); (case hg => rfl); (case hr => exact zhlgcp); (case hp => exact zdgfco); intro v105 w16 ho17 hb hg_ hnew_; clear hg_ hnew_; (first | rw [← Ny104.out] at ho17 | (simp only [Int.reduceToNat] at ho17; rw [← Ny104.out] at ho17)); have HO106 := aa (Kd.R_lower ho17 (below_size zkmbdh)); replace BK101 := aa (bb_ BK101.out hb); replace HB := aa (below_step zkmbdh hb); clear hb ho17; have hcv18 := own_string (P := Tryd.prog) Tryd.underlying22 Tryd.underlying5 Tryd.underlying9 (Kd.own_of_R HO106.out)) | (refine gc_ Tryd.func54 (some 29) #[.string (a0 ++ (strOfNums y104))] ?_; (with_reducible refine (impl_isName.calls k (a0 ++ (strOfNums y104)) false _ A8.out).mono ?_); rintro e w' ⟨rfl, ⟨nd, rfl⟩⟩; refine ⟨_, rfl, ?_⟩; (try (rw [drewN_self w16]; generalize hq_ : World.drewN w16 _ = w16; have n0_ : Aside0 (Kd.R (Kd.int .u8) 5 w16 w.heap.size (fun _ => True) v105 y104) := ⟨by rw [← hq_]; exact (zcaken HO106.out)⟩; have n1_ : Aside0 (w16.heap[gb101]? = some (.cells #[.int .i64 0, .string (⟨#[]⟩ : ByteArray)] 46 (0, 0))) := ⟨by rw [← hq_]; exact (zkjhpm BK101.out)⟩; have n2_ : Aside0 (Below w.heap.size w w16) := ⟨by rw [← hq_]; exact zkmbdh⟩; clear HO106 BK101 HB hq_; have HO106 := n0_; have BK101 := n1_; have HB := n2_; clear n0_ n1_ n2_)); obtain ⟨hcz19_0, hcz19_1, hfz19_0, hfz19_1⟩ := blk2_ BK101.out))
    refine bodyPost_ret (results_cell_row rfl _ _ gb101 46 #[.int .i64 5, .string (⟨#[]⟩ : ByteArray)] (0, 0) _ rfl zpepea Tryd.underlying46 rfl (by kernel_rfl)) rfl ?_
    exact ⟨zlhpib, zkmbdh⟩
   rw [if_neg c7] at H
   exact absurd H (by simp)
  replace c6 := Bool.eq_false_iff.mpr c6
  subst c6
  rw [if_neg fT_] at H
  simp only [Option.some.injEq, Prod.mk.injEq] at H
  obtain ⟨rfl, rfl⟩ := H
  go_enter Tryd.func23, Tryd.ntmps23
  go_wp2_with (first | (refine be_ 4 #[.int .i64 0, .string (⟨#[]⟩ : ByteArray)] 46 ?_; intro gb101 hg w20 hbox hb; have n0_ := aa (below_step zjjbob hb); have n1_ := aa (hbox); have n2_ := aa ((zkpfjp : w.heap.size ≤ gb101)); have n3_ := aa ((zkpfjp : w.heap.size ≤ gb101)); clear HB; have HB := n0_; have BK101 := n1_; have GW101 := n2_; have GE101 := n3_; clear n0_ n1_ n2_ n3_; clear hb hbox hg) | (refine gc_ Tryd.func54 (some 8) #[.string a0] ?_; (with_reducible refine (impl_isName.calls k a0 true _ A3.out).mono ?_); rintro e w' ⟨rfl, ⟨nd, rfl⟩⟩; refine ⟨_, rfl, ?_⟩; (try (rw [drewN_self w20]; generalize hq_ : World.drewN w20 _ = w20; have n0_ : Aside0 (w20.heap[gb101]? = some (.cells #[.int .i64 0, .string (⟨#[]⟩ : ByteArray)] 46 (0, 0))) := ⟨by rw [← hq_]; exact (zkjhpm BK101.out)⟩; have n1_ : Aside0 (Below w.heap.size w w20) := ⟨by rw [← hq_]; exact zkmbdh⟩; clear BK101 HB hq_; have BK101 := n0_; have HB := n1_; clear n0_ n1_))) | (refine gc_ Tryd.func55 (some 13) #[.int .i64 a1, .int .i64 0, .int .i64 99] ?_; (with_reducible refine (impl_within.calls a1 0 99 false _ A5.out).mono ?_); rintro e w' ⟨rfl, ⟨nd, rfl⟩⟩; refine ⟨_, rfl, ?_⟩; (try (rw [drewN_self w20]; generalize hq_ : World.drewN w20 _ = w20; have n0_ : Aside0 (w20.heap[gb101]? = some (.cells #[.int .i64 0, .string (⟨#[]⟩ : ByteArray)] 46 (0, 0))) := ⟨by rw [← hq_]; exact (zkjhpm BK101.out)⟩; have n1_ : Aside0 (Below w.heap.size w w20) := ⟨by rw [← hq_]; exact zkmbdh⟩; clear BK101 HB hq_; have BK101 := n0_; have HB := n1_; clear n0_ n1_)); obtain ⟨hcz21_0, hcz21_1, hfz21_0, hfz21_1⟩ := blk2_ BK101.out))
  refine bodyPost_ret (results_cell_row rfl _ _ gb101 46 #[.int .i64 3, .string (⟨#[]⟩ : ByteArray)] (0, 0) _ rfl zkijgm Tryd.underlying46 rfl (by kernel_rfl)) rfl ?_
  exact ⟨zlhpib, zkmbdh⟩
 replace c4 := Bool.eq_false_iff.mpr c4
 subst c4
 rw [if_neg fT_] at H
 simp only [Option.some.injEq, Prod.mk.injEq] at H
 obtain ⟨rfl, rfl⟩ := H
 go_enter Tryd.func23, Tryd.ntmps23
 go_wp2_with (first | (refine be_ 4 #[.int .i64 0, .string (⟨#[]⟩ : ByteArray)] 46 ?_; intro gb101 hg w22 hbox hb; have n0_ := aa (below_step zjjbob hb); have n1_ := aa (hbox); have n2_ := aa ((zkpfjp : w.heap.size ≤ gb101)); have n3_ := aa ((zkpfjp : w.heap.size ≤ gb101)); clear HB; have HB := n0_; have BK101 := n1_; have GW101 := n2_; have GE101 := n3_; clear n0_ n1_ n2_ n3_; clear hb hbox hg) | (refine gc_ Tryd.func54 (some 8) #[.string a0] ?_; (with_reducible refine (impl_isName.calls k a0 false _ A3.out).mono ?_); rintro e w' ⟨rfl, ⟨nd, rfl⟩⟩; refine ⟨_, rfl, ?_⟩; (try (rw [drewN_self w22]; generalize hq_ : World.drewN w22 _ = w22; have n0_ : Aside0 (w22.heap[gb101]? = some (.cells #[.int .i64 0, .string (⟨#[]⟩ : ByteArray)] 46 (0, 0))) := ⟨by rw [← hq_]; exact (zkjhpm BK101.out)⟩; have n1_ : Aside0 (Below w.heap.size w w22) := ⟨by rw [← hq_]; exact zkmbdh⟩; clear BK101 HB hq_; have BK101 := n0_; have HB := n1_; clear n0_ n1_)); obtain ⟨hcz23_0, hcz23_1, hfz23_0, hfz23_1⟩ := blk2_ BK101.out))
 refine bodyPost_ret (results_cell_row rfl _ _ gb101 46 #[.int .i64 5, .string (⟨#[]⟩ : ByteArray)] (0, 0) _ rfl zpepea Tryd.underlying46 rfl (by kernel_rfl)) rfl ?_
 exact ⟨zlhpib, zkmbdh⟩
/-! ### impl_joined: function 43 -/
def impl_joined.f (a0 : ByteArray) (a1 : ByteArray) : Option (ByteArray) := if a0.toList = ([47] : List UInt8) then (if a0.size + a1.size ≤ 9223372036854775807 then (some (a0 ++ a1)) else (none)) else (if a0.size + 1 ≤ 9223372036854775807 then (if (a0 ++ (⟨#[47]⟩ : ByteArray)).size + a1.size ≤ 9223372036854775807 then (some ((a0 ++ (⟨#[47]⟩ : ByteArray)) ++ a1)) else (none)) else (none))
theorem impl_joined.calls (a0 : ByteArray) (a1 : ByteArray) (r : ByteArray) (w : World) (h : impl_joined.f a0 a1 = some r) :
  Calls Tryd.prog 43 #[.string a0, .string a1] w fun e w' => e = .returned (.string r) ∧ Drawn0 w w' := by
 have H : (if a0.toList = ([47] : List UInt8) then (if a0.size + a1.size ≤ 9223372036854775807 then (some (a0 ++ a1)) else (none)) else (if a0.size + 1 ≤ 9223372036854775807 then (if (a0 ++ (⟨#[47]⟩ : ByteArray)).size + a1.size ≤ 9223372036854775807 then (some ((a0 ++ (⟨#[47]⟩ : ByteArray)) ++ a1)) else (none)) else (none))) = some r := h
 clear h
 by_cases c3 : a0.toList = ([47] : List UInt8)
 ·
  rw [if_pos c3] at H
  have c3b0 := beq_iff_eq.mpr c3
  have c3b1 := bne_eq_false_iff_eq.mpr c3
  clear c3
  by_cases c4 : a0.size + a1.size ≤ 9223372036854775807
  ·
   rw [if_pos c4] at H
   have c4b0 := eq_true c4
   have c4b1 := decide_eq_true c4
   try have c4b2 : (9223372036854775807 < a0.size + a1.size) = False := eq_false (Nat.not_lt.2 c4)
   try (have c4b3 := c4b2; simp only [ByteArray.size_append] at c4b3)
   obtain rfl := Option.some.inj H
   go_enter Tryd.func43, Tryd.ntmps43
   go_wp2
   go_ret
   exact ⟨zagbkp, ziajdh⟩
  rw [if_neg c4] at H
  exact absurd H (by simp)
 rw [if_neg c3] at H
 have c3b0 := beq_eq_false_iff_ne.mpr c3
 have c3b1 := bne_iff_ne.mpr c3
 by_cases c5 : a0.size + 1 ≤ 9223372036854775807
 ·
  rw [if_pos c5] at H
  have c5b0 := eq_true c5
  have c5b1 := decide_eq_true c5
  try have c5b2 : (9223372036854775807 < a0.size + 1) = False := eq_false (Nat.not_lt.2 c5)
  try (have c5b3 := c5b2; simp only [ByteArray.size_append] at c5b3)
  by_cases c6 : (a0 ++ (⟨#[47]⟩ : ByteArray)).size + a1.size ≤ 9223372036854775807
  ·
   rw [if_pos c6] at H
   have c6b0 := eq_true c6
   have c6b1 := decide_eq_true c6
   try have c6b2 : (9223372036854775807 < (a0 ++ (⟨#[47]⟩ : ByteArray)).size + a1.size) = False := eq_false (Nat.not_lt.2 c6)
   try (have c6b3 := c6b2; simp only [ByteArray.size_append] at c6b3)
   obtain rfl := Option.some.inj H
   go_enter Tryd.func43, Tryd.ntmps43
   go_wp2
   go_ret
   exact ⟨zagbkp, ziajdh⟩
  rw [if_neg c6] at H
  exact absurd H (by simp)
 rw [if_neg c5] at H
 exact absurd H (by simp)
/-! ### slices_Insert_impl_Znode_impl_Znode: function 45 -/
section
open Go.Lib Go.Proofs.YtegggpipggniaaaDoor.Raw
def slices_Insert_impl_Znode_impl_Znode.f (l0 : List S32) (a1 : Int) (l2 : List S32) : Option (List S32) := if 0 ≤ a1 then (if a1 ≤ (l0.length : Int) then (if l2.length = 1 then (if l0.length < 1048576000 then (some (l0.take a1.toNat ++ l2 ++ l0.drop a1.toNat)) else none) else none) else none) else none
theorem slices_Insert_impl_Znode_impl_Znode.kM (w w1 : World) (base : Nat) (ok : Nat → Prop) (x : S32) (cs : List Value) (h : k32.K w x cs) : k32.M w1 base ok x cs := h
/-- there is room, and the place is ahead of the end -/
theorem slices_Insert_impl_Znode_impl_Znode.shift (g cap : Nat) (cur : Array Value) (l0 : List S32) (i : Nat) (vb : Nat) (voff c2 : Nat) (arr : Array Value) (tv : TypeId) (x : S32) (cx : List Value) (w : World) (hi : i < l0.length) (hroom : l0.length + 1 ≤ cap) (hcm : cap ≤ 9223372036854775807)
  (hg : w.heap[g]? = some (.cells cur 32 (0, 0))) (hcs : cur.size = cap * 5) (hv : w.heap[vb]? = some (.cells arr tv (0, 0))) (hne : vb ≠ g) (h1 : ∀ v ∈ cur.toList.take (l0.length * 5), v.oneCell' = true)
  (hcx : cx.length = 5) (hx1 : ∀ v ∈ cx, v.oneCell' = true) (hxc : ∀ j v, cx[j]? = some v → w.cell? ⟨vb, voff + j, none⟩ = some v) :
  Calls Tryd.prog 45 #[.slice (some ⟨g, 0, none⟩) l0.length cap, .int .i64 i, .slice (some ⟨vb, voff, none⟩) 1 c2] w fun e w' =>
   ∃ arr2 : Array Value, e = .returned (.slice (some ⟨g, 0, none⟩) (l0.length + 1) cap) ∧ w' = w.drew.setRow g arr2 ∧ arr2.size = cur.size ∧ arr2.toList.take ((l0.length + 1) * 5) = (cur.toList.take (l0.length * 5)).take (i * 5) ++ cx ++ (cur.toList.take (l0.length * 5)).drop (i * 5) := by
 have hov : ∀ o lb cb, (callFunc 70 #[.slice (some ⟨vb, voff, none⟩) 1 c2, .slice (some ⟨g, o, none⟩) lb cb]).run Tryd.prog w = .ok (.value (.bool false)) w := fun o lb cb => by
  rw [run_callFunc_extern Tryd.func70 (by kernel_rfl) (by kernel_rfl) (by kernel_rfl) (e := Extern.SlicesOverlaps.overlaps #[24, 24] #[4]) (by kernel_rfl),
   Lib.run_overlaps_apart w 24 4 32 Tryd.underlying24 5 Tryd.sizeOf32 ⟨vb, voff, none⟩ ⟨g, o, none⟩ 1 c2 lb cb hne tv 32 arr.size cur.size (by simp [World.shape?, hv]) (by simp [World.shape?, hg]) (by omega) (by simp [World.frozen?, hv]) (by simp [World.frozen?, hv])]
  rfl
 have hz2 : ¬ ((i : Int) = (l0.length : Int)) := by omega
 have hw1 : IntKind.i64.wrap ((i : Int) + 1) = (i : Int) + 1 := by rw [IntKind.wrap_i64]; omega
 have hb1 : (0 : Int) ≤ (i : Int) + 1 := by omega
 have hin : i ≤ l0.length := by omega
 have htn : ((i : Int) + 1).toNat = i + 1 := by omega
 have hb2 : ¬ (cap = i + 1) := by omega
 have hb3 : (i : Int) ≤ (l0.length : Int) + 1 := by omega
 have hb4 : ¬ (cap = i) := by omega
 have hLl : cur.toList.length = cap * 5 := by rw [Array.length_toList]; exact hcs
 have hfl : l0.length * 5 + 5 ≤ cur.toList.length := by rw [hLl]; omega
 have hsz : (Tryd.prog.info? 32).map (·.size) = some 5 := by kernel_rfl
 have ho1 : ∀ v ∈ (cur.toList.drop (i * 5)).take (l0.length * 5 - i * 5), v.oneCell' = true := fun v hv => h1 v (by
  rw [← List.drop_take] at hv
  exact List.mem_of_mem_drop hv)
 have hTl : ((cur.toList.drop (i * 5)).take (l0.length * 5 - i * 5)).length = (l0.length - i) * 5 := by rw [List.length_take, List.length_drop]; omega
 obtain ⟨TAIL, hTAIL⟩ : ∃ TAIL, TAIL = (cur.toList.drop (i * 5)).take (l0.length * 5 - i * 5) := ⟨_, rfl⟩
 have hcp1 : ∀ ty dc sc, (Builtin.copy_ #[24, 24] ty #[.slice (some ⟨g, (i + 1) * 5, none⟩) (l0.length - i) dc, .slice (some ⟨g, i * 5, none⟩) (l0.length + 1 - i) sc]).run Tryd.prog w.drew = _ := fun ty dc sc =>
  run_copy_wide w.drew 24 24 ty 32 g ((i + 1) * 5) (l0.length - i) dc ⟨g, i * 5, none⟩ (l0.length + 1 - i) sc 5 cur 32 TAIL Tryd.underlying24 hsz hg (by rw [hTAIL, hTl]; simp only [Nat.min_def]; split <;> omega)
   (fun j v hj => by
    rw [hTAIL, List.getElem?_take] at hj
    split at hj
    ·
     rw [List.getElem?_drop] at hj
     rw [Addr.add_lit, cell_row w.drew g cur 32 (0, 0) hg, ← Array.getElem?_toList]
     exact hj
    ·
     cases hj)
   (by rw [hTAIL, hTl, hcs]; omega) (by rw [hTAIL]; exact ho1)
 obtain ⟨L1, hL1⟩ : ∃ L1, L1 = cur.toList.take ((i + 1) * 5) ++ TAIL ++ cur.toList.drop ((i + 1) * 5 + TAIL.length) := ⟨_, rfl⟩
 have hs := shift_list cur.toList cx (i * 5) (l0.length * 5) 5 (by omega) hfl hcx
 rw [← hTAIL, show i * 5 + 5 = (i + 1) * 5 by omega, ← hL1] at hs
 obtain ⟨hs1, hs2, hs3⟩ := hs
 rw [← hL1] at hcp1
 obtain ⟨W1, hW1⟩ : ∃ W1, W1 = w.drew.setRow g L1.toArray := ⟨_, rfl⟩
 have hg1 : W1.heap[g]? = some (.cells L1.toArray 32 (0, 0)) := by rw [hW1]; exact row_of w.drew g cur _ 32 (0, 0) hg
 have hcp2 : ∀ ty dc, (Builtin.copy_ #[24, 24] ty #[.slice (some ⟨g, i * 5, none⟩) (l0.length + 1 - i) dc, .slice (some ⟨vb, voff, none⟩) 1 c2]).run Tryd.prog W1 = _ := fun ty dc =>
  run_copy_wide W1 24 24 ty 32 g (i * 5) (l0.length + 1 - i) dc ⟨vb, voff, none⟩ 1 c2 5 L1.toArray 32 cx Tryd.underlying24 hsz hg1 (by rw [hcx]; simp only [Nat.min_def]; split <;> omega)
   (fun j v hj => by
    rw [Addr.add_lit, World.cell?_of_block (w := w) (by rw [hW1]; exact other_of w.drew g vb _ hne)]
    exact hxc j v hj)
   (by rw [hcx, List.size_toArray, hs1]; omega) hx1
 rw [← hW1] at hcp1
 obtain ⟨L2, hL2⟩ : ∃ L2, L2 = L1.take (i * 5) ++ cx ++ L1.drop (i * 5 + cx.length) := ⟨_, rfl⟩
 rw [← hL2] at hs2 hs3 hcp2
 have AL2 := aa hL2
 have AW1 := aa hW1
 have AL1 := aa hL1
 have AT := aa hTAIL
 clear hW1 hL1 hTAIL hL2
 have mixed : Tryd.prog.follows .mixedOrders = true := by kernel_rfl
 go_enter Tryd.func45, Tryd.ntmps45
 go_wp2_with (simp only [hov])
 go_region_law_o (refine ev_copy_drawn rfl _ _ 24 24 rfl _ _ (by simp [Act.eval, Act.put]) (by simp [Act.eval, Act.put]) (hcp1 _ _ _) ?_)
 go_wp2_with (at_builtin; refine ev_copy rfl _ _ 24 24 rfl _ _ rfl rfl (hcp2 _ _) ?_)
 go_ret
 refine ⟨_, rfl, by rw [AW1.out, setRow_setRow], ?_, ?_⟩
 ·
  rw [List.size_toArray, hs2, Array.length_toList]
 rw [show (l0.length + 1) * 5 = l0.length * 5 + 5 by omega]
 show List.take (l0.length * 5 + 5) L2 = _
 rw [hs3, AT.out, List.take_take, Nat.min_eq_left (by omega), List.drop_take]
theorem heap_alloc_old (w : World) (o : Obj) (k : Nat) (h : k < w.heap.size) : (w.alloc o).heap[k]? = w.heap[k]? := by
 simp only [World.alloc]
 rw [Array.getElem?_push_lt h, Array.getElem?_eq_getElem h]
/-- no room, and the place is ahead of the end -/
theorem slices_Insert_impl_Znode_impl_Znode.grow (g cap : Nat) (cur : Array Value) (l0 : List S32) (i : Nat) (vb : Nat) (voff c2 : Nat) (x : S32) (cx : List Value) (w : World) (hi : i < l0.length) (hnc : l0.length ≤ cap) (hroom : cap < l0.length + 1) (hbig : l0.length < 1048576000)
  (hg : w.heap[g]? = some (.cells cur 32 (0, 0))) (hcs : cur.size = cap * 5) (h1 : ∀ v ∈ cur.toList.take (l0.length * 5), v.oneCell' = true)
  (hcx : cx.length = 5) (hx1 : ∀ v ∈ cx, v.oneCell' = true) (hxc : ∀ j v, cx[j]? = some v → w.cell? ⟨vb, voff + j, none⟩ = some v) :
  Calls Tryd.prog 45 #[.slice (some ⟨g, 0, none⟩) l0.length cap, .int .i64 i, .slice (some ⟨vb, voff, none⟩) 1 c2] w fun e w' =>
   ∃ (cap2 : Nat) (arr2 : Array Value), e = .returned (.slice (some ⟨w.heap.size, 0, none⟩) (l0.length + 1) cap2) ∧ l0.length + 1 ≤ cap2 ∧ cap2 ≤ maxLen ∧ w.grownBy w' none ∧ w'.heap[w.heap.size]? = some (.cells arr2 32 (0, 0)) ∧ arr2.size = cap2 * 5 ∧ arr2.toList.take ((l0.length + 1) * 5) = (cur.toList.take (l0.length * 5)).take (i * 5) ++ cx ++ (cur.toList.take (l0.length * 5)).drop (i * 5) := by
 obtain ⟨i0, hi0, hzz⟩ := Option.map_eq_some_iff.1 info32
 simp only [Prod.mk.injEq] at hzz
 obtain ⟨hz0, hzs, hzb⟩ := hzz
 have hgw : g < w.heap.size := (Array.getElem?_eq_some_iff.1 hg).1
 have hvw : vb < w.heap.size := World.block_lt_of_cell? w ⟨vb, voff + 0, none⟩ (hxc 0 _ (List.getElem?_eq_getElem (by omega)))
 have hLl : cur.toList.length = cap * 5 := by rw [Array.length_toList]; exact hcs
 have hsz : (Tryd.prog.info? 32).map (·.size) = some 5 := by kernel_rfl
 have ho1 : ∀ v ∈ (cur.toList.drop (i * 5)).take (l0.length * 5 - i * 5), v.oneCell' = true := fun v hv => h1 v (by
  rw [← List.drop_take] at hv
  exact List.mem_of_mem_drop hv)
 have hTl : ((cur.toList.drop (i * 5)).take (l0.length * 5 - i * 5)).length = (l0.length - i) * 5 := by rw [List.length_take, List.length_drop]; omega
 obtain ⟨TAIL, hTAIL⟩ : ∃ TAIL, TAIL = (cur.toList.drop (i * 5)).take (l0.length * 5 - i * 5) := ⟨_, rfl⟩
 rw [← hTAIL] at ho1 hTl
 have hTc : ∀ j v, TAIL[j]? = some v → w.cell? ⟨g, i * 5 + j, none⟩ = some v := fun j v hj => by
  rw [hTAIL, List.getElem?_take] at hj
  split at hj
  ·
   rw [List.getElem?_drop] at hj
   rw [cell_row w g cur 32 (0, 0) hg, ← Array.getElem?_toList]
   exact hj
  ·
   cases hj
 have hkk : (l0.length : Int) + 1 - (i : Int) = ((l0.length + 1 - i : Nat) : Int) := by omega
 have hik : i + (l0.length + 1 - i) = l0.length + 1 := by omega
 have hpl : (cur.toList.take (i * 5)).length = i * 5 := by rw [List.length_take]; omega
 have hold : (Builtin.firstCells i0.size i (.slice (some ⟨g, 0, none⟩) i cap)).run Tryd.prog w.drew = .ok (cur.toList.take (i * 5)).toArray w.drew := by
  rw [hzs]
  exact run_firstCells_some w.drew 5 i ⟨g, 0, none⟩ i cap (cur.toList.take (i * 5)) hpl (fun j v hj => by
   rw [Addr.add_lit, cell_row w.drew g cur 32 (0, 0) hg, ← Array.getElem?_toList, Nat.zero_add]
   rw [List.getElem?_take] at hj
   split at hj
   ·
    exact hj
   ·
    cases hj)
 obtain ⟨GC, hGC⟩ : ∃ GC, GC = grownCap w (l0.length + 1) cap 32 := ⟨_, rfl⟩
 obtain ⟨ROW, hROW⟩ : ∃ ROW : Array Value, ROW = (cur.toList.take (i * 5)).toArray ++ Builtin.zeroCells ((.agg #[(.string ⟨#[]⟩), (.int .i64 0), (.int .i64 0), (.int .i64 0), (.int .i64 0)]) : Value).cells (l0.length + 1 - i) ++ Builtin.zeroCells ((.agg #[(.string ⟨#[]⟩), (.int .i64 0), (.int .i64 0), (.int .i64 0), (.int .i64 0)]) : Value).cells (GC - (l0.length + 1)) := ⟨_, rfl⟩
 have hrz : ∀ ty, (Builtin.append_ #[24, 3] ty #[.slice (some ⟨g, 0, none⟩) i cap, .int .i64 ((l0.length : Int) + 1 - (i : Int))]).run Tryd.prog w = .ok (.slice (some ⟨w.heap.size, 0, none⟩) (l0.length + 1) GC) (w.drew.alloc (.cells ROW 32)) := fun ty => by
  have h := Lib.run_append_grow_zeros w 24 3 ty 32 i0 _ .i64 .i64 Tryd.underlying24 Tryd.underlying3 hi0 hz0 (some ⟨g, 0, none⟩) i cap (cur.toList.take (i * 5)) hold (l0.length + 1 - i) (by omega) (by omega) (by omega) (by omega) (by rw [hzb]; omega) (by rw [hzb, hik]; exact growslice_fits hroom (by omega))
  rw [hik, ← hGC, ← hROW] at h
  rw [hkk]
  exact h
 have hGn : l0.length + 1 ≤ GC := by rw [hGC]; exact grownCap_ge w _ _ _
 have hGm : GC ≤ maxLen := by rw [hGC]; exact grownCap_le_maxLen w _ _ _ (by unfold maxLen; omega)
 have hRs : ROW.size = GC * 5 := by
  rw [hROW]
  simp [Builtin.zeroCells, Value.cells]
  omega
 have hRl : ROW.toList.length = GC * 5 := (Array.length_toList (xs := ROW)).trans hRs
 have hRt : ROW.toList.take (i * 5) = cur.toList.take (i * 5) := by
  rw [hROW, Array.toList_append, Array.toList_append, List.append_assoc]
  exact List.take_left' hpl
 have hgl := grow_list ROW.toList (cur.toList.take (i * 5)) cx TAIL (i * 5) 5 ((l0.length - i) * 5) hRt hcx hTl (by rw [hRl]; omega)
 obtain ⟨L1, hL1⟩ : ∃ L1, L1 = ROW.toList.take (i * 5) ++ cx ++ ROW.toList.drop (i * 5 + cx.length) := ⟨_, rfl⟩
 rw [← hL1, show i * 5 + 5 = (i + 1) * 5 by omega] at hgl
 obtain ⟨hs1, hs2, hs3⟩ := hgl
 obtain ⟨L2, hL2⟩ : ∃ L2, L2 = L1.take ((i + 1) * 5) ++ TAIL ++ L1.drop ((i + 1) * 5 + TAIL.length) := ⟨_, rfl⟩
 rw [← hL2] at hs2 hs3
 obtain ⟨W1, hW1⟩ : ∃ W1, W1 = w.drew.alloc (.cells ROW 32) := ⟨_, rfl⟩
 rw [← hW1] at hrz
 have hg1 : W1.heap[w.heap.size]? = some (.cells ROW 32 (0, 0)) := by rw [hW1]; exact heap_alloc_new w.drew _
 have hold1 : ∀ k, k < w.heap.size → W1.heap[k]? = w.heap[k]? := fun k hk => by rw [hW1]; exact heap_alloc_old w.drew _ k hk
 have hsz1 : W1.heap.size = w.heap.size + 1 := by rw [hW1]; exact Array.size_push _
 have hcpA : ∀ (W : World), W.heap = W1.heap → ∀ ty dc, (Builtin.copy_ #[24, 24] ty #[.slice (some ⟨w.heap.size, i * 5, none⟩) (l0.length + 1 - i) dc, .slice (some ⟨vb, voff, none⟩) 1 c2]).run Tryd.prog W = .ok (goInt (Nat.min 1 (l0.length + 1 - i))) (W.setRow w.heap.size L1.toArray) := fun W hW ty dc => by
  rw [hL1]
  exact run_copy_wide W 24 24 ty 32 w.heap.size (i * 5) (l0.length + 1 - i) dc ⟨vb, voff, none⟩ 1 c2 5 ROW 32 cx Tryd.underlying24 hsz (by rw [hW]; exact hg1) (by rw [hcx]; simp only [Nat.min_def]; split <;> omega)
   (fun j v hj => by
    rw [Addr.add_lit, World.cell?_of_block (w := w) (by rw [hW]; exact hold1 vb hvw)]
    exact hxc j v hj)
   (by rw [hcx, hRs]; omega) hx1
 have hcpB : ∀ (W : World), W.heap = (W1.setRow w.heap.size L1.toArray).heap → ∀ ty dc sc, (Builtin.copy_ #[24, 24] ty #[.slice (some ⟨w.heap.size, (i + 1) * 5, none⟩) (l0.length - i) dc, .slice (some ⟨g, i * 5, none⟩) (l0.length - i) sc]).run Tryd.prog W = .ok (goInt (Nat.min (l0.length - i) (l0.length - i))) (W.setRow w.heap.size L2.toArray) := fun W hW ty dc sc => by
  rw [hL2]
  exact run_copy_wide W 24 24 ty 32 w.heap.size ((i + 1) * 5) (l0.length - i) dc ⟨g, i * 5, none⟩ (l0.length - i) sc 5 L1.toArray 32 TAIL Tryd.underlying24 hsz (by rw [hW]; exact row_of W1 _ ROW _ 32 (0, 0) hg1) (by rw [hTl]; simp only [Nat.min_def]; split <;> omega)
   (fun j v hj => by
    rw [Addr.add_lit, World.cell?_of_block (w := w) (by rw [hW, other_of W1 _ g _ (by omega)]; exact hold1 g hgw)]
    exact hTc j v hj)
   (by rw [hTl, List.size_toArray, hs1, hRl]; omega) ho1
 have hF : ((W1.setRow w.heap.size L1.toArray).drew).heap = (W1.setRow w.heap.size L1.toArray).heap := rfl
 have hb1 : (0 : Int) ≤ (i : Int) + 1 := by omega
 have hin : i ≤ l0.length := by omega
 have htn : ((i : Int) + 1).toNat = i + 1 := by omega
 have hw1 : IntKind.i64.wrap ((i : Int) + 1) = (i : Int) + 1 := by rw [IntKind.wrap_i64]; omega
 have hz2 : ¬ ((i : Int) = (l0.length : Int)) := by omega
 have hz3 : (cap : Int) < (l0.length : Int) + 1 := by omega
 have hGi : ¬ (GC = i) := by omega
 have hGim : ¬ (GC = i + 1) := by omega
 have hci : ¬ (cap = i) := by omega
 have hGi1 : i + 1 ≤ GC := by omega
 have hG63 : GC ≤ 9223372036854775807 := by unfold maxLen at hGm; omega
 have hb3 : (i : Int) ≤ (l0.length : Int) := by omega
 have AW1 := aa hW1
 have AL1 := aa hL1
 have AL2 := aa hL2
 have AT := aa hTAIL
 have AG := aa hGC
 have AR := aa hROW
 have Aold := aa hold1
 clear hW1 hL1 hL2 hTAIL hGC hROW hold1 hkk hik hold
 have mixed : Tryd.prog.follows .mixedOrders = true := by kernel_rfl
 go_enter Tryd.func45, Tryd.ntmps45
 go_wp2_with (first
  | (at_builtin; refine Lib.wpList_append_run _ rfl _ _ _ _ rfl _ _ rfl rfl _ _ (hrz _) ?_)
  | (at_builtin; refine ev_copy rfl _ _ 24 24 rfl _ _ rfl rfl (hcpA _ rfl _ _) ?_))
 go_region_law_o (refine ev_copy_drawn rfl _ _ 24 24 rfl _ _ (by simp [Act.eval, Act.put]) (by simp [Act.eval, Act.put]) (hcpB _ hF _ _ _) ?_)
 go_wp2
 go_ret
 refine ⟨GC, L2.toArray, rfl, hGn, hGm, ⟨?_, ?_, ?_, ?_, ?_⟩, ?_, ?_, ?_⟩
 ·
  exact (show W1.os = w.os by rw [AW1.out]; rfl)
 ·
  exact (show W1.tape = w.tape by rw [AW1.out]; rfl)
 ·
  exact (show W1.output = w.output by rw [AW1.out]; rfl)
 ·
  simp [size_of, hsz1]
 ·
  intro k hk _
  have hne : k ≠ w.heap.size := by omega
  rw [other_of _ _ _ _ hne]
  exact (other_of W1 _ k _ hne).trans (Aold.out k hk)
 ·
  exact row_of _ _ L1.toArray _ 32 (0, 0) (row_of W1 _ ROW _ 32 (0, 0) hg1)
 ·
  rw [List.size_toArray, hs2, hRl]
 show List.take ((l0.length + 1) * 5) L2 = _
 rw [show (l0.length + 1) * 5 = (i + 1) * 5 + (l0.length - i) * 5 by omega, hs3, AT.out, List.take_take, Nat.min_eq_left (by omega), List.drop_take]
/-- at the end -/
theorem slices_Insert_impl_Znode_impl_Znode.last (v0 : Value) (l0 : List S32) (A2 : Option Addr) (c2 : Nat) (l2 : List S32) (P0_ : Nat → Prop) (w0 w : World) (hbig : l0.length < 1048576000) (hl2 : l2.length = 1)
  (hB : Below w0.heap.size w0 w) (ho0 : Kd.R k32 32 w w0.heap.size P0_ v0 l0) (hr2 : Kd.C k32 w A2 l2.length l2) :
  Calls Tryd.prog 45 #[v0, .int .i64 l0.length, .slice A2 l2.length c2] w fun e w' =>
   ∃ v1 : Value, e = .returned v1 ∧ Kd.R k32 32 w' w0.heap.size (fun k => P0_ k ∨ w.heap.size ≤ k) v1 (l0 ++ l2) ∧ Below w0.heap.size w0 w' ∧ w.grownBy w' v0.ownBlock := by
 obtain ⟨A, c, rfl⟩ := Kd.R_slice ho0
 have HO := aa (Kd.R_mono (ok' := fun k => P0_ k ∨ w.heap.size ≤ k) ho0 (fun k hk => .inl hk))
 have HB := aa hB
 have HC := aa hr2
 have hlc : l0.length ≤ c := by
  obtain ⟨A', c', he, h, _⟩ := Kd.R_reads ho0
  injection he with _ _ he
  subst he
  exact h
 have hW0 := aa hB.size
 rw [hl2]
 rw [hl2] at HC
 clear hB ho0 hr2
 cases A with
 | none =>
  have h0 : l0.length = 0 := by
   obtain ⟨A', c', he, _, hr⟩ := Kd.R_reads HO.out
   injection he with he
   subst he
   rcases Nat.eq_zero_or_pos l0.length with h | h
   ·
    exact h
   ·
    obtain ⟨ad, he, _⟩ := hr.2.2 h
    cases he
  go_enter Tryd.func45, Tryd.ntmps45
  go_wp2_with (((with_reducible refine gate_builtin (b := .append) (xs := #[.tmp 23, .tmp 24]) rfl ?_); at_builtin; refine Kd.R_append_rows k32 (w0 := w0) w0.heap.size rfl (.tmp 23) (.tmp 24) 24 32 (.agg #[(.string ⟨#[]⟩), (.int .i64 0), (.int .i64 0), (.int .i64 0), (.int .i64 0)]) 48 rfl Tryd.underlying24 info32 rfl (by decide) (by omega) (.slice none l0.length c) l0 l2 _ _ _ (fun k => P0_ k ∨ w.heap.size ≤ k) (fun _ => False) rfl rfl HO.out HC.out (fun _ _ h => h) (fun _ h => h.elim) (fun k hk => .inr hk) HB.out hW0.out (by omega) ?_; intro v105 w5 ho hb hg hat))
  go_ret
  exact ⟨_, rfl, ho, hb, hg⟩
 | some ad =>
  obtain ⟨ab, ao, asp⟩ := ad
  go_enter Tryd.func45, Tryd.ntmps45
  go_wp2_with (((with_reducible refine gate_builtin (b := .append) (xs := #[.tmp 23, .tmp 24]) rfl ?_); at_builtin; refine Kd.R_append_rows k32 (w0 := w0) w0.heap.size rfl (.tmp 23) (.tmp 24) 24 32 (.agg #[(.string ⟨#[]⟩), (.int .i64 0), (.int .i64 0), (.int .i64 0), (.int .i64 0)]) 48 rfl Tryd.underlying24 info32 rfl (by decide) (by omega) (.slice (some ⟨ab, ao, asp⟩) l0.length c) l0 l2 _ _ _ (fun k => P0_ k ∨ w.heap.size ≤ k) (fun _ => False) rfl rfl HO.out HC.out (fun _ _ h => h) (fun _ h => h.elim) (fun k hk => .inr hk) HB.out hW0.out (by omega) ?_; intro v105 w5 ho hb hg hat))
  all_goals (go_ret; exact ⟨_, rfl, ho, hb, hg⟩)
theorem slices_Insert_impl_Znode_impl_Znode.calls (P0_ : Nat → Prop) (u9000_ : Value) (l0 : List S32) (a1 : Int) (A2 : Option Addr) (c2 : Nat) (l2 : List S32) (r : List S32) (w0 w : World) (hB : Below w0.heap.size w0 w) (ho0 : Kd.R k32 32 w w0.heap.size P0_ u9000_ l0) (hr2 : ∀ W_, Kept w W_ (fun k_ => P0_ k_) → Kd.C k32 W_ A2 l2.length l2) (hc2 : l2.length ≤ c2) (hx2 : ∀ ad, A2 = some ad → ∃ g o arr t, ad = ⟨g, o, none⟩ ∧ w.heap[g]? = some (.cells arr t (0, 0))) (h : slices_Insert_impl_Znode_impl_Znode.f l0 a1 l2 = some r) :
  Calls Tryd.prog 45 #[u9000_, .int .i64 a1, .slice A2 l2.length c2] w fun e w' => ∃ v0_ : Value, e = .returned (v0_) ∧ Kd.R k32 32 w' w0.heap.size (fun k_ => (P0_ k_ ∨ w.heap.size ≤ k_)) v0_ r ∧ Below w0.heap.size w0 w' ∧ Kept w w' (fun k_ => P0_ k_) := by
 unfold slices_Insert_impl_Znode_impl_Znode.f at h
 have q0 : 0 ≤ a1 := Decidable.byContradiction fun c => by rw [if_neg c] at h; cases h
 rw [if_pos q0] at h
 have q1 : a1 ≤ (l0.length : Int) := Decidable.byContradiction fun c => by rw [if_neg c] at h; cases h
 rw [if_pos q1] at h
 have q2 : l2.length = 1 := Decidable.byContradiction fun c => by rw [if_neg c] at h; cases h
 rw [if_pos q2] at h
 have q3 : l0.length < 1048576000 := Decidable.byContradiction fun c => by rw [if_neg c] at h; cases h
 rw [if_pos q3] at h
 obtain rfl := Option.some.inj h
 clear h
 obtain ⟨i, rfl⟩ := Int.eq_ofNat_of_zero_le q0
 rw [Int.toNat_natCast]
 have hok : ∀ k, u9000_.ownBlock = some k → P0_ k := ho0.1
 have hC := hr2 w (Kept.refl _ _)
 rcases Nat.lt_or_ge i l0.length with hi | hi
 ·
  obtain ⟨x, rfl⟩ := List.length_eq_one_iff.1 q2
  obtain ⟨ad, rfl, hcx⟩ := hC.2.2 (by simp)
  obtain ⟨cx, hcl, hcK, hcc⟩ := hcx 0 x rfl
  obtain ⟨vb, voff, arr, tv, rfl, hv⟩ := hx2 ad rfl
  have hcl' : cx.length = 5 := hcl
  have hxc : ∀ j v, cx[j]? = some v → w.cell? ⟨vb, voff + j, none⟩ = some v := fun j v hj => by
   have := hcc j v hj
   rwa [Nat.zero_mul, Nat.zero_add, Addr.add_lit] at this
  have hx1 : ∀ v ∈ cx, v.oneCell' = true := k32.K_one hcK
  obtain ⟨h0, inner, hown, hrp⟩ := ho0
  have hrK := reps_K hrp
  rcases hown with ⟨hil, ⟨rfl, hn⟩ | ⟨g, cap, cur, rfl, hbg, hg, hnc, hcm, hcs, hti⟩⟩
  ·
   omega
  have hcs' : cur.size = cap * 5 := hcs
  have hti' : cur.toList.take (l0.length * 5) = inner := hti
  have hil' : inner.length = l0.length * 5 := hil
  have hPg : P0_ g := hok g rfl
  have h1 : ∀ v ∈ cur.toList.take (l0.length * 5), v.oneCell' = true := by
   rw [hti']
   intro v hv
   obtain ⟨j, hj, rfl⟩ := List.getElem_of_mem hv
   have hjl : j / 5 < l0.length := by omega
   have hK := k32.K_one (hrK.2 (j / 5) _ (List.getElem?_eq_getElem hjl))
   refine hK _ (List.mem_iff_getElem?.2 ⟨j % 5, ?_⟩)
   have e5 : k32.sz = 5 := rfl
   rw [e5, List.getElem?_take, if_pos (Nat.mod_lt _ (by omega)), List.getElem?_drop, show j / 5 * 5 + j % 5 = j by omega]
   exact List.getElem?_eq_getElem hj
  have hput := reps_put hrK hcK i (Nat.le_of_lt hi)
  have e5 : i * k32.sz = i * 5 := rfl
  rw [e5] at hput
  have hpl : (l0.take i ++ [x] ++ l0.drop i).length = l0.length + 1 := by
   rw [List.length_append, List.length_append, List.length_take, List.length_drop, List.length_singleton]
   omega
  have hil2 : (inner.take (i * 5) ++ cx ++ inner.drop (i * 5)).length = (l0.length + 1) * 5 := by
   rw [List.length_append, List.length_append, List.length_take, List.length_drop, hcl', hil']
   omega
  have hne : vb ≠ g := by
   rintro rfl
   have hK : Kept w (w.setRow vb #[]) (fun k_ => P0_ k_) := ⟨by rw [size_of]; exact Nat.le_refl _, fun k _ hk => other_of w vb k _ (fun e => hk (by rw [e]; exact hPg))⟩
   obtain ⟨ad', he, hcx'⟩ := (hr2 _ hK).2.2 (by simp)
   injection he with he
   subst he
   obtain ⟨c', hl', _, hc'⟩ := hcx' 0 x rfl
   have hl5 : c'.length = 5 := hl'
   have := hc' 0 _ (List.getElem?_eq_getElem (by omega))
   rw [Nat.zero_mul, Nat.zero_add, Addr.add_lit, cell_row _ vb #[] tv (0, 0) (row_of w vb arr #[] tv (0, 0) hv)] at this
   simp at this
  rcases Nat.lt_or_ge cap (l0.length + 1) with hroom | hroom
  ·
   refine (slices_Insert_impl_Znode_impl_Znode.grow g cap cur l0 i vb voff c2 x cx w hi hnc hroom q3 hg hcs' h1 hcl' hx1 hxc).mono ?_
   rintro e w' ⟨cap2, arr2, rfl, hc1, hc2', hgr, hg2, hs2, ht2⟩
   have ho : w'.ownsRow w0.heap.size 32 5 (.slice (some ⟨w.heap.size, 0, none⟩) (l0.length + 1) cap2) (l0.take i ++ [x] ++ l0.drop i).length (inner.take (i * 5) ++ cx ++ inner.drop (i * 5)) := by
    rw [hpl]
    exact ⟨hil2, .inr ⟨_, cap2, arr2, rfl, hB.size, hg2, hc1, hc2', hs2, by rw [ht2, hti']⟩⟩
   refine ⟨_, rfl, R_flat k32 slices_Insert_impl_Znode_impl_Znode.kM (fun k hk => ?_) ho hput, pw_below_grown hB none hB.size hgr (fun k hk => by cases hk), Kept.of_grown hgr (Kept.refl _ _) (fun k hk => by cases hk)⟩
   have : w.heap.size = k := by simpa [Value.ownBlock] using hk
   exact .inr (by omega)
  refine (slices_Insert_impl_Znode_impl_Znode.shift g cap cur l0 i vb voff c2 arr tv x cx w hi hroom (by unfold maxLen at hcm; omega) hg hcs' hv hne h1 hcl' hx1 hxc).mono ?_
  rintro e w' ⟨arr2, rfl, rfl, hs2, ht2⟩
  have hgr : w.grownBy (w.drew.setRow g arr2) (some g) := let z := grown_row w.drew g arr2; ⟨z.os, z.tape, z.output, z.size, z.block⟩
  have ho : (w.drew.setRow g arr2).ownsRow w0.heap.size 32 5 (.slice (some ⟨g, 0, none⟩) (l0.length + 1) cap) (l0.take i ++ [x] ++ l0.drop i).length (inner.take (i * 5) ++ cx ++ inner.drop (i * 5)) := by
   rw [hpl]
   exact ⟨hil2, .inr ⟨g, cap, arr2, rfl, hbg, row_of w.drew g cur arr2 32 (0, 0) hg, hroom, hcm, by rw [hs2]; exact hcs', by rw [ht2, hti']⟩⟩
  refine ⟨_, rfl, R_flat k32 slices_Insert_impl_Znode_impl_Znode.kM (fun k hk => ?_) ho hput, pw_below_grown hB (some g) hB.size hgr (fun k hk => by injection hk with hk; omega), Kept.of_grown hgr (Kept.refl _ _) (fun k hk => .inl (by injection hk with hk; rw [← hk]; exact hPg))⟩
  have : g = k := by simpa [Value.ownBlock] using hk
  exact .inl (this ▸ hPg)
 have e : i = l0.length := by omega
 subst e
 rw [List.take_length, List.drop_length, List.append_nil]
 refine (slices_Insert_impl_Znode_impl_Znode.last u9000_ l0 A2 c2 l2 P0_ w0 w q3 q2 hB ho0 hC).mono ?_
 rintro e w' ⟨v1, rfl, ho, hb, hg⟩
 exact ⟨v1, rfl, ho, hb, Kept.of_grown hg (Kept.refl _ _) (fun k hk => .inl (hok k hk))⟩
end
/-! ### impl_CreateZ: function 16 -/
mutual
def impl_CreateZ.j0 : Nat → List (S32) → ByteArray → Int → Int → Bool → Bool → Option (Int × ByteArray × (List (S32)))
 | 0, _, _, _, _, _, _ => none
 | k + 1, x0, x1, x2, x3, x4, x28 => if x28 = true then (some (3, (⟨#[]⟩ : ByteArray), ([] : List (S32)))) else (if x1.toList = ([47] : List UInt8) then (some (1, (⟨#[]⟩ : ByteArray), ([] : List (S32)))) else ((impl_parted.f k x1).bind fun bt105 => ((impl_find.f k x0 bt105.1).bind fun bt107 => (if bt107.2 = true then (if 0 ≤ bt107.1 then (if bt107.1 < (x0.length : Int) then (if ((rd_T32 x0 bt107.1).f3) = 0 then ((slices_Clone_impl_Znode_impl_Znode.f x0).bind fun t110 => (if x4 = true then (if bt107.1 < (t110.length : Int) then (if ((rd_T32 t110 bt107.1).f4) = 100 then (some (3, (⟨#[]⟩ : ByteArray), ([] : List (S32)))) else ((impl_SeqName.f k bt105.2 ((rd_T32 t110 bt107.1).f4)).bind fun bt115 => (if bt115.1 = 0 then ((impl_joined.f bt105.1 bt115.2).bind fun t118 => ((impl_PathFault.f k t118).bind fun t119 => (if t119 = 0 then (impl_CreateZ.j1 k t118 x2 x3 (t110.set (bt107.1 : Int).toNat (⟨(rd_T32 t110 bt107.1).f0, (rd_T32 t110 bt107.1).f1, (rd_T32 t110 bt107.1).f2, (rd_T32 t110 bt107.1).f3, wrap64 (((rd_T32 t110 bt107.1).f4) + 1)⟩ : S32))) else (some (t119, (⟨#[]⟩ : ByteArray), ([] : List (S32))))))) else (some (bt115.1, (⟨#[]⟩ : ByteArray), ([] : List (S32))))))) else (none)) else (impl_CreateZ.j1 k x1 x2 x3 t110))) else (some (8, (⟨#[]⟩ : ByteArray), ([] : List (S32))))) else (none)) else (none)) else (some (4, (⟨#[]⟩ : ByteArray), ([] : List (S32))))))))
def impl_CreateZ.j1 : Nat → ByteArray → Int → Int → List (S32) → Option (Int × ByteArray × (List (S32)))
 | 0, _, _, _, _ => none
 | k + 1, x1, x2, x3, x16 => (impl_find.f k x16 x1).bind fun bt122 => (if bt122.2 = true then (some (6, (⟨#[]⟩ : ByteArray), ([] : List (S32)))) else (if (x16.length : Int) = 20 then (some (2, (⟨#[]⟩ : ByteArray), ([] : List (S32)))) else ((slices_Insert_impl_Znode_impl_Znode.f x16 bt122.1 (([(⟨x1, x2, 0, x3, 0⟩ : S32)] : List (S32)))).bind fun t127 => (some (0, x1, t127)))))
end
def impl_CreateZ.f (k : Nat) (l0 : List (S32)) (a1 : ByteArray) (a2 : Int) (a3 : Int) (a4 : Bool) : Option (Int × ByteArray × (List (S32))) := (impl_zCode.f k l0 a1).bind fun t102 => (if t102 = 0 then ((impl_isData.f a2).bind fun t103 => (if t103 = true then ((impl_isOwner.f a3).bind fun t104 => (impl_CreateZ.j0 k l0 a1 a2 a3 a4 (!t104))) else (impl_CreateZ.j0 k l0 a1 a2 a3 a4 true))) else (some (t102, (⟨#[]⟩ : ByteArray), ([] : List (S32)))))
theorem impl_CreateZ.mono_l : ∀ k, (∀ y0 y1 y2 y3 y4 y5, LeO (impl_CreateZ.j0 k y0 y1 y2 y3 y4 y5) (impl_CreateZ.j0 (k + 1) y0 y1 y2 y3 y4 y5)) ∧ (∀ y0 y1 y2 y3, LeO (impl_CreateZ.j1 k y0 y1 y2 y3) (impl_CreateZ.j1 (k + 1) y0 y1 y2 y3))
 | 0 => ⟨fun _ _ _ _ _ _ r h => by simp [impl_CreateZ.j0] at h, fun _ _ _ _ r h => by simp [impl_CreateZ.j1] at h⟩
 | k + 1 => by
  obtain ⟨ih0, ih1⟩ := impl_CreateZ.mono_l k
  refine ⟨?_, ?_⟩
  ·
   intro y0 y1 y2 y3 y4 y5
   unfold impl_CreateZ.j0
   with_reducible repeat' first | exact ih0 _ _ _ _ _ _ | exact ih1 _ _ _ _ | exact impl_PathFault.mono _ _ | exact impl_SeqName.mono _ _ _ | exact impl_find.mono _ _ _ | exact impl_parted.mono _ _ | exact impl_zCode.mono _ _ _ | exact LeO.refl _ | exact LeO.none _ | refine LeO.ite ?_ ?_ | refine LeO.bind ?_ (fun _ => ?_)
  ·
   intro y0 y1 y2 y3
   unfold impl_CreateZ.j1
   with_reducible repeat' first | exact ih0 _ _ _ _ _ _ | exact ih1 _ _ _ _ | exact impl_PathFault.mono _ _ | exact impl_SeqName.mono _ _ _ | exact impl_find.mono _ _ _ | exact impl_parted.mono _ _ | exact impl_zCode.mono _ _ _ | exact LeO.refl _ | exact LeO.none _ | refine LeO.ite ?_ ?_ | refine LeO.bind ?_ (fun _ => ?_)
theorem impl_CreateZ.mono : ∀ a0 a1 a2 a3 a4 k, LeO (impl_CreateZ.f k a0 a1 a2 a3 a4) (impl_CreateZ.f (k + 1) a0 a1 a2 a3 a4) := by
 intro a0 a1 a2 a3 a4 k
 obtain ⟨ih0, ih1⟩ := impl_CreateZ.mono_l k
 unfold impl_CreateZ.f
 with_reducible repeat' first | exact ih0 _ _ _ _ _ _ | exact ih1 _ _ _ _ | exact impl_PathFault.mono _ _ | exact impl_SeqName.mono _ _ _ | exact impl_find.mono _ _ _ | exact impl_parted.mono _ _ | exact impl_zCode.mono _ _ _ | exact LeO.refl _ | exact LeO.none _ | refine LeO.ite ?_ ?_ | refine LeO.bind ?_ (fun _ => ?_)
theorem impl_CreateZ.calls (k : Nat) (A0 : Option Addr) (c0 : Nat) (l0 : List (S32)) (a1 : ByteArray) (a2 : Int) (a3 : Int) (a4 : Bool) (r1 : Int) (r2 : ByteArray) (r3 : List (S32)) (w : World) (hr0 : Kd.C k32 w A0 l0.length l0) (hc0 : l0.length ≤ c0) (h : impl_CreateZ.f k l0 a1 a2 a3 a4 = some (r1, r2, r3)) :
  Calls Tryd.prog 16 #[.slice A0 l0.length c0, .string a1, .int .i64 a2, .int .i64 a3, .bool a4] w fun e w' => ∃ v2_ : Value, e = .returned (.agg #[.int .i64 r1, .string r2, v2_]) ∧ Kd.R k32 32 w' w.heap.size (fun _ => True) v2_ r3 ∧ Below w.heap.size w w' := by
 have hu28 := Tryd.underlying28
 have hu46 := Tryd.underlying46
 have hu32 := Tryd.underlying32
 have HR0 := aa hr0
 have HC0 := aa hc0
 clear hr0 hc0
 have HB := aa (Below.refl w.heap.size w)
 have H : ((impl_zCode.f k l0 a1).bind fun t102 => (if t102 = 0 then ((impl_isData.f a2).bind fun t103 => (if t103 = true then ((impl_isOwner.f a3).bind fun t104 => (impl_CreateZ.j0 k l0 a1 a2 a3 a4 (!t104))) else (impl_CreateZ.j0 k l0 a1 a2 a3 a4 true))) else (some (t102, (⟨#[]⟩ : ByteArray), ([] : List (S32)))))) = some (r1, r2, r3) := h
 clear h
 revert H
 refine obs_ fun t102 A6 H => ?_
 by_cases c7 : t102 = 0
 ·
  rw [if_pos c7] at H
  have c7b0 := beq_iff_eq.mpr c7
  have c7b1 := bne_eq_false_iff_eq.mpr c7
  clear c7
  have HC8 := aa H
  clear H
  go_enter Tryd.func16, Tryd.ntmps16
  go_upto_region 4 with (first | (refine be_ 10 #[.int .i64 0, .string (⟨#[]⟩ : ByteArray), .slice none 0 0] 28 ?_; intro gb101 hg w9 hbox hb; have n0_ := aa (below_step zjjbob hb); have n1_ := aa (hbox); have n2_ := aa ((zkpfjp : w.heap.size ≤ gb101)); have n3_ := aa ((zkpfjp : w.heap.size ≤ gb101)); clear HB; have HB := n0_; have BK101 := n1_; have GW101 := n2_; have GE101 := n3_; clear n0_ n1_ n2_ n3_; clear hb hbox hg) | (refine gc_ Tryd.func28 (some 23) #[.slice A0 l0.length c0, .string a1] ?_; (with_reducible refine (impl_zCode.calls k _ _ l0 a1 t102 _ ?side1 ?side2 A6.out).mono ?_); (case side1 => exact zfmbgg); (case side2 => exact HC0.out); rintro e w10 ⟨rfl, hb⟩; refine ⟨_, rfl, ?_⟩; replace BK101 := aa (bb_ BK101.out hb); replace HB := aa (below_step zkmbdh hb); (try clear hb hk hi)))
  (try simp only [Act.put, List.setIfInBounds_toArray, List.set_cons_zero, List.set_cons_succ])
  go_cut [28] (fun v28 wc => ∃ (kq : Nat) (x28_7 : Bool), v28 = .bool x28_7 ∧ Aside0 (impl_CreateZ.j0 kq l0 a1 a2 a3 a4 x28_7 = some (r1, r2, r3)) ∧ Aside0 (kq ≤ k) ∧ Aside0 (wc.heap[gb101]? = some (.cells #[.int .i64 0, .string (⟨#[]⟩ : ByteArray), (.slice none 0 0)] 28 (0, 0))) ∧ Aside0 (Below w.heap.size w wc))
  case first =>
   have H := HC8.out
   clear HC8
   revert H
   refine obs_ fun t103 A11 H => ?_
   by_cases c12 : t103 = true
   ·
    subst c12
    rw [if_pos rfl] at H
    revert H
    refine obs_ fun t104 A13 H => ?_
    have H' := aa H
    clear H
    go_wp2_with (first | (refine gc_ Tryd.func30 (some 30) #[.int .i64 a2] ?_; (with_reducible refine (impl_isData.calls a2 true _ A11.out).mono ?_); rintro e w' ⟨rfl, ⟨nd, rfl⟩⟩; refine ⟨_, rfl, ?_⟩) | (go_at_call 42; (with_reducible refine (impl_isOwner.calls a3 t104 _ A13.out).mono ?_); rintro e w' ⟨rfl, ⟨nd, rfl⟩⟩))
    go_meet
    case rel => exact ⟨_, (!t104), zagbkp, H', ⟨zpacfg⟩, ⟨zkjhpm BK101.out⟩, ⟨zkmbdh⟩⟩
   replace c12 := Bool.eq_false_iff.mpr c12
   subst c12
   rw [if_neg fT_] at H
   have H' := aa H
   clear H
   go_wp2_with (first | (refine gc_ Tryd.func30 (some 30) #[.int .i64 a2] ?_; (with_reducible refine (impl_isData.calls a2 false _ A11.out).mono ?_); rintro e w' ⟨rfl, ⟨nd, rfl⟩⟩; refine ⟨_, rfl, ?_⟩))
   go_meet
   case rel => exact ⟨_, (true), zagbkp, H', ⟨zpacfg⟩, ⟨zkjhpm BK101.out⟩, ⟨zkmbdh⟩⟩
  case rest =>
   clear HC8
   try clear c1
   try clear c2
   try clear p2
   try clear c3
   try clear c7
   try clear c7b0
   try clear c7b1
   try clear c12
   obtain ⟨kq, x28_7, rfl, HA, HJ7, BK101, HB⟩ := hcut
   cases kq with
   | zero => exact absurd HA.out (by simp [impl_CreateZ.j0])
   | succ kj7 =>
    have H := HA.out
    clear HA
    simp only [impl_CreateZ.j0] at H
    by_cases c14 : x28_7 = true
    ·
     subst c14
     rw [if_pos rfl] at H
     simp only [Option.some.injEq, Prod.mk.injEq] at H
     obtain ⟨rfl, rfl, rfl⟩ := H
     obtain ⟨hcz15_0, hcz15_1, hcz15_2, hfz15_0, hfz15_1, hfz15_2⟩ := blk3_ BK101.out
     go_wp2
     refine bodyPost_ret (results_cell_row rfl _ _ gb101 28 #[.int .i64 3, .string (⟨#[]⟩ : ByteArray), .slice none 0 0] (0, 0) _ rfl zdnlbm Tryd.underlying28 rfl (by kernel_rfl)) rfl ?_
     exact ⟨_, zlhpib, zhijhk, zkmbdh⟩
    ·
     replace c14 := Bool.eq_false_iff.mpr c14
     subst c14
     rw [if_neg fT_] at H
     by_cases c16 : a1.toList = ([47] : List UInt8)
     ·
      rw [if_pos c16] at H
      have c16b0 := beq_iff_eq.mpr c16
      have c16b1 := bne_eq_false_iff_eq.mpr c16
      clear c16
      simp only [Option.some.injEq, Prod.mk.injEq] at H
      obtain ⟨rfl, rfl, rfl⟩ := H
      obtain ⟨hcz17_0, hcz17_1, hcz17_2, hfz17_0, hfz17_1, hfz17_2⟩ := blk3_ BK101.out
      go_wp2
      refine bodyPost_ret (results_cell_row rfl _ _ gb101 28 #[.int .i64 1, .string (⟨#[]⟩ : ByteArray), .slice none 0 0] (0, 0) _ rfl zapacm Tryd.underlying28 rfl (by kernel_rfl)) rfl ?_
      exact ⟨_, zlhpib, zhijhk, zkmbdh⟩
     rw [if_neg c16] at H
     have c16b0 := beq_eq_false_iff_ne.mpr c16
     have c16b1 := bne_iff_ne.mpr c16
     revert H
     refine ob2_ fun t105 t106 A18 H => ?_
     (try dsimp only at H)
     revert H
     refine ob2_ fun t107 t108 A19 H => ?_
     (try dsimp only at H)
     by_cases c20 : t108 = true
     ·
      subst c20
      rw [if_pos rfl] at H
      by_cases c21 : 0 ≤ t107
      ·
       rw [if_pos c21] at H
       have c21b0 := decide_eq_true c21
       clear c21
       by_cases c22 : t107 < (l0.length : Int)
       ·
        rw [if_pos c22] at H
        have c22b0 := decide_eq_true c22
        clear c22
        by_cases c23 : ((rd_T32 l0 t107).f3) = 0
        ·
         rw [if_pos c23] at H
         have c23b0 := beq_iff_eq.mpr c23
         have c23b1 := bne_eq_false_iff_eq.mpr c23
         clear c23
         revert H
         refine obs_ fun t110 A24 H => ?_
         have HC25 := aa H
         clear H
         go_upto_if 67 with (first | (refine gc_ Tryd.func37 (some 44) #[.string a1] ?_; (with_reducible refine (impl_parted.calls kj7 a1 t105 t106 _ A18.out).mono ?_); rintro e w26 ⟨rfl, hb⟩; refine ⟨_, rfl, ?_⟩; replace BK101 := aa (bb_ BK101.out hb); replace HB := aa (below_step zkmbdh hb); (try clear hb hk hi)) | (refine gc_ Tryd.func29 (some 50) #[.slice A0 l0.length c0, .string t105] ?_; (with_reducible refine (impl_find.calls kj7 _ _ l0 t105 t107 true _ ?side1 ?side2 A19.out).mono ?_); (case side1 => exact zfmbgg); (case side2 => exact HC0.out); rintro e w27 ⟨rfl, hb⟩; refine ⟨_, rfl, ?_⟩; replace BK101 := aa (bb_ BK101.out hb); replace HB := aa (below_step zkmbdh hb); (try clear hb hk hi); have p109 : 0 ≤ (t107 : Int) := of_decide_eq_true zgglam; have q109 : t107 < (l0.length : Int) := of_decide_eq_true zgglam; obtain ⟨ad109, e109, hx109_0, hx109_1, hx109_2, hx109_3, hx109_4⟩ := at_T32 HR0.out t107 p109 q109; cases e109; replace hx109_0 := pb HB.out hx109_0; replace hx109_1 := pb HB.out hx109_1; replace hx109_2 := pb HB.out hx109_2; replace hx109_3 := pb HB.out hx109_3; replace hx109_4 := pb HB.out hx109_4; replace p109 := eq_true p109; replace q109 := eq_true q109) | (refine gc_ Tryd.func32 (some 66) #[.slice (some ad109) l0.length c0] ?_; (with_reducible refine (slices_Clone_impl_Znode_impl_Znode.calls _ _ l0 t110 _ ?side1 ?side2 A24.out).mono ?_); (case side1 => exact zfmbgg); (case side2 => exact HC0.out); rintro e w28 ⟨v111, rfl, ho0, hb⟩; refine ⟨_, rfl, ?_⟩; have HO112 := aa (Kd.R_lower ho0 (below_size zkmbdh)); replace BK101 := aa (bb_ BK101.out hb); replace HB := aa (below_step zkmbdh hb); (try clear hb hk hi ho0)))
         (try simp only [Act.put, List.setIfInBounds_toArray, List.set_cons_zero, List.set_cons_succ])
         go_cut [1] (fun v1 wc => ∃ (kq : Nat) (x1_24 : ByteArray) (x16_24 : List (S32)) (x102000_24 : Int) (x102001_24 : ByteArray), v1 = .string x1_24 ∧ Aside0 (impl_CreateZ.j1 kq x1_24 a2 a3 x16_24 = some (r1, r2, r3)) ∧ Aside0 (kq ≤ kj7) ∧ Aside0 (Kd.R k32 32 wc w.heap.size (fun _ => True) v111 x16_24) ∧ Aside0 (wc.heap[gb101]? = some (.cells #[.int .i64 x102000_24, .string x102001_24, (.slice none 0 0)] 28 (0, 0))) ∧ Aside0 (Below w.heap.size w wc))
         case first =>
          have H := HC25.out
          clear HC25
          by_cases c29 : a4 = true
          ·
           subst c29
           rw [if_pos rfl] at H
           by_cases c30 : t107 < (t110.length : Int)
           ·
            rw [if_pos c30] at H
            have c30b0 := decide_eq_true c30
            clear c30
            (first | rw [c30b0] | (simp only [i64_w, i32_w]; rw [c30b0]) | (simp only [c30b2, Bool.not_false, Bool.not_true]) | skip)
            by_cases c31 : ((rd_T32 t110 t107).f4) = 100
            ·
             rw [if_pos c31] at H
             have c31b0 := beq_iff_eq.mpr c31
             have c31b1 := bne_eq_false_iff_eq.mpr c31
             clear c31
             simp only [Option.some.injEq, Prod.mk.injEq] at H
             obtain ⟨rfl, rfl, rfl⟩ := H
             obtain ⟨Ao32, co32, eo32⟩ := Kd.R_slice HO112.out
             subst eo32
             have p113 : 0 ≤ (t107 : Int) := of_decide_eq_true zgglam
             have q113 : t107 < (t110.length : Int) := of_decide_eq_true zgglam
             obtain ⟨ad113, e113, hx113_0, hx113_1, hx113_2, hx113_3, hx113_4⟩ := at_T32 (Kd.R_reads' HO112.out).2.2 t107 p113 q113
             cases e113
             replace p113 := eq_true p113
             replace q113 := eq_true q113
             obtain ⟨hcz33_0, hcz33_1, hcz33_2, hfz33_0, hfz33_1, hfz33_2⟩ := blk3_ BK101.out
             go_wp2
             refine bodyPost_ret (results_cell_row rfl _ _ gb101 28 #[.int .i64 3, .string (⟨#[]⟩ : ByteArray), .slice none 0 0] (0, 0) _ rfl zdnlbm Tryd.underlying28 rfl (by kernel_rfl)) rfl ?_
             exact ⟨_, zlhpib, zhijhk, zkmbdh⟩
            rw [if_neg c31] at H
            have c31b0 := beq_eq_false_iff_ne.mpr c31
            have c31b1 := bne_iff_ne.mpr c31
            revert H
            refine ob2_ fun t115 t116 A34 H => ?_
            (try dsimp only at H)
            by_cases c35 : t115 = 0
            ·
             rw [if_pos c35] at H
             have c35b0 := beq_iff_eq.mpr c35
             have c35b1 := bne_eq_false_iff_eq.mpr c35
             clear c35
             revert H
             refine obs_ fun t118 A36 H => ?_
             revert H
             refine obs_ fun t119 A37 H => ?_
             by_cases c38 : t119 = 0
             ·
              rw [if_pos c38] at H
              have c38b0 := beq_iff_eq.mpr c38
              have c38b1 := bne_eq_false_iff_eq.mpr c38
              clear c38
              obtain ⟨y121, hy121⟩ : ∃ y_ : List (S32), y_ = (t110.set (t107 : Int).toNat (⟨(rd_T32 t110 t107).f0, (rd_T32 t110 t107).f1, (rd_T32 t110 t107).f2, (rd_T32 t110 t107).f3, wrap64 (((rd_T32 t110 t107).f4) + 1)⟩ : S32)) := ⟨_, rfl⟩
              replace H : (impl_CreateZ.j1 kj7 t118 a2 a3 y121) = some (r1, r2, r3) := by cases hy121; exact H
              have Ny121 := aa hy121
              clear hy121
              have H' := aa H
              clear H
              obtain ⟨Ao40, co40, eo40⟩ := Kd.R_slice HO112.out
              subst eo40
              have p113 : 0 ≤ (t107 : Int) := of_decide_eq_true zgglam
              have q113 : t107 < (t110.length : Int) := of_decide_eq_true zgglam
              obtain ⟨ad113, e113, hx113_0, hx113_1, hx113_2, hx113_3, hx113_4⟩ := at_T32 (Kd.R_reads' HO112.out).2.2 t107 p113 q113
              cases e113
              replace p113 := eq_true p113
              replace q113 := eq_true q113
              have p114 : 0 ≤ (t107 : Int) := of_decide_eq_true zgglam
              have q114 : t107 < (t110.length : Int) := of_decide_eq_true zgglam
              obtain ⟨ad114, e114, hx114_0, hx114_1, hx114_2, hx114_3, hx114_4⟩ := at_T32 (Kd.R_reads' HO112.out).2.2 t107 p114 q114
              obtain rfl : ad113 = ad114 := (by injection e114)
              replace p114 := eq_true p114
              replace q114 := eq_true q114
              go_wp2_with (first | (refine gc_ Tryd.func23 (some 81) #[.string t106, .int .i64 ((rd_T32 t110 t107).f4)] ?_; (with_reducible refine (impl_SeqName.calls kj7 t106 ((rd_T32 t110 t107).f4) t115 t116 _ A34.out).mono ?_); rintro e w41 ⟨rfl, hb⟩; refine ⟨_, rfl, ?_⟩; replace HO112 := aa (Kd.R_below (zcaken HO112.out) hb); replace BK101 := aa (bb_ BK101.out hb); replace HB := aa (below_step zkmbdh hb); (try clear hb hk hi)) | (refine be_ 17 #[.int .i64 0, .string (⟨#[]⟩ : ByteArray)] 46 ?_; intro gb117 hg w42 hbox hb; have n0_ := aa (Kd.R_below (zcaken HO112.out) hb); have n1_ := aa (bb_ BK101.out hb); have n2_ := aa (below_step zkmbdh hb); have n3_ := aa (hbox); have n4_ := aa ((zmjkhl : w.heap.size ≤ gb117)); have n5_ := aa ((zmjkhl : w.heap.size ≤ gb117)); have n6_ := aa ((zmbojc : gb101 ≠ gb117)); have n7_ := aa ((zigkdk : gb117 ≠ gb101)); clear HO112; clear BK101; clear HB; have HO112 := n0_; have BK101 := n1_; have HB := n2_; have BK117 := n3_; have GW117 := n4_; have GE117 := n5_; have NB101_117 := n6_; have NB117_101 := n7_; clear n0_ n1_ n2_ n3_ n4_ n5_ n6_ n7_; clear hb hbox hg; have hnb43 := NB117_101.out; have hnc43 := NB101_117.out; obtain ⟨hcz44_0, hcz44_1, hfz44_0, hfz44_1⟩ := blk2_ BK117.out) | (refine gc_ Tryd.func43 (some 91) #[.string t105, .string t116] ?_; (with_reducible refine (impl_joined.calls t105 t116 t118 _ A36.out).mono ?_); rintro e w' ⟨rfl, ⟨nd, rfl⟩⟩; refine ⟨_, rfl, ?_⟩) | (refine gc_ Tryd.func44 (some 93) #[.string t118] ?_; (with_reducible refine (impl_PathFault.calls kj7 t118 t119 _ A37.out).mono ?_); rintro e w45 ⟨rfl, hb⟩; refine ⟨_, rfl, ?_⟩; have n0_ := aa (Kd.R_below (by (with_reducible repeat (first | apply Kd.R_alloc | apply Kd.R_drewN | apply Kd.R_drew)); exact (Kd.R_mono (Kd.R_far (p := ⟨gb117, 1, none⟩) (Kd.R_far (p := ⟨gb117, 0, none⟩) (Kd.R_types HO112.out BK117.out (by decide)) (fun _ hk => hk.2) (.int .i64 t115)) (fun _ hk => hk.2) (.string t116)) (fun _ h_ => h_.1))) hb); have n1_ := aa (blk_below (g := gb101) (o := .cells #[.int .i64 0, .string (⟨#[]⟩ : ByteArray), .slice none 0 0] 28 (0, 0)) zceggh hb); have n2_ := aa (blk_below (g := gb117) (o := .cells #[.int .i64 t115, .string t116] 46 (0, 0)) zdhpjj hb); have n3_ := aa (below_step zofhll hb); clear HO112; clear BK101; clear BK117; clear HB; have HO112 := n0_; have BK101 := n1_; have BK117 := n2_; have HB := n3_; clear n0_ n1_ n2_ n3_; (try clear hb hk hi); have p120 : 0 ≤ (t107 : Int) := of_decide_eq_true zgglam; have q120 : t107 < (t110.length : Int) := of_decide_eq_true zgglam; obtain ⟨ad120, e120, hx120_0, hx120_1, hx120_2, hx120_3, hx120_4⟩ := at_T32 (Kd.R_reads' HO112.out).2.2 t107 p120 q120; obtain rfl : ad113 = ad120 := (by injection e120); replace p120 := eq_true p120; replace q120 := eq_true q120; have p39 : 0 ≤ (t107 : Int) := of_decide_eq_true zgglam; have q39 : (t107 : Int) < ((t110.length : Int) : Int) := of_decide_eq_true zgglam; obtain ⟨go39, co39, eo39, gb39, gl39, cl39, HG39⟩ := Kd.R_form HO112.out (by omega); (first | cases eo39 | (injection eo39 with ea_ en_ ec_; (first | subst ea_ | (injection ea_ with ea_; subst ea_)); subst ec_; clear en_)); have GB39 := aa gb39; have GG39 := aa HG39; clear gb39 gl39 HG39; (first | simp only [add_plain] at hx113_0 | skip); (first | simp only [add_plain] at hx113_1 | skip); (first | simp only [add_plain] at hx113_2 | skip); (first | simp only [add_plain] at hx113_3 | skip); (first | simp only [add_plain] at hx113_4 | skip); (first | simp only [add_plain] at hx114_0 | skip); (first | simp only [add_plain] at hx114_1 | skip); (first | simp only [add_plain] at hx114_2 | skip); (first | simp only [add_plain] at hx114_3 | skip); (first | simp only [add_plain] at hx114_4 | skip); (first | simp only [add_plain] at hx120_0 | skip); (first | simp only [add_plain] at hx120_1 | skip); (first | simp only [add_plain] at hx120_2 | skip); (first | simp only [add_plain] at hx120_3 | skip); (first | simp only [add_plain] at hx120_4 | skip); obtain ⟨ce39, hcl39, hM39, hcc39, hfr39⟩ := Kd.R_elem HO112.out z32 (t107 : Int) p39 q39; obtain rfl := k32_openM hM39; have hx39_0 : w45.cell? ⟨go39, (t107 : Int).toNat * 5, none⟩ = some (.string ((rd_T32 t110 t107).f0)) := hcc39 0 _ rfl; have hx39_1 : w45.cell? ⟨go39, (t107 : Int).toNat * 5 + 1, none⟩ = some (.int .i64 ((rd_T32 t110 t107).f1)) := hcc39 1 _ rfl; have hx39_2 : w45.cell? ⟨go39, (t107 : Int).toNat * 5 + 2, none⟩ = some (.int .i64 ((rd_T32 t110 t107).f2)) := hcc39 2 _ rfl; have hx39_3 : w45.cell? ⟨go39, (t107 : Int).toNat * 5 + 3, none⟩ = some (.int .i64 ((rd_T32 t110 t107).f3)) := hcc39 3 _ rfl; have hx39_4 : w45.cell? ⟨go39, (t107 : Int).toNat * 5 + 4, none⟩ = some (.int .i64 ((rd_T32 t110 t107).f4)) := hcc39 4 _ rfl; have hf39_0 : w45.frozen? ⟨go39, (t107 : Int).toNat * 5, none⟩ = false := hfr39 0; have hf39_1 : w45.frozen? ⟨go39, (t107 : Int).toNat * 5 + 1, none⟩ = false := hfr39 1; have hf39_2 : w45.frozen? ⟨go39, (t107 : Int).toNat * 5 + 2, none⟩ = false := hfr39 2; have hf39_3 : w45.frozen? ⟨go39, (t107 : Int).toNat * 5 + 3, none⟩ = false := hfr39 3; have hf39_4 : w45.frozen? ⟨go39, (t107 : Int).toNat * 5 + 4, none⟩ = false := hfr39 4; clear hcl39 hcc39 hfr39 hM39; replace p39 := eq_true p39; replace q39 := eq_true q39; have HX46 := aa (show Kd.R k32 32 w45 w.heap.size (fun _ => True) (.slice (some ⟨go39, 0, none⟩) t110.length co40) t110 from (zcaken HO112.out)); obtain ⟨ce46, hcl46, hM46, hcc46, hfr46⟩ := Kd.R_elem HX46.out z32 (t107 : Int) (of_decide_eq_true zgglam) (by have h_ : (t107 : Int) < ((t110.length : Int) : Int) := of_decide_eq_true zgglam; first | exact h_ | (have e_ := (Kd.R_reads' HO112.out).1; omega) | simpa using h_); obtain rfl := k32_openM hM46; have HP46 := Kd.R_seg HX46.out (t107 : Int) (of_decide_eq_true zgglam) (by have h_ : (t107 : Int) < ((t110.length : Int) : Int) := of_decide_eq_true zgglam; first | exact h_ | (have e_ := (Kd.R_reads' HO112.out).1; omega) | simpa using h_) (seg := [.int .i64 (wrap64 (((rd_T32 t110 t107).f4) + 1))]) (j := 4) hcl46 hcc46 (show 5 ≤ 5 from by decide) (x' := (⟨(rd_T32 t110 t107).f0, (rd_T32 t110 t107).f1, (rd_T32 t110 t107).f2, (rd_T32 t110 t107).f3, wrap64 (((rd_T32 t110 t107).f4) + 1)⟩ : S32)) (k32_mkM _ _ _ (⟨(rd_T32 t110 t107).f0, (rd_T32 t110 t107).f1, (rd_T32 t110 t107).f2, (rd_T32 t110 t107).f3, wrap64 (((rd_T32 t110 t107).f4) + 1)⟩ : S32) ) (fun _ hk => hk); have hx46_4 := hcc46 4 _ rfl; (try simp only [show (k32).sz = 5 from rfl, Nat.mul_one, Nat.add_zero] at hx46_4); have hf46_4 := hfr46 4; (try simp only [show (k32).sz = 5 from rfl, Nat.mul_one, Nat.add_zero] at hf46_4); clear hcl46 hcc46 hfr46 hM46) | ((with_reducible refine gate_store (t := 2) (p := 105) rfl ?_); refine store_event (t := 2) (p := 105) (v := ?vo_w47) (w1 := (w45.setCell ⟨go39, (t107 : Int).toNat * 5 + 4, none⟩ (.int .i64 (wrap64 (((rd_T32 t110 t107).f4) + 1))))) ?hg ?ho ?hn ?hr ?_; (case ho => rfl); (case hg => rfl); (case hn => rfl); (case hr => exact zhlgcp); intro w47 hw; have hg : w45.grownBy w47 (some go39) := (by rw [hw]; exact HP46.2); have hp_ : Kd.R k32 32 w47 w.heap.size (fun _ => True) (.slice (some ⟨go39, 0, none⟩) t110.length co40) y121 := (by rw [hw, Ny121.out]; exact HP46.1); clear HP46; have n0_ := aa (blk_grown (g := gb101) (o := .cells #[.int .i64 0, .string (⟨#[]⟩ : ByteArray), .slice none 0 0] 28 (0, 0)) (zkjhpm BK101.out) hg (Kd.R_ne HO112.out BK101.out (by decide))); have n1_ := aa (hp_); have n2_ := aa (blk_grown (g := gb117) (o := .cells #[.int .i64 t115, .string t116] 46 (0, 0)) (zkjhpm BK117.out) hg (Kd.R_ne HO112.out BK117.out (by decide))); have n3_ := aa ((by rw [hw]; exact below_set (HB.out) GB39.out : Below w.heap.size w w47)); clear BK101; clear HO112; clear BK117; clear HB; have BK101 := n0_; have HO112 := n1_; have BK117 := n2_; have HB := n3_; clear n0_ n1_ n2_ n3_; clear hg hw hp_))
              go_meet
              case rel => exact ⟨_, (t118), (y121), (0), ((⟨#[]⟩ : ByteArray)), zagbkp, H', ⟨by have := HJ7.out; first | omega | exact Nat.le_refl _⟩, ⟨zcaken HO112.out⟩, ⟨zkjhpm BK101.out⟩, ⟨zofhll⟩⟩
             rw [if_neg c38] at H
             have c38b0 := beq_eq_false_iff_ne.mpr c38
             have c38b1 := bne_iff_ne.mpr c38
             simp only [Option.some.injEq, Prod.mk.injEq] at H
             obtain ⟨rfl, rfl, rfl⟩ := H
             obtain ⟨Ao48, co48, eo48⟩ := Kd.R_slice HO112.out
             subst eo48
             have p113 : 0 ≤ (t107 : Int) := of_decide_eq_true zgglam
             have q113 : t107 < (t110.length : Int) := of_decide_eq_true zgglam
             obtain ⟨ad113, e113, hx113_0, hx113_1, hx113_2, hx113_3, hx113_4⟩ := at_T32 (Kd.R_reads' HO112.out).2.2 t107 p113 q113
             cases e113
             replace p113 := eq_true p113
             replace q113 := eq_true q113
             have p114 : 0 ≤ (t107 : Int) := of_decide_eq_true zgglam
             have q114 : t107 < (t110.length : Int) := of_decide_eq_true zgglam
             obtain ⟨ad114, e114, hx114_0, hx114_1, hx114_2, hx114_3, hx114_4⟩ := at_T32 (Kd.R_reads' HO112.out).2.2 t107 p114 q114
             obtain rfl : ad113 = ad114 := (by injection e114)
             replace p114 := eq_true p114
             replace q114 := eq_true q114
             go_wp2_with (first | (refine gc_ Tryd.func23 (some 81) #[.string t106, .int .i64 ((rd_T32 t110 t107).f4)] ?_; (with_reducible refine (impl_SeqName.calls kj7 t106 ((rd_T32 t110 t107).f4) t115 t116 _ A34.out).mono ?_); rintro e w49 ⟨rfl, hb⟩; refine ⟨_, rfl, ?_⟩; replace HO112 := aa (Kd.R_below (zcaken HO112.out) hb); replace BK101 := aa (bb_ BK101.out hb); replace HB := aa (below_step zkmbdh hb); (try clear hb hk hi)) | (refine be_ 17 #[.int .i64 0, .string (⟨#[]⟩ : ByteArray)] 46 ?_; intro gb117 hg w50 hbox hb; have n0_ := aa (Kd.R_below (zcaken HO112.out) hb); have n1_ := aa (bb_ BK101.out hb); have n2_ := aa (below_step zkmbdh hb); have n3_ := aa (hbox); have n4_ := aa ((zmjkhl : w.heap.size ≤ gb117)); have n5_ := aa ((zmjkhl : w.heap.size ≤ gb117)); have n6_ := aa ((zmbojc : gb101 ≠ gb117)); have n7_ := aa ((zigkdk : gb117 ≠ gb101)); clear HO112; clear BK101; clear HB; have HO112 := n0_; have BK101 := n1_; have HB := n2_; have BK117 := n3_; have GW117 := n4_; have GE117 := n5_; have NB101_117 := n6_; have NB117_101 := n7_; clear n0_ n1_ n2_ n3_ n4_ n5_ n6_ n7_; clear hb hbox hg; have hnb51 := NB117_101.out; have hnc51 := NB101_117.out; obtain ⟨hcz52_0, hcz52_1, hfz52_0, hfz52_1⟩ := blk2_ BK117.out) | (refine gc_ Tryd.func43 (some 91) #[.string t105, .string t116] ?_; (with_reducible refine (impl_joined.calls t105 t116 t118 _ A36.out).mono ?_); rintro e w' ⟨rfl, ⟨nd, rfl⟩⟩; refine ⟨_, rfl, ?_⟩) | (refine gc_ Tryd.func44 (some 93) #[.string t118] ?_; (with_reducible refine (impl_PathFault.calls kj7 t118 t119 _ A37.out).mono ?_); rintro e w53 ⟨rfl, hb⟩; refine ⟨_, rfl, ?_⟩; have n0_ := aa (Kd.R_below (by (with_reducible repeat (first | apply Kd.R_alloc | apply Kd.R_drewN | apply Kd.R_drew)); exact (Kd.R_mono (Kd.R_far (p := ⟨gb117, 1, none⟩) (Kd.R_far (p := ⟨gb117, 0, none⟩) (Kd.R_types HO112.out BK117.out (by decide)) (fun _ hk => hk.2) (.int .i64 t115)) (fun _ hk => hk.2) (.string t116)) (fun _ h_ => h_.1))) hb); have n1_ := aa (blk_below (g := gb101) (o := .cells #[.int .i64 0, .string (⟨#[]⟩ : ByteArray), .slice none 0 0] 28 (0, 0)) zceggh hb); have n2_ := aa (blk_below (g := gb117) (o := .cells #[.int .i64 t115, .string t116] 46 (0, 0)) zdhpjj hb); have n3_ := aa (below_step zofhll hb); clear HO112; clear BK101; clear BK117; clear HB; have HO112 := n0_; have BK101 := n1_; have BK117 := n2_; have HB := n3_; clear n0_ n1_ n2_ n3_; (try clear hb hk hi); obtain ⟨hcz54_0, hcz54_1, hcz54_2, hfz54_0, hfz54_1, hfz54_2⟩ := blk3_ BK101.out))
             refine bodyPost_ret (results_cell_row rfl _ _ gb101 28 #[.int .i64 t119, .string (⟨#[]⟩ : ByteArray), .slice none 0 0] (0, 0) _ rfl (by (with_reducible repeat (first | refine blk_drewN ?_ _ | refine blk_drew ?_ | refine blk_alloc ?_ _)); refine blk_put (cs := #[.int .i64 t119, .string (⟨#[]⟩ : ByteArray), .slice none 0 0]) ?_ 2 _ rfl; (with_reducible repeat (first | refine blk_drewN ?_ _ | refine blk_drew ?_ | refine blk_alloc ?_ _)); refine blk_put (cs := #[.int .i64 t119, .string (⟨#[]⟩ : ByteArray), .slice none 0 0]) ?_ 1 _ rfl; (with_reducible repeat (first | refine blk_drewN ?_ _ | refine blk_drew ?_ | refine blk_alloc ?_ _)); refine blk_put (cs := #[.int .i64 0, .string (⟨#[]⟩ : ByteArray), .slice none 0 0]) ?_ 0 _ rfl; (with_reducible repeat (first | refine blk_drewN ?_ _ | refine blk_drew ?_ | refine blk_alloc ?_ _)); exact BK101.out) Tryd.underlying28 rfl (by kernel_rfl)) rfl ?_
             exact ⟨_, zlhpib, zhijhk, zofhll⟩
            rw [if_neg c35] at H
            have c35b0 := beq_eq_false_iff_ne.mpr c35
            have c35b1 := bne_iff_ne.mpr c35
            simp only [Option.some.injEq, Prod.mk.injEq] at H
            obtain ⟨rfl, rfl, rfl⟩ := H
            obtain ⟨Ao55, co55, eo55⟩ := Kd.R_slice HO112.out
            subst eo55
            have p113 : 0 ≤ (t107 : Int) := of_decide_eq_true zgglam
            have q113 : t107 < (t110.length : Int) := of_decide_eq_true zgglam
            obtain ⟨ad113, e113, hx113_0, hx113_1, hx113_2, hx113_3, hx113_4⟩ := at_T32 (Kd.R_reads' HO112.out).2.2 t107 p113 q113
            cases e113
            replace p113 := eq_true p113
            replace q113 := eq_true q113
            have p114 : 0 ≤ (t107 : Int) := of_decide_eq_true zgglam
            have q114 : t107 < (t110.length : Int) := of_decide_eq_true zgglam
            obtain ⟨ad114, e114, hx114_0, hx114_1, hx114_2, hx114_3, hx114_4⟩ := at_T32 (Kd.R_reads' HO112.out).2.2 t107 p114 q114
            obtain rfl : ad113 = ad114 := (by injection e114)
            replace p114 := eq_true p114
            replace q114 := eq_true q114
            go_wp2_with (first | (refine gc_ Tryd.func23 (some 81) #[.string t106, .int .i64 ((rd_T32 t110 t107).f4)] ?_; (with_reducible refine (impl_SeqName.calls kj7 t106 ((rd_T32 t110 t107).f4) t115 t116 _ A34.out).mono ?_); rintro e w56 ⟨rfl, hb⟩; refine ⟨_, rfl, ?_⟩; replace HO112 := aa (Kd.R_below (zcaken HO112.out) hb); replace BK101 := aa (bb_ BK101.out hb); replace HB := aa (below_step zkmbdh hb); (try clear hb hk hi)) | (refine be_ 17 #[.int .i64 0, .string (⟨#[]⟩ : ByteArray)] 46 ?_; intro gb117 hg w57 hbox hb; have n0_ := aa (Kd.R_below (zcaken HO112.out) hb); have n1_ := aa (bb_ BK101.out hb); have n2_ := aa (below_step zkmbdh hb); have n3_ := aa (hbox); have n4_ := aa ((zmjkhl : w.heap.size ≤ gb117)); have n5_ := aa ((zmjkhl : w.heap.size ≤ gb117)); have n6_ := aa ((zmbojc : gb101 ≠ gb117)); have n7_ := aa ((zigkdk : gb117 ≠ gb101)); clear HO112; clear BK101; clear HB; have HO112 := n0_; have BK101 := n1_; have HB := n2_; have BK117 := n3_; have GW117 := n4_; have GE117 := n5_; have NB101_117 := n6_; have NB117_101 := n7_; clear n0_ n1_ n2_ n3_ n4_ n5_ n6_ n7_; clear hb hbox hg; have hnb58 := NB117_101.out; have hnc58 := NB101_117.out; obtain ⟨hcz59_0, hcz59_1, hfz59_0, hfz59_1⟩ := blk2_ BK117.out; obtain ⟨hcz60_0, hcz60_1, hcz60_2, hfz60_0, hfz60_1, hfz60_2⟩ := blk3_ BK101.out))
            refine bodyPost_ret (results_cell_row rfl _ _ gb101 28 #[.int .i64 t115, .string (⟨#[]⟩ : ByteArray), .slice none 0 0] (0, 0) _ rfl (by (with_reducible repeat (first | refine blk_drewN ?_ _ | refine blk_drew ?_ | refine blk_alloc ?_ _)); refine blk_put (cs := #[.int .i64 t115, .string (⟨#[]⟩ : ByteArray), .slice none 0 0]) ?_ 2 _ rfl; (with_reducible repeat (first | refine blk_drewN ?_ _ | refine blk_drew ?_ | refine blk_alloc ?_ _)); refine blk_put (cs := #[.int .i64 t115, .string (⟨#[]⟩ : ByteArray), .slice none 0 0]) ?_ 1 _ rfl; (with_reducible repeat (first | refine blk_drewN ?_ _ | refine blk_drew ?_ | refine blk_alloc ?_ _)); refine blk_put (cs := #[.int .i64 0, .string (⟨#[]⟩ : ByteArray), .slice none 0 0]) ?_ 0 _ rfl; (with_reducible repeat (first | refine blk_drewN ?_ _ | refine blk_drew ?_ | refine blk_alloc ?_ _)); refine blk_far ?_ NB101_117.out _; (with_reducible repeat (first | refine blk_drewN ?_ _ | refine blk_drew ?_ | refine blk_alloc ?_ _)); refine blk_far ?_ NB101_117.out _; (with_reducible repeat (first | refine blk_drewN ?_ _ | refine blk_drew ?_ | refine blk_alloc ?_ _)); exact BK101.out) Tryd.underlying28 rfl (by kernel_rfl)) rfl ?_
            exact ⟨_, zlhpib, zhijhk, zofhll⟩
           rw [if_neg c30] at H
           exact absurd H (by simp)
          replace c29 := Bool.eq_false_iff.mpr c29
          subst c29
          rw [if_neg fT_] at H
          have H' := aa H
          clear H
          go_wp2
          go_meet
          case rel => exact ⟨_, (a1), (t110), (0), ((⟨#[]⟩ : ByteArray)), zagbkp, H', ⟨by have := HJ7.out; first | omega | exact Nat.le_refl _⟩, ⟨zcaken HO112.out⟩, ⟨zkjhpm BK101.out⟩, ⟨zkmbdh⟩⟩
         case rest =>
          clear HC25
          try clear c1
          try clear p1
          try clear q1
          try clear hx1
          try clear c2
          try clear p2
          try clear c3
          try clear p3
          try clear q3
          try clear hx3
          try clear c4
          try clear hx4
          try clear c5
          try clear p6
          try clear c7
          try clear c7b0
          try clear c7b1
          try clear p10
          try clear q10
          try clear hx10
          try clear p11
          try clear q11
          try clear hx11
          try clear c12
          try clear p12
          try clear q12
          try clear hx12
          try clear c14
          try clear c16
          try clear c16b0
          try clear c16b1
          try clear c20
          try clear c21
          try clear c21b0
          try clear c22
          try clear c22b0
          try clear c23
          try clear c23b0
          try clear c23b1
          try clear c28
          try clear c29
          try clear c30
          try clear c30b0
          try clear c30b2
          try clear c31
          try clear c31b0
          try clear c31b1
          try clear c32
          try clear c35
          try clear c35b0
          try clear c35b1
          try clear c37
          try clear c38
          try clear c38b0
          try clear c38b1
          try clear c39
          try clear p39
          try clear q39
          try clear hx39
          try clear hf39
          try clear c43
          try clear c44
          try clear c46
          try clear hx46
          try clear hf46
          try clear c51
          try clear c58
          try clear hcz15_0
          try clear hcz15_1
          try clear hcz15_2
          try clear hcz17_0
          try clear hcz17_1
          try clear hcz17_2
          try clear hcz33_0
          try clear hcz33_1
          try clear hcz33_2
          try clear hcz44_0
          try clear hcz44_1
          try clear hcz52_0
          try clear hcz52_1
          try clear hcz54_0
          try clear hcz54_1
          try clear hcz54_2
          try clear hcz59_0
          try clear hcz59_1
          try clear hcz60_0
          try clear hcz60_1
          try clear hcz60_2
          try clear hfz15_0
          try clear hfz15_1
          try clear hfz15_2
          try clear hfz17_0
          try clear hfz17_1
          try clear hfz17_2
          try clear hfz33_0
          try clear hfz33_1
          try clear hfz33_2
          try clear hfz44_0
          try clear hfz44_1
          try clear hfz52_0
          try clear hfz52_1
          try clear hfz54_0
          try clear hfz54_1
          try clear hfz54_2
          try clear hfz59_0
          try clear hfz59_1
          try clear hfz60_0
          try clear hfz60_1
          try clear hfz60_2
          try clear hx109_0
          try clear hx109_1
          try clear hx109_2
          try clear hx109_3
          try clear hx109_4
          try clear hx113_0
          try clear hx113_1
          try clear hx113_2
          try clear hx113_3
          try clear hx113_4
          try clear hx114_0
          try clear hx114_1
          try clear hx114_2
          try clear hx114_3
          try clear hx114_4
          try clear hx120_0
          try clear hx120_1
          try clear hx120_2
          try clear hx120_3
          try clear hx120_4
          try clear hx39_0
          try clear hx39_1
          try clear hx39_2
          try clear hx39_3
          try clear hx39_4
          try clear hx46_4
          try clear p109
          try clear p113
          try clear p114
          try clear p120
          try clear p2
          try clear p39
          try clear q109
          try clear q113
          try clear q114
          try clear q120
          try clear q39
          obtain ⟨kq, x1_24, x16_24, x102000_24, x102001_24, rfl, HA, HJ24, HO_16, BK101, HB⟩ := hcut
          cases kq with
          | zero => exact absurd HA.out (by simp [impl_CreateZ.j1])
          | succ kj24 =>
           have H := HA.out
           clear HA
           simp only [impl_CreateZ.j1] at H
           revert H
           refine ob2_ fun t122 t123 A61 H => ?_
           (try dsimp only at H)
           by_cases c62 : t123 = true
           ·
            subst c62
            rw [if_pos rfl] at H
            simp only [Option.some.injEq, Prod.mk.injEq] at H
            obtain ⟨rfl, rfl, rfl⟩ := H
            obtain ⟨Ao63, co63, eo63⟩ := Kd.R_slice HO_16.out
            subst eo63
            go_wp2_with (first | (refine gc_ Tryd.func29 (some 109) #[.slice Ao63 x16_24.length co63, .string x1_24] ?_; (with_reducible refine (impl_find.calls kj24 _ _ x16_24 x1_24 t122 true _ ?side1 ?side2 A61.out).mono ?_); (case side1 => exact zbacae); (case side2 => exact (Kd.R_reads' HO_16.out).2.1); rintro e w64 ⟨rfl, hb⟩; refine ⟨_, rfl, ?_⟩; replace HO_16 := aa (Kd.R_below (zcaken HO_16.out) hb); replace BK101 := aa (bb_ BK101.out hb); replace HB := aa (below_step zkmbdh hb); (try clear hb hk hi); obtain ⟨hcz65_0, hcz65_1, hcz65_2, hfz65_0, hfz65_1, hfz65_2⟩ := blk3_ BK101.out))
            refine bodyPost_ret (results_cell_row rfl _ _ gb101 28 #[.int .i64 6, .string (⟨#[]⟩ : ByteArray), .slice none 0 0] (0, 0) _ rfl (by (with_reducible repeat (first | refine blk_drewN ?_ _ | refine blk_drew ?_ | refine blk_alloc ?_ _)); refine blk_put (cs := #[.int .i64 6, .string (⟨#[]⟩ : ByteArray), .slice none 0 0]) ?_ 2 _ rfl; (with_reducible repeat (first | refine blk_drewN ?_ _ | refine blk_drew ?_ | refine blk_alloc ?_ _)); refine blk_put (cs := #[.int .i64 6, .string x102001_24, .slice none 0 0]) ?_ 1 _ rfl; (with_reducible repeat (first | refine blk_drewN ?_ _ | refine blk_drew ?_ | refine blk_alloc ?_ _)); refine blk_put (cs := #[.int .i64 x102000_24, .string x102001_24, .slice none 0 0]) ?_ 0 _ rfl; (with_reducible repeat (first | refine blk_drewN ?_ _ | refine blk_drew ?_ | refine blk_alloc ?_ _)); exact BK101.out) Tryd.underlying28 rfl (by kernel_rfl)) rfl ?_
            exact ⟨_, zlhpib, zhijhk, zkmbdh⟩
           ·
            replace c62 := Bool.eq_false_iff.mpr c62
            subst c62
            rw [if_neg fT_] at H
            by_cases c66 : (x16_24.length : Int) = 20
            ·
             rw [if_pos c66] at H
             have c66b0 := beq_iff_eq.mpr c66
             have c66b1 := bne_eq_false_iff_eq.mpr c66
             clear c66
             simp only [Option.some.injEq, Prod.mk.injEq] at H
             obtain ⟨rfl, rfl, rfl⟩ := H
             obtain ⟨Ao67, co67, eo67⟩ := Kd.R_slice HO_16.out
             subst eo67
             go_wp2_with (first | (refine gc_ Tryd.func29 (some 109) #[.slice Ao67 x16_24.length co67, .string x1_24] ?_; (with_reducible refine (impl_find.calls kj24 _ _ x16_24 x1_24 t122 false _ ?side1 ?side2 A61.out).mono ?_); (case side1 => exact zbacae); (case side2 => exact (Kd.R_reads' HO_16.out).2.1); rintro e w68 ⟨rfl, hb⟩; refine ⟨_, rfl, ?_⟩; replace HO_16 := aa (Kd.R_below (zcaken HO_16.out) hb); replace BK101 := aa (bb_ BK101.out hb); replace HB := aa (below_step zkmbdh hb); (try clear hb hk hi); obtain ⟨hcz69_0, hcz69_1, hcz69_2, hfz69_0, hfz69_1, hfz69_2⟩ := blk3_ BK101.out))
             refine bodyPost_ret (results_cell_row rfl _ _ gb101 28 #[.int .i64 2, .string (⟨#[]⟩ : ByteArray), .slice none 0 0] (0, 0) _ rfl (by (with_reducible repeat (first | refine blk_drewN ?_ _ | refine blk_drew ?_ | refine blk_alloc ?_ _)); refine blk_put (cs := #[.int .i64 2, .string (⟨#[]⟩ : ByteArray), .slice none 0 0]) ?_ 2 _ rfl; (with_reducible repeat (first | refine blk_drewN ?_ _ | refine blk_drew ?_ | refine blk_alloc ?_ _)); refine blk_put (cs := #[.int .i64 2, .string x102001_24, .slice none 0 0]) ?_ 1 _ rfl; (with_reducible repeat (first | refine blk_drewN ?_ _ | refine blk_drew ?_ | refine blk_alloc ?_ _)); refine blk_put (cs := #[.int .i64 x102000_24, .string x102001_24, .slice none 0 0]) ?_ 0 _ rfl; (with_reducible repeat (first | refine blk_drewN ?_ _ | refine blk_drew ?_ | refine blk_alloc ?_ _)); exact BK101.out) Tryd.underlying28 rfl (by kernel_rfl)) rfl ?_
             exact ⟨_, zlhpib, zhijhk, zkmbdh⟩
            rw [if_neg c66] at H
            have c66b0 := beq_eq_false_iff_ne.mpr c66
            have c66b1 := bne_iff_ne.mpr c66
            obtain ⟨y124, hy124⟩ : ∃ y_ : List (S32), y_ = (([(⟨x1_24, a2, 0, a3, 0⟩ : S32)] : List (S32))) := ⟨_, rfl⟩
            replace H : ((slices_Insert_impl_Znode_impl_Znode.f x16_24 t122 y124).bind fun t127 => (some (0, x1_24, t127))) = some (r1, r2, r3) := by cases hy124; exact H
            have Ny124 := aa hy124
            clear hy124
            revert H
            refine obs_ fun t127 A70 H => ?_
            simp only [Option.some.injEq, Prod.mk.injEq] at H
            obtain ⟨rfl, rfl, rfl⟩ := H
            obtain ⟨Ao71, co71, eo71⟩ := Kd.R_slice HO_16.out
            subst eo71
            go_wp2_with (first | (refine gc_ Tryd.func29 (some 109) #[.slice Ao71 x16_24.length co71, .string x1_24] ?_; (with_reducible refine (impl_find.calls kj24 _ _ x16_24 x1_24 t122 false _ ?side1 ?side2 A61.out).mono ?_); (case side1 => exact zbacae); (case side2 => exact (Kd.R_reads' HO_16.out).2.1); rintro e w72 ⟨rfl, hb⟩; refine ⟨_, rfl, ?_⟩; replace HO_16 := aa (Kd.R_below (zcaken HO_16.out) hb); replace BK101 := aa (bb_ BK101.out hb); replace HB := aa (below_step zkmbdh hb); (try clear hb hk hi)) | ((with_reducible refine gate_dst (N := 127) rfl ?_); refine Kd.R_lit k32 _ 32 ?hg (N := 127) ?hd (xs := ([(⟨x1_24, a2, 0, a3, 0⟩ : S32)] : List (S32))) (inner := [.string x1_24, .int .i64 a2, .int .i64 0, .int .i64 a3, .int .i64 0]) (ok := fun _ => True) (okp := fun _ => True) ?hr ?hp (fun _ hk => hk) trivial (Below.refl _ _) (Nat.le_refl _) (by simp) ?_; (case hd => rfl); (case hg => rfl); (case hr => exact zhlgcp); (case hp => exact (Reps.c5 (show Kd.M k32 _ _ _ (⟨x1_24, a2, 0, a3, 0⟩ : S32) [.string x1_24, .int .i64 a2, .int .i64 0, .int .i64 a3, .int .i64 0] from (k32_mkM _ _ _ (⟨x1_24, a2, 0, a3, 0⟩ : S32) )) (Reps.none _ _))); intro v125 w73 ho74 hb hg_ hnew_; clear hg_ hnew_; (first | rw [← Ny124.out] at ho74 | (simp only [Int.reduceToNat] at ho74; rw [← Ny124.out] at ho74)); have n0_ := aa (Kd.R_elder' (zcaken HO_16.out) (Kd.R_base ho74) hb); have n1_ := aa (Kd.R_lower (Kd.R_new' ho74 (Kd.R_lt (zcaken HO_16.out))) (below_size zkmbdh)); have n2_ := aa (bb_ BK101.out hb); have n3_ := aa (below_step zkmbdh hb); clear HO_16; clear BK101; clear HB; have HO_16 := n0_; have HO126 := n1_; have BK101 := n2_; have HB := n3_; clear n0_ n1_ n2_ n3_; clear hb ho74; obtain ⟨Ao75, co75, eo75⟩ := Kd.R_slice HO126.out; subst eo75) | (refine gc_ Tryd.func45 (some 128) #[.slice Ao71 x16_24.length co71, .int .i64 t122, .slice Ao75 y124.length co75] ?_; (with_reducible refine (slices_Insert_impl_Znode_impl_Znode.calls (fun k_ => some k_ = (.slice Ao71 x16_24.length co71 : Value).ownBlock) (.slice Ao71 x16_24.length co71) x16_24 t122 _ _ y124 t127 w _ ?side1 ?side2 ?side3 ?side4 ?sidex A70.out).mono ?_); (case side1 => exact zkmbdh); (case side2 => exact Kd.R_tight rfl HO_16.out); (case side3 => exact Kd.C_kept_own (HO126.out) (fun k_ hk_ hs_ => (hk_.2) hs_)); (case side4 => exact (Kd.R_reads' HO126.out).2.1); (case sidex => exact Go.Proofs.YtegggpipggniaaaDoor.Raw.own_plain (zcaken HO126.out)); rintro e w76 ⟨v128, rfl, ho0, hb, hkp⟩; refine ⟨_, rfl, ?_⟩; have n0_ := aa (blk_kept (zkjhpm BK101.out) hkp (fun hs_ => (fun e_ => (Kd.R_ne HO_16.out BK101.out (by decide)) e_) hs_)); have n1_ := aa (Kd.R_mono (ok' := fun k_ => some k_ ≠ (v128 : Value).ownBlock) (Kd.R_keptB (HO126.out) hkp (fun k_ hk_ hs_ => (hk_.2) hs_)) (fun k_ hk_ => fun e_ => Or.elim (ho0.1 k_ e_.symm) (fun hs_ => hk_.2.1 hs_) (fun hn_ => Nat.not_le.2 hk_.2.2 hn_))); have n2_ := aa (Kd.R_mono (ok' := fun k_ => some k_ ≠ (.slice Ao75 y124.length co75 : Value).ownBlock) ho0 (fun k_ hk_ => Or.elim hk_ (fun hs_ => fun e_ => (((HO126.out).1 k_ e_.symm).2) hs_) (fun hn_ => (Kd.fresh' (Kd.R_lt (zcaken HO126.out)) k_ hn_)))); have n3_ := aa (hb); clear BK101; clear HO126; clear HB; clear HO_16; have BK101 := n0_; have HO126 := n1_; have HO129 := n2_; have HB := n3_; clear n0_ n1_ n2_ n3_; (try clear hb hkp ho0); obtain ⟨Ao77, co77, eo77⟩ := Kd.R_slice HO129.out; subst eo77; obtain ⟨hcz78_0, hcz78_1, hcz78_2, hfz78_0, hfz78_1, hfz78_2⟩ := blk3_ BK101.out))
            refine bodyPost_ret (results_cell_row rfl _ _ gb101 28 #[.int .i64 0, .string x1_24, .slice Ao77 t127.length co77] (0, 0) _ rfl (by (with_reducible repeat (first | refine blk_drewN ?_ _ | refine blk_drew ?_ | refine blk_alloc ?_ _)); refine blk_put (cs := #[.int .i64 0, .string x1_24, .slice none 0 0]) ?_ 2 _ rfl; (with_reducible repeat (first | refine blk_drewN ?_ _ | refine blk_drew ?_ | refine blk_alloc ?_ _)); refine blk_put (cs := #[.int .i64 0, .string x102001_24, .slice none 0 0]) ?_ 1 _ rfl; (with_reducible repeat (first | refine blk_drewN ?_ _ | refine blk_drew ?_ | refine blk_alloc ?_ _)); refine blk_put (cs := #[.int .i64 x102000_24, .string x102001_24, .slice none 0 0]) ?_ 0 _ rfl; (with_reducible repeat (first | refine blk_drewN ?_ _ | refine blk_drew ?_ | refine blk_alloc ?_ _)); exact BK101.out) Tryd.underlying28 rfl (by kernel_rfl)) rfl ?_
            exact ⟨_, zlhpib, by (with_reducible repeat (first | apply Kd.R_alloc | apply Kd.R_drewN | apply Kd.R_drew)); exact Kd.R_mono (Kd.R_far (p := ⟨gb101, 2, none⟩) (Kd.R_far (p := ⟨gb101, 1, none⟩) (Kd.R_far (p := ⟨gb101, 0, none⟩) (Kd.R_types HO129.out BK101.out (by decide)) (fun _ hk => hk.2) (.int .i64 0)) (fun _ hk => hk.2) (.string x1_24)) (fun _ hk => hk.2) (.slice Ao77 t127.length co77)) (fun _ hk => trivial), zkmbdh⟩
        rw [if_neg c23] at H
        have c23b0 := beq_eq_false_iff_ne.mpr c23
        have c23b1 := bne_iff_ne.mpr c23
        simp only [Option.some.injEq, Prod.mk.injEq] at H
        obtain ⟨rfl, rfl, rfl⟩ := H
        go_wp2_with (first | (refine gc_ Tryd.func37 (some 44) #[.string a1] ?_; (with_reducible refine (impl_parted.calls kj7 a1 t105 t106 _ A18.out).mono ?_); rintro e w79 ⟨rfl, hb⟩; refine ⟨_, rfl, ?_⟩; replace BK101 := aa (bb_ BK101.out hb); replace HB := aa (below_step zkmbdh hb); (try clear hb hk hi)) | (refine gc_ Tryd.func29 (some 50) #[.slice A0 l0.length c0, .string t105] ?_; (with_reducible refine (impl_find.calls kj7 _ _ l0 t105 t107 true _ ?side1 ?side2 A19.out).mono ?_); (case side1 => exact zfmbgg); (case side2 => exact HC0.out); rintro e w80 ⟨rfl, hb⟩; refine ⟨_, rfl, ?_⟩; replace BK101 := aa (bb_ BK101.out hb); replace HB := aa (below_step zkmbdh hb); (try clear hb hk hi); have p109 : 0 ≤ (t107 : Int) := of_decide_eq_true zgglam; have q109 : t107 < (l0.length : Int) := of_decide_eq_true zgglam; obtain ⟨ad109, e109, hx109_0, hx109_1, hx109_2, hx109_3, hx109_4⟩ := at_T32 HR0.out t107 p109 q109; cases e109; replace hx109_0 := pb HB.out hx109_0; replace hx109_1 := pb HB.out hx109_1; replace hx109_2 := pb HB.out hx109_2; replace hx109_3 := pb HB.out hx109_3; replace hx109_4 := pb HB.out hx109_4; replace p109 := eq_true p109; replace q109 := eq_true q109; obtain ⟨hcz81_0, hcz81_1, hcz81_2, hfz81_0, hfz81_1, hfz81_2⟩ := blk3_ BK101.out))
        refine bodyPost_ret (results_cell_row rfl _ _ gb101 28 #[.int .i64 8, .string (⟨#[]⟩ : ByteArray), .slice none 0 0] (0, 0) _ rfl zeoiik Tryd.underlying28 rfl (by kernel_rfl)) rfl ?_
        exact ⟨_, zlhpib, zhijhk, zkmbdh⟩
       rw [if_neg c22] at H
       exact absurd H (by simp)
      rw [if_neg c21] at H
      exact absurd H (by simp)
     replace c20 := Bool.eq_false_iff.mpr c20
     subst c20
     rw [if_neg fT_] at H
     simp only [Option.some.injEq, Prod.mk.injEq] at H
     obtain ⟨rfl, rfl, rfl⟩ := H
     go_wp2_with (first | (refine gc_ Tryd.func37 (some 44) #[.string a1] ?_; (with_reducible refine (impl_parted.calls kj7 a1 t105 t106 _ A18.out).mono ?_); rintro e w82 ⟨rfl, hb⟩; refine ⟨_, rfl, ?_⟩; replace BK101 := aa (bb_ BK101.out hb); replace HB := aa (below_step zkmbdh hb); (try clear hb hk hi)) | (refine gc_ Tryd.func29 (some 50) #[.slice A0 l0.length c0, .string t105] ?_; (with_reducible refine (impl_find.calls kj7 _ _ l0 t105 t107 false _ ?side1 ?side2 A19.out).mono ?_); (case side1 => exact zfmbgg); (case side2 => exact HC0.out); rintro e w83 ⟨rfl, hb⟩; refine ⟨_, rfl, ?_⟩; replace BK101 := aa (bb_ BK101.out hb); replace HB := aa (below_step zkmbdh hb); (try clear hb hk hi); obtain ⟨hcz84_0, hcz84_1, hcz84_2, hfz84_0, hfz84_1, hfz84_2⟩ := blk3_ BK101.out))
     refine bodyPost_ret (results_cell_row rfl _ _ gb101 28 #[.int .i64 4, .string (⟨#[]⟩ : ByteArray), .slice none 0 0] (0, 0) _ rfl zcgheb Tryd.underlying28 rfl (by kernel_rfl)) rfl ?_
     exact ⟨_, zlhpib, zhijhk, zkmbdh⟩
 rw [if_neg c7] at H
 have c7b0 := beq_eq_false_iff_ne.mpr c7
 have c7b1 := bne_iff_ne.mpr c7
 simp only [Option.some.injEq, Prod.mk.injEq] at H
 obtain ⟨rfl, rfl, rfl⟩ := H
 go_enter Tryd.func16, Tryd.ntmps16
 go_wp2_with (first | (refine be_ 10 #[.int .i64 0, .string (⟨#[]⟩ : ByteArray), .slice none 0 0] 28 ?_; intro gb101 hg w85 hbox hb; have n0_ := aa (below_step zjjbob hb); have n1_ := aa (hbox); have n2_ := aa ((zkpfjp : w.heap.size ≤ gb101)); have n3_ := aa ((zkpfjp : w.heap.size ≤ gb101)); clear HB; have HB := n0_; have BK101 := n1_; have GW101 := n2_; have GE101 := n3_; clear n0_ n1_ n2_ n3_; clear hb hbox hg) | (refine gc_ Tryd.func28 (some 23) #[.slice A0 l0.length c0, .string a1] ?_; (with_reducible refine (impl_zCode.calls k _ _ l0 a1 t102 _ ?side1 ?side2 A6.out).mono ?_); (case side1 => exact zfmbgg); (case side2 => exact HC0.out); rintro e w86 ⟨rfl, hb⟩; refine ⟨_, rfl, ?_⟩; replace BK101 := aa (bb_ BK101.out hb); replace HB := aa (below_step zkmbdh hb); (try clear hb hk hi); obtain ⟨hcz87_0, hcz87_1, hcz87_2, hfz87_0, hfz87_1, hfz87_2⟩ := blk3_ BK101.out))
 refine bodyPost_ret (results_cell_row rfl _ _ gb101 28 #[.int .i64 t102, .string (⟨#[]⟩ : ByteArray), .slice none 0 0] (0, 0) _ rfl zpdnbb Tryd.underlying28 rfl (by kernel_rfl)) rfl ?_
 exact ⟨_, zlhpib, zhijhk, zkmbdh⟩
/-! ### impl_KidsZ: function 17 -/
def impl_KidsZ.f (k : Nat) (l0 : List (S32)) (a1 : ByteArray) : Option (Int × List ByteArray) := (impl_zCode.f k l0 a1).bind fun t102 => (if t102 = 0 then ((impl_find.f k l0 a1).bind fun bt103 => (if bt103.2 = true then ((impl_kids.f k l0 a1).bind fun t105 => (some (0, t105))) else (some (4, ([] : List ByteArray))))) else (some (t102, ([] : List ByteArray))))
theorem impl_KidsZ.mono : ∀ a0 a1 k, LeO (impl_KidsZ.f k a0 a1) (impl_KidsZ.f (k + 1) a0 a1) := by
 intro a0 a1 k
 unfold impl_KidsZ.f
 with_reducible repeat' first | exact impl_find.mono _ _ _ | exact impl_kids.mono _ _ _ | exact impl_zCode.mono _ _ _ | exact LeO.refl _ | exact LeO.none _ | refine LeO.ite ?_ ?_ | refine LeO.bind ?_ (fun _ => ?_)
theorem impl_KidsZ.calls (k : Nat) (A0 : Option Addr) (c0 : Nat) (l0 : List (S32)) (a1 : ByteArray) (r1 : Int) (r2 : List ByteArray) (w : World) (hr0 : Kd.C k32 w A0 l0.length l0) (hc0 : l0.length ≤ c0) (h : impl_KidsZ.f k l0 a1 = some (r1, r2)) :
  Calls Tryd.prog 17 #[.slice A0 l0.length c0, .string a1] w fun e w' => ∃ v1_ : Value, e = .returned (.agg #[.int .i64 r1, v1_]) ∧ Kd.R Kd.string 9 w' w.heap.size (fun _ => True) v1_ r2 ∧ Below w.heap.size w w' := by
 have hu40 := Tryd.underlying40
 have HR0 := aa hr0
 have HC0 := aa hc0
 clear hr0 hc0
 have HB := aa (Below.refl w.heap.size w)
 have H : ((impl_zCode.f k l0 a1).bind fun t102 => (if t102 = 0 then ((impl_find.f k l0 a1).bind fun bt103 => (if bt103.2 = true then ((impl_kids.f k l0 a1).bind fun t105 => (some (0, t105))) else (some (4, ([] : List ByteArray))))) else (some (t102, ([] : List ByteArray))))) = some (r1, r2) := h
 clear h
 revert H
 refine obs_ fun t102 A3 H => ?_
 by_cases c4 : t102 = 0
 ·
  rw [if_pos c4] at H
  have c4b0 := beq_iff_eq.mpr c4
  have c4b1 := bne_eq_false_iff_eq.mpr c4
  clear c4
  revert H
  refine ob2_ fun t103 t104 A5 H => ?_
  (try dsimp only at H)
  by_cases c6 : t104 = true
  ·
   subst c6
   rw [if_pos rfl] at H
   revert H
   refine obs_ fun t105 A7 H => ?_
   simp only [Option.some.injEq, Prod.mk.injEq] at H
   obtain ⟨rfl, rfl⟩ := H
   go_enter Tryd.func17, Tryd.ntmps17
   go_wp2_with (first | (refine be_ 4 #[.int .i64 0, .slice none 0 0] 40 ?_; intro gb101 hg w8 hbox hb; have n0_ := aa (below_step zjjbob hb); have n1_ := aa (hbox); have n2_ := aa ((zkpfjp : w.heap.size ≤ gb101)); have n3_ := aa ((zkpfjp : w.heap.size ≤ gb101)); clear HB; have HB := n0_; have BK101 := n1_; have GW101 := n2_; have GE101 := n3_; clear n0_ n1_ n2_ n3_; clear hb hbox hg) | (refine gc_ Tryd.func28 (some 10) #[.slice A0 l0.length c0, .string a1] ?_; (with_reducible refine (impl_zCode.calls k _ _ l0 a1 t102 _ ?side1 ?side2 A3.out).mono ?_); (case side1 => exact zfmbgg); (case side2 => exact HC0.out); rintro e w9 ⟨rfl, hb⟩; refine ⟨_, rfl, ?_⟩; replace BK101 := aa (bb_ BK101.out hb); replace HB := aa (below_step zkmbdh hb); (try clear hb hk hi)) | (refine gc_ Tryd.func29 (some 18) #[.slice A0 l0.length c0, .string a1] ?_; (with_reducible refine (impl_find.calls k _ _ l0 a1 t103 true _ ?side1 ?side2 A5.out).mono ?_); (case side1 => exact zfmbgg); (case side2 => exact HC0.out); rintro e w10 ⟨rfl, hb⟩; refine ⟨_, rfl, ?_⟩; replace BK101 := aa (bb_ BK101.out hb); replace HB := aa (below_step zkmbdh hb); (try clear hb hk hi)) | (refine gc_ Tryd.func39 (some 26) #[.slice A0 l0.length c0, .string a1] ?_; (with_reducible refine (impl_kids.calls k _ _ l0 a1 t105 _ ?side1 ?side2 A7.out).mono ?_); (case side1 => exact zfmbgg); (case side2 => exact HC0.out); rintro e w11 ⟨v106, rfl, ho0, hb⟩; refine ⟨_, rfl, ?_⟩; have HO107 := aa (Kd.R_lower ho0 (below_size zkmbdh)); replace BK101 := aa (bb_ BK101.out hb); replace HB := aa (below_step zkmbdh hb); (try clear hb hk hi ho0); obtain ⟨Ao12, co12, eo12⟩ := Kd.R_slice HO107.out; subst eo12; obtain ⟨hcz13_0, hcz13_1, hfz13_0, hfz13_1⟩ := blk2_ BK101.out))
   refine bodyPost_ret (results_cell_row rfl _ _ gb101 40 #[.int .i64 0, .slice Ao12 t105.length co12] (0, 0) _ rfl (by (with_reducible repeat (first | refine blk_drewN ?_ _ | refine blk_drew ?_ | refine blk_alloc ?_ _)); refine blk_put (cs := #[.int .i64 0, .slice none 0 0]) ?_ 1 _ rfl; (with_reducible repeat (first | refine blk_drewN ?_ _ | refine blk_drew ?_ | refine blk_alloc ?_ _)); refine blk_put (cs := #[.int .i64 0, .slice none 0 0]) ?_ 0 _ rfl; (with_reducible repeat (first | refine blk_drewN ?_ _ | refine blk_drew ?_ | refine blk_alloc ?_ _)); exact BK101.out) Tryd.underlying40 rfl (by kernel_rfl)) rfl ?_
   exact ⟨_, zlhpib, by (with_reducible repeat (first | apply Kd.R_alloc | apply Kd.R_drewN | apply Kd.R_drew)); exact Kd.R_mono (Kd.R_far (p := ⟨gb101, 1, none⟩) (Kd.R_far (p := ⟨gb101, 0, none⟩) (Kd.R_types HO107.out BK101.out (by decide)) (fun _ hk => hk.2) (.int .i64 0)) (fun _ hk => hk.2) (.slice Ao12 t105.length co12)) (fun _ hk => trivial), zkmbdh⟩
  replace c6 := Bool.eq_false_iff.mpr c6
  subst c6
  rw [if_neg fT_] at H
  simp only [Option.some.injEq, Prod.mk.injEq] at H
  obtain ⟨rfl, rfl⟩ := H
  go_enter Tryd.func17, Tryd.ntmps17
  go_wp2_with (first | (refine be_ 4 #[.int .i64 0, .slice none 0 0] 40 ?_; intro gb101 hg w14 hbox hb; have n0_ := aa (below_step zjjbob hb); have n1_ := aa (hbox); have n2_ := aa ((zkpfjp : w.heap.size ≤ gb101)); have n3_ := aa ((zkpfjp : w.heap.size ≤ gb101)); clear HB; have HB := n0_; have BK101 := n1_; have GW101 := n2_; have GE101 := n3_; clear n0_ n1_ n2_ n3_; clear hb hbox hg) | (refine gc_ Tryd.func28 (some 10) #[.slice A0 l0.length c0, .string a1] ?_; (with_reducible refine (impl_zCode.calls k _ _ l0 a1 t102 _ ?side1 ?side2 A3.out).mono ?_); (case side1 => exact zfmbgg); (case side2 => exact HC0.out); rintro e w15 ⟨rfl, hb⟩; refine ⟨_, rfl, ?_⟩; replace BK101 := aa (bb_ BK101.out hb); replace HB := aa (below_step zkmbdh hb); (try clear hb hk hi)) | (refine gc_ Tryd.func29 (some 18) #[.slice A0 l0.length c0, .string a1] ?_; (with_reducible refine (impl_find.calls k _ _ l0 a1 t103 false _ ?side1 ?side2 A5.out).mono ?_); (case side1 => exact zfmbgg); (case side2 => exact HC0.out); rintro e w16 ⟨rfl, hb⟩; refine ⟨_, rfl, ?_⟩; replace BK101 := aa (bb_ BK101.out hb); replace HB := aa (below_step zkmbdh hb); (try clear hb hk hi); obtain ⟨hcz17_0, hcz17_1, hfz17_0, hfz17_1⟩ := blk2_ BK101.out))
  refine bodyPost_ret (results_cell_row rfl _ _ gb101 40 #[.int .i64 4, .slice none 0 0] (0, 0) _ rfl (by (with_reducible repeat (first | refine blk_drewN ?_ _ | refine blk_drew ?_ | refine blk_alloc ?_ _)); refine blk_put (cs := #[.int .i64 4, .slice none 0 0]) ?_ 1 _ rfl; (with_reducible repeat (first | refine blk_drewN ?_ _ | refine blk_drew ?_ | refine blk_alloc ?_ _)); refine blk_put (cs := #[.int .i64 0, .slice none 0 0]) ?_ 0 _ rfl; (with_reducible repeat (first | refine blk_drewN ?_ _ | refine blk_drew ?_ | refine blk_alloc ?_ _)); exact BK101.out) Tryd.underlying40 rfl (by kernel_rfl)) rfl ?_
  exact ⟨_, zlhpib, zhijhk, zkmbdh⟩
 rw [if_neg c4] at H
 have c4b0 := beq_eq_false_iff_ne.mpr c4
 have c4b1 := bne_iff_ne.mpr c4
 simp only [Option.some.injEq, Prod.mk.injEq] at H
 obtain ⟨rfl, rfl⟩ := H
 go_enter Tryd.func17, Tryd.ntmps17
 go_wp2_with (first | (refine be_ 4 #[.int .i64 0, .slice none 0 0] 40 ?_; intro gb101 hg w18 hbox hb; have n0_ := aa (below_step zjjbob hb); have n1_ := aa (hbox); have n2_ := aa ((zkpfjp : w.heap.size ≤ gb101)); have n3_ := aa ((zkpfjp : w.heap.size ≤ gb101)); clear HB; have HB := n0_; have BK101 := n1_; have GW101 := n2_; have GE101 := n3_; clear n0_ n1_ n2_ n3_; clear hb hbox hg) | (refine gc_ Tryd.func28 (some 10) #[.slice A0 l0.length c0, .string a1] ?_; (with_reducible refine (impl_zCode.calls k _ _ l0 a1 t102 _ ?side1 ?side2 A3.out).mono ?_); (case side1 => exact zfmbgg); (case side2 => exact HC0.out); rintro e w19 ⟨rfl, hb⟩; refine ⟨_, rfl, ?_⟩; replace BK101 := aa (bb_ BK101.out hb); replace HB := aa (below_step zkmbdh hb); (try clear hb hk hi); obtain ⟨hcz20_0, hcz20_1, hfz20_0, hfz20_1⟩ := blk2_ BK101.out))
 refine bodyPost_ret (results_cell_row rfl _ _ gb101 40 #[.int .i64 t102, .slice none 0 0] (0, 0) _ rfl (by (with_reducible repeat (first | refine blk_drewN ?_ _ | refine blk_drew ?_ | refine blk_alloc ?_ _)); refine blk_put (cs := #[.int .i64 t102, .slice none 0 0]) ?_ 1 _ rfl; (with_reducible repeat (first | refine blk_drewN ?_ _ | refine blk_drew ?_ | refine blk_alloc ?_ _)); refine blk_put (cs := #[.int .i64 0, .slice none 0 0]) ?_ 0 _ rfl; (with_reducible repeat (first | refine blk_drewN ?_ _ | refine blk_drew ?_ | refine blk_alloc ?_ _)); exact BK101.out) Tryd.underlying40 rfl (by kernel_rfl)) rfl ?_
 exact ⟨_, zlhpib, zhijhk, zkmbdh⟩
end Go.Proofs.YtegggpipggniaaaDoor.Qa
namespace Go.Proofs.YtegggpipggniaaaDoor.Qa
open Go.RowKit Go.Proofs.YtegggpipggniaaaDoorW.PrintWords Go.Proofs.YtegggpipggniaaaDoorW.PrintLast Go.Proofs.YtegggpipggniaaaDoorW.PrintMore
attribute [local go_sem] max2_int min2_int max_two min_two max_three min_three max_four min_four
set_option linter.unusedVariables false
set_option linter.unusedSimpArgs false
theorem eqA32 (d : Nat) (w : World) (x0 y0 : ByteArray) (x1 y1 : Int) (x2 y2 : Int) (x3 y3 : Int) (x4 y4 : Int) :
  (Op.equalIn (d + 2) 32 (.agg #[.string x0, .int .i64 x1, .int .i64 x2, .int .i64 x3, .int .i64 x4]) (.agg #[.string y0, .int .i64 y1, .int .i64 y2, .int .i64 y3, .int .i64 y4])).run Tryd.prog w = .ok (x0.toList == y0.toList && (x1 == y1 && (x2 == y2 && (x3 == y3 && (x4 == y4))))) w := by
 refine eqA_of Tryd.underlying32 (by kernel_rfl) ?_
 refine eqf_cons (by rfl) (by go_simp; rfl) (by go_simp; rfl) (by go_simp) ?_
 refine eqf_cons (by rfl) (by go_simp; rfl) (by go_simp; rfl) (by go_simp) ?_
 refine eqf_cons (by rfl) (by go_simp; rfl) (by go_simp; rfl) (by go_simp) ?_
 refine eqf_cons (by rfl) (by go_simp; rfl) (by go_simp; rfl) (by go_simp) ?_
 exact eqf_last (by rfl) (by go_simp; rfl) (by go_simp; rfl) (by go_simp)
end Go.Proofs.YtegggpipggniaaaDoor.Qa
namespace Go.Proofs.YtegggpipggniaaaDoor.Qa
open Go.RowKit Go.Proofs.YtegggpipggniaaaDoorW.PrintWords Go.Proofs.YtegggpipggniaaaDoorW.PrintLast Go.Proofs.YtegggpipggniaaaDoorW.PrintMore
attribute [local go_sem] max2_int min2_int max_two min_two max_three min_three max_four min_four
set_option linter.unusedVariables false
set_option linter.unusedSimpArgs false
attribute [local go_sem high] eqA32
set_option maxHeartbeats 8000000
set_option maxRecDepth 100000
/-! ### slices_Equal_impl_Znode_impl_Znode: function 46 -/
def slices_Equal_impl_Znode_impl_Znode.l0 : Nat → List (S32) → List (S32) → Int → Int → Option (Bool)
 | 0, _, _, _, _ => none
 | k + 1, x0, x1, x12, x13 => if x13 < x12 then (if 0 ≤ x13 then (if x13 < (x0.length : Int) then (if x13 < (x1.length : Int) then (if (!((((rd_T32 x0 x13).f0).toList) == (((rd_T32 x1 x13).f0).toList)) || (!(((rd_T32 x0 x13).f1) == ((rd_T32 x1 x13).f1)) || (!(((rd_T32 x0 x13).f2) == ((rd_T32 x1 x13).f2)) || (!(((rd_T32 x0 x13).f3) == ((rd_T32 x1 x13).f3)) || (!(((rd_T32 x0 x13).f4) == ((rd_T32 x1 x13).f4))))))) = true then (some false) else (slices_Equal_impl_Znode_impl_Znode.l0 k x0 x1 x12 (wrap64 (x13 + 1)))) else (none)) else (none)) else (none)) else (some true)
def slices_Equal_impl_Znode_impl_Znode.f (k : Nat) (l0 : List (S32)) (l1 : List (S32)) : Option (Bool) := if (l0.length : Int) = (l1.length : Int) then (slices_Equal_impl_Znode_impl_Znode.l0 k l0 l1 (l0.length : Int) 0) else (some false)
theorem slices_Equal_impl_Znode_impl_Znode.mono_l : ∀ k, (∀ y0 y1 y2 y3, LeO (slices_Equal_impl_Znode_impl_Znode.l0 k y0 y1 y2 y3) (slices_Equal_impl_Znode_impl_Znode.l0 (k + 1) y0 y1 y2 y3))
 | 0 => fun _ _ _ _ r h => by simp [slices_Equal_impl_Znode_impl_Znode.l0] at h
 | k + 1 => by
  have ih0 := slices_Equal_impl_Znode_impl_Znode.mono_l k
  ·
   intro y0 y1 y2 y3
   unfold slices_Equal_impl_Znode_impl_Znode.l0
   with_reducible repeat' first | exact ih0 _ _ _ _ | exact LeO.refl _ | exact LeO.none _ | refine LeO.ite ?_ ?_ | refine LeO.bind ?_ (fun _ => ?_)
theorem slices_Equal_impl_Znode_impl_Znode.mono : ∀ a0 a1 k, LeO (slices_Equal_impl_Znode_impl_Znode.f k a0 a1) (slices_Equal_impl_Znode_impl_Znode.f (k + 1) a0 a1) := by
 intro a0 a1 k
 have ih0 := slices_Equal_impl_Znode_impl_Znode.mono_l k
 unfold slices_Equal_impl_Znode_impl_Znode.f
 with_reducible repeat' first | exact ih0 _ _ _ _ | exact LeO.refl _ | exact LeO.none _ | refine LeO.ite ?_ ?_ | refine LeO.bind ?_ (fun _ => ?_)
theorem slices_Equal_impl_Znode_impl_Znode.calls (k : Nat) (A0 : Option Addr) (c0 : Nat) (l0 : List (S32)) (A1 : Option Addr) (c1 : Nat) (l1 : List (S32)) (r : Bool) (w : World) (hr0 : Kd.C k32 w A0 l0.length l0) (hc0 : l0.length ≤ c0) (hr1 : Kd.C k32 w A1 l1.length l1) (hc1 : l1.length ≤ c1) (h : slices_Equal_impl_Znode_impl_Znode.f k l0 l1 = some r) :
  Calls Tryd.prog 46 #[.slice A0 l0.length c0, .slice A1 l1.length c1] w fun e w' => e = .returned (.bool r) ∧ Drawn0 w w' := by
 have hu32 := Tryd.underlying32
 have HR0 := aa hr0
 have HC0 := aa hc0
 clear hr0 hc0
 have HR1 := aa hr1
 have HC1 := aa hc1
 clear hr1 hc1
 have H : (if (l0.length : Int) = (l1.length : Int) then (slices_Equal_impl_Znode_impl_Znode.l0 k l0 l1 (l0.length : Int) 0) else (some false)) = some r := h
 clear h
 by_cases c3 : (l0.length : Int) = (l1.length : Int)
 ·
  rw [if_pos c3] at H
  have c3b0 := beq_iff_eq.mpr c3
  have c3b1 := bne_eq_false_iff_eq.mpr c3
  have c3b2 : (l0.length == l1.length) = true := by first | simpa using c3 | (simp at c3 ⊢; omega)
  clear c3
  have H' := aa H
  clear H
  go_enter Tryd.func46, Tryd.ntmps46
  go_wp2
  repeat (go_quiet (fail); try go_wp2)
  go_loopg [13] k (fun kq v13 w' => ∃ (x13_1 : Int), v13 = .int .i64 x13_1 ∧ Aside0 (slices_Equal_impl_Znode_impl_Znode.l0 kq l0 l1 (l0.length : Int) x13_1 = some r) ∧ Aside0 (kq ≤ k) ∧ Drawn0 w w')
  case atStart => exact ⟨(0), zagbkp, H', ⟨Nat.le_refl _⟩, ziajdh⟩
  case round =>
   clear H'
   try clear c1
   try clear p2
   try clear c3
   try clear c3b0
   try clear c3b1
   try clear c3b2
   obtain ⟨x13_1, rfl, HA, HK1, ⟨m1, rfl⟩⟩ := hrel
   cases gk with
   | zero => exact absurd HA.out (by simp [slices_Equal_impl_Znode_impl_Znode.l0])
   | succ k1 =>
    have H := HA.out
    clear HA
    simp only [slices_Equal_impl_Znode_impl_Znode.l0] at H
    by_cases c4 : x13_1 < (l0.length : Int)
    ·
     rw [if_pos c4] at H
     have c4b0 := decide_eq_true c4
     clear c4
     by_cases c5 : 0 ≤ x13_1
     ·
      rw [if_pos c5] at H
      have c5b0 := decide_eq_true c5
      clear c5
      by_cases c6 : x13_1 < (l0.length : Int)
      ·
       rw [if_pos c6] at H
       have c6b0 := decide_eq_true c6
       clear c6
       by_cases c7 : x13_1 < (l1.length : Int)
       ·
        rw [if_pos c7] at H
        have c7b0 := decide_eq_true c7
        clear c7
        by_cases c8 : (!((((rd_T32 l0 x13_1).f0).toList) == (((rd_T32 l1 x13_1).f0).toList)) || (!(((rd_T32 l0 x13_1).f1) == ((rd_T32 l1 x13_1).f1)) || (!(((rd_T32 l0 x13_1).f2) == ((rd_T32 l1 x13_1).f2)) || (!(((rd_T32 l0 x13_1).f3) == ((rd_T32 l1 x13_1).f3)) || (!(((rd_T32 l0 x13_1).f4) == ((rd_T32 l1 x13_1).f4))))))) = true
        ·
         rw [if_pos c8] at H
         have c8b0 : (!((((rd_T32 l0 x13_1).f0).toList) == (((rd_T32 l1 x13_1).f0).toList)) || (!(((rd_T32 l0 x13_1).f1) == ((rd_T32 l1 x13_1).f1)) || (!(((rd_T32 l0 x13_1).f2) == ((rd_T32 l1 x13_1).f2)) || (!(((rd_T32 l0 x13_1).f3) == ((rd_T32 l1 x13_1).f3)) || (!(((rd_T32 l0 x13_1).f4) == ((rd_T32 l1 x13_1).f4))))))) = true := c8
         clear c8
         obtain rfl := Option.some.inj H
         have p101 : 0 ≤ (x13_1 : Int) := of_decide_eq_true zgglam
         have q101 : x13_1 < (l0.length : Int) := of_decide_eq_true zgglam
         obtain ⟨ad101, e101, hx101_0, hx101_1, hx101_2, hx101_3, hx101_4⟩ := at_T32 HR0.out x13_1 p101 q101
         cases e101
         replace p101 := eq_true p101
         replace q101 := eq_true q101
         have p102 : 0 ≤ (x13_1 : Int) := of_decide_eq_true zgglam
         have q102 : x13_1 < (l1.length : Int) := of_decide_eq_true zgglam
         obtain ⟨ad102, e102, hx102_0, hx102_1, hx102_2, hx102_3, hx102_4⟩ := at_T32 HR1.out x13_1 p102 q102
         cases e102
         replace p102 := eq_true p102
         replace q102 := eq_true q102
         go_wp2
         repeat (go_quiet (fail); try go_wp2)
         go_ret
         exact ⟨zagbkp, ziajdh⟩
        rw [if_neg c8] at H
        have c8b0 : (!((((rd_T32 l0 x13_1).f0).toList) == (((rd_T32 l1 x13_1).f0).toList)) || (!(((rd_T32 l0 x13_1).f1) == ((rd_T32 l1 x13_1).f1)) || (!(((rd_T32 l0 x13_1).f2) == ((rd_T32 l1 x13_1).f2)) || (!(((rd_T32 l0 x13_1).f3) == ((rd_T32 l1 x13_1).f3)) || (!(((rd_T32 l0 x13_1).f4) == ((rd_T32 l1 x13_1).f4))))))) = false := by simpa using c8
        clear c8
        have H' := aa H
        clear H
        have p101 : 0 ≤ (x13_1 : Int) := of_decide_eq_true zgglam
        have q101 : x13_1 < (l0.length : Int) := of_decide_eq_true zgglam
        obtain ⟨ad101, e101, hx101_0, hx101_1, hx101_2, hx101_3, hx101_4⟩ := at_T32 HR0.out x13_1 p101 q101
        cases e101
        replace p101 := eq_true p101
        replace q101 := eq_true q101
        have p102 : 0 ≤ (x13_1 : Int) := of_decide_eq_true zgglam
        have q102 : x13_1 < (l1.length : Int) := of_decide_eq_true zgglam
        obtain ⟨ad102, e102, hx102_0, hx102_1, hx102_2, hx102_3, hx102_4⟩ := at_T32 HR1.out x13_1 p102 q102
        cases e102
        replace p102 := eq_true p102
        replace q102 := eq_true q102
        go_wp2
        repeat (go_quiet (fail); try go_wp2)
        go_roundg k1
        case measure => have := HK1.out; omega
        case rel => exact ⟨(wrap64 (x13_1 + 1)), zagbkp, H', ⟨by have := HK1.out; omega⟩, ziajdh⟩
       rw [if_neg c7] at H
       exact absurd H (by simp)
      rw [if_neg c6] at H
      exact absurd H (by simp)
     rw [if_neg c5] at H
     exact absurd H (by simp)
    ·
     rw [if_neg c4] at H
     have c4b0 := decide_eq_false c4
     clear c4
     obtain rfl := Option.some.inj H
     go_wp2
     repeat (go_quiet (fail); try go_wp2)
     go_ret
     exact ⟨zagbkp, ziajdh⟩
 rw [if_neg c3] at H
 have c3b0 := beq_eq_false_iff_ne.mpr c3
 have c3b1 := bne_iff_ne.mpr c3
 have c3b2 : (l0.length == l1.length) = false := by first | simpa using c3 | (simp at c3 ⊢; omega)
 obtain rfl := Option.some.inj H
 go_enter Tryd.func46, Tryd.ntmps46
 go_wp2
 repeat (go_quiet (fail); try go_wp2)
 go_ret
 exact ⟨zagbkp, ziajdh⟩
end Go.Proofs.YtegggpipggniaaaDoor.Qa
namespace Go.Proofs.YtegggpipggniaaaDoor.Qa
open Go.RowKit Go.Proofs.YtegggpipggniaaaDoorW.PrintWords Go.Proofs.YtegggpipggniaaaDoorW.PrintLast Go.Proofs.YtegggpipggniaaaDoorW.PrintMore
attribute [local go_sem] max2_int min2_int max_two min_two max_three min_three max_four min_four
set_option linter.unusedVariables false
set_option linter.unusedSimpArgs false
set_option maxHeartbeats 8000000
set_option maxRecDepth 100000
/-! ### impl_SameTrees: function 18 -/
def impl_SameTrees.f (k : Nat) (l0 : List (S32)) (l1 : List (S32)) : Option (Bool) := (slices_Equal_impl_Znode_impl_Znode.f k l0 l1).bind fun t101 => (some t101)
theorem impl_SameTrees.mono : ∀ a0 a1 k, LeO (impl_SameTrees.f k a0 a1) (impl_SameTrees.f (k + 1) a0 a1) := by
 intro a0 a1 k
 unfold impl_SameTrees.f
 with_reducible repeat' first | exact slices_Equal_impl_Znode_impl_Znode.mono _ _ _ | exact LeO.refl _ | exact LeO.none _ | refine LeO.ite ?_ ?_ | refine LeO.bind ?_ (fun _ => ?_)
theorem impl_SameTrees.calls (k : Nat) (A0 : Option Addr) (c0 : Nat) (l0 : List (S32)) (A1 : Option Addr) (c1 : Nat) (l1 : List (S32)) (r : Bool) (w : World) (hr0 : Kd.C k32 w A0 l0.length l0) (hc0 : l0.length ≤ c0) (hr1 : Kd.C k32 w A1 l1.length l1) (hc1 : l1.length ≤ c1) (h : impl_SameTrees.f k l0 l1 = some r) :
  Calls Tryd.prog 18 #[.slice A0 l0.length c0, .slice A1 l1.length c1] w fun e w' => e = .returned (.bool r) ∧ Drawn0 w w' := by
 have HR0 := aa hr0
 have HC0 := aa hc0
 clear hr0 hc0
 have HR1 := aa hr1
 have HC1 := aa hc1
 clear hr1 hc1
 have H : ((slices_Equal_impl_Znode_impl_Znode.f k l0 l1).bind fun t101 => (some t101)) = some r := h
 clear h
 revert H
 refine obs_ fun t101 A3 H => ?_
 obtain rfl := Option.some.inj H
 go_enter Tryd.func18, Tryd.ntmps18
 go_wp2_with (first | (refine gc_ Tryd.func46 (some 7) #[.slice A0 l0.length c0, .slice A1 l1.length c1] ?_; (with_reducible refine (slices_Equal_impl_Znode_impl_Znode.calls k _ _ l0 _ _ l1 t101 _ ?side1 ?side2 ?side3 ?side4 A3.out).mono ?_); (case side1 => exact zebgon); (case side2 => exact HC0.out); (case side3 => repeat (first | exact HR1.out | (with_reducible refine Kd.C_alloc ?_ _) | (with_reducible refine Kd.C_drewN ?_ _) | (with_reducible refine Kd.C_drew ?_))); (case side4 => exact HC1.out); rintro e w' ⟨rfl, ⟨nd, rfl⟩⟩; refine ⟨_, rfl, ?_⟩))
 go_ret
 exact ⟨zagbkp, ziajdh⟩
/-! ### laws_FnDeletes: function 4 -/
mutual
def laws_FnDeletes.j0 : Nat → List Int → Option (Bool)
 | 0, _ => none
 | k + 1, x0 => (spec_DrawDeleteZ.f k x0).bind fun bt102 => ((impl_DeleteZ.f k bt102.1 bt102.2.1 bt102.2.2).bind fun bt107 => (if bt107.1 = 0 then (laws_FnDeletes.j1 k bt102.1 bt102.2.1 bt107.1 bt107.2.1 bt107.2.2) else ((spec_DeleteZ.f k bt102.1 bt102.2.1 bt102.2.2).bind fun bt113 => (some (bt113.1 == bt107.1)))))
def laws_FnDeletes.j1 : Nat → List (S32) → ByteArray → Int → ByteArray → List (S32) → Option (Bool)
 | 0, _, _, _, _, _ => none
 | k + 1, x3, x4, x113000, x113001, x113002 => (impl_CreateZ.f k x113002 x4 5 0 false).bind fun bt118 => ((impl_TreeFault.f k x113002).bind fun t124 => (if t124 = 0 then (if (x113002.length : Int) = (wrap64 ((x3.length : Int) - 1)) then ((impl_GetZ.f k x113002 x4).bind fun bt125 => (if bt125.1 = 4 then ((impl_KidsZ.f k x3 x4).bind fun bt130 => (if (bt130.2.length : Int) = 0 then (if bt118.1 = 0 then (if (bt118.2.2.length : Int) = (x3.length : Int) then ((impl_DeleteZ.f k bt118.2.2 x4 0).bind fun bt134 => ((impl_SameTrees.f k bt134.2.2 x113002).bind fun t139 => (some t139))) else (some false)) else (some false)) else (some false))) else (some false))) else (some false)) else (some false)))
end
def laws_FnDeletes.f (k : Nat) (l0 : List Int) : Option (Bool) := (laws_lwBig.f l0).bind fun t101 => (if t101 = true then (some true) else (laws_FnDeletes.j0 k l0))
theorem laws_FnDeletes.mono_l : ∀ k, (∀ y0, LeO (laws_FnDeletes.j0 k y0) (laws_FnDeletes.j0 (k + 1) y0)) ∧ (∀ y0 y1 y2 y3 y4, LeO (laws_FnDeletes.j1 k y0 y1 y2 y3 y4) (laws_FnDeletes.j1 (k + 1) y0 y1 y2 y3 y4))
 | 0 => ⟨fun _ r h => by simp [laws_FnDeletes.j0] at h, fun _ _ _ _ _ r h => by simp [laws_FnDeletes.j1] at h⟩
 | k + 1 => by
  obtain ⟨ih0, ih1⟩ := laws_FnDeletes.mono_l k
  refine ⟨?_, ?_⟩
  ·
   intro y0
   unfold laws_FnDeletes.j0
   with_reducible repeat' first | exact ih0 _ | exact ih1 _ _ _ _ _ | exact impl_CreateZ.mono _ _ _ _ _ _ | exact impl_DeleteZ.mono _ _ _ _ | exact impl_GetZ.mono _ _ _ | exact impl_KidsZ.mono _ _ _ | exact impl_SameTrees.mono _ _ _ | exact impl_TreeFault.mono _ _ | exact spec_DeleteZ.mono _ _ _ _ | exact spec_DrawDeleteZ.mono _ _ | exact LeO.refl _ | exact LeO.none _ | refine LeO.ite ?_ ?_ | refine LeO.bind ?_ (fun _ => ?_)
  ·
   intro y0 y1 y2 y3 y4
   unfold laws_FnDeletes.j1
   with_reducible repeat' first | exact ih0 _ | exact ih1 _ _ _ _ _ | exact impl_CreateZ.mono _ _ _ _ _ _ | exact impl_DeleteZ.mono _ _ _ _ | exact impl_GetZ.mono _ _ _ | exact impl_KidsZ.mono _ _ _ | exact impl_SameTrees.mono _ _ _ | exact impl_TreeFault.mono _ _ | exact spec_DeleteZ.mono _ _ _ _ | exact spec_DrawDeleteZ.mono _ _ | exact LeO.refl _ | exact LeO.none _ | refine LeO.ite ?_ ?_ | refine LeO.bind ?_ (fun _ => ?_)
theorem laws_FnDeletes.mono : ∀ a0 k, LeO (laws_FnDeletes.f k a0) (laws_FnDeletes.f (k + 1) a0) := by
 intro a0 k
 obtain ⟨ih0, ih1⟩ := laws_FnDeletes.mono_l k
 unfold laws_FnDeletes.f
 with_reducible repeat' first | exact ih0 _ | exact ih1 _ _ _ _ _ | exact impl_CreateZ.mono _ _ _ _ _ _ | exact impl_DeleteZ.mono _ _ _ _ | exact impl_GetZ.mono _ _ _ | exact impl_KidsZ.mono _ _ _ | exact impl_SameTrees.mono _ _ _ | exact impl_TreeFault.mono _ _ | exact spec_DeleteZ.mono _ _ _ _ | exact spec_DrawDeleteZ.mono _ _ | exact LeO.refl _ | exact LeO.none _ | refine LeO.ite ?_ ?_ | refine LeO.bind ?_ (fun _ => ?_)
def laws_FnDeletes.T6 : Bool × List (List Nat × List Nat) := (true, [([], []), ([], []), ([], []), ([0, 1, 2], [0, 1, 2]), ([3], [3]), ([], []), ([5], [5]), ([4, 6], [4, 6]), ([7, 3, 0, 1, 2, 3, 4, 5, 6, 7], [7])])
def laws_FnDeletes.B6 : List Nat := [0, 0, 0, 7, 15, 0, 32, 127, 255]
theorem laws_FnDeletes.tab6 : rtab .any (opsOf Tryd.f4 6) = laws_FnDeletes.T6 := by kernel_rfl
theorem laws_FnDeletes.bits6 : waitsOk laws_FnDeletes.T6.2 laws_FnDeletes.B6 = true := by kernel_rfl
def laws_FnDeletes.T8 : Bool × List (List Nat × List Nat) := (true, [([], []), ([0], [0]), ([1], [1]), ([2], [2]), ([3, 2], [3]), ([4], [4]), ([5, 4], [4, 5]), ([6, 4], [4, 6]), ([4], [4]), ([8, 4], [4, 8]), ([9, 4], [4, 9]), ([7, 10, 4], [4, 7, 10]), ([4, 11], [4, 11]), ([12, 4], [12]), ([13], [13]), ([14, 13], [13, 14]), ([13], [13]), ([15, 16, 13, 13], [13, 15, 16]), ([17, 13], [13, 17]), ([18, 13], [13, 18]), ([13, 19], [13, 19]), ([20, 17], [20]), ([21], [21]), ([21], [21]), ([22, 23, 21, 21], [21, 22, 23]), ([24, 21], [21, 24]), ([25, 21], [21, 25]), ([26, 21], [21, 26]), ([21, 27], [21, 27]), ([28, 24], [28]), ([29], [29]), ([30, 29], [29, 30]), ([31, 29], [29, 31]), ([29, 32], [29, 32]), ([33, 29], [33]), ([34], [34]), ([35, 34], [34, 35]), ([36, 34], [34, 36]), ([34], [34]), ([38, 34], [34, 38]), ([37, 39, 34], [34, 37, 39]), ([34, 40], [34, 40]), ([41, 34], [41]), ([42], [42]), ([43, 42], [42, 43]), ([42], [42]), ([44, 45, 42, 42], [42, 44, 45]), ([46, 42], [42, 46]), ([42], [42]), ([48, 42], [42, 48]), ([47, 49, 46, 42], [42, 47, 49]), ([42, 50], [42, 50]), ([51, 50, 0, 1, 2, 3, 4, 5, 6, 7, 8, 9, 10, 11, 12, 13, 14, 15, 16, 17, 18, 19, 20, 21, 22, 23, 24, 25, 26, 27, 28, 29, 30, 31, 32, 33, 34, 35, 36, 37, 38, 39, 40, 41, 42, 43, 44, 45, 46, 47, 48, 49, 50, 51], [51])])
def laws_FnDeletes.B8 : List Nat := [0, 1, 3, 7, 15, 31, 63, 127, 31, 287, 799, 2047, 4095, 8191, 16383, 32767, 16383, 131071, 262143, 524287, 1048575, 2097151, 4194303, 4194303, 16777215, 33554431, 67108863, 134217727, 268435455, 536870911, 1073741823, 2147483647, 4294967295, 8589934591, 17179869183, 34359738367, 68719476735, 137438953471, 34359738367, 309237645311, 1099511627775, 2199023255551, 4398046511103, 8796093022207, 17592186044415, 8796093022207, 70368744177663, 140737488355327, 8796093022207, 290271069732863, 1125899906842623, 2251799813685247, 4503599627370495]
theorem laws_FnDeletes.tab8 : rtab .any (opsOf Tryd.f4 8) = laws_FnDeletes.T8 := by kernel_rfl
theorem laws_FnDeletes.bits8 : waitsOk laws_FnDeletes.T8.2 laws_FnDeletes.B8 = true := by kernel_rfl
theorem pu4 {P : Program} {md : Region.Mode} {ops : Array Oper} {Q : Exit → Act → World → Prop} {S : World → Prop} {ds : List Nat} (i : Nat) (N : Tmp) {oi : Oper} {v : Value} {fuel : Nat} {l l' : Array Bool} {a a' : Act} {w : World} (h : wpAnyLast P md ops Q S ds fuel l' a' w) (hi : ops[i]? = some oi := by rfl) (hN : oi.dst = some N := by rfl) (hl : l.setIfInBounds i true = l' := by simp only [List.setIfInBounds_toArray, List.set_cons_zero, List.set_cons_succ]; rfl) (hc : anyB md ops l l' i = true := by first | exact any_of HT_.out (by kernel_rfl) | kernel_rfl) (hQ : ∀ c a w, Q (.panic c) (a.put oi.dst v) w → Q (.panic c) a w := by exact fun _ _ _ h => h) (hw : Region.wanted oi (yielded ops a.tmps) = true := by rfl) (hy : ∀ w, (execOp a.eval oi).run P w = .ok (.value v) w := by intro w'; go_simp; with_reducible rfl) (ha : a.put (some N) v = a' := by simp only [Act.put, List.setIfInBounds_toArray, List.set_cons_zero, List.set_cons_succ, i64_w, i32_w]; rfl) : wpAnyLast P md ops Q S ds (fuel + 1) l a w := pure_ l' hi hN hc hQ (Or.inl ⟨hw, hy⟩) ha h
theorem pn4 {P : Program} {md : Region.Mode} {ops : Array Oper} {Q : Exit → Act → World → Prop} {S : World → Prop} {ds : List Nat} (i : Nat) (N : Tmp) {oi : Oper} {v : Value} {fuel : Nat} {l l' : Array Bool} {a a' : Act} {w : World} (h : wpAnyLast P md ops Q S ds fuel l' a' w) (hi : ops[i]? = some oi := by rfl) (hN : oi.dst = some N := by rfl) (hl : l.setIfInBounds i true = l' := by simp only [List.setIfInBounds_toArray, List.set_cons_zero, List.set_cons_succ]; rfl) (hv : v = undef := by rfl) (hc : anyB md ops l l' i = true := by first | exact any_of HT_.out (by kernel_rfl) | kernel_rfl) (hQ : ∀ c a w, Q (.panic c) (a.put oi.dst v) w → Q (.panic c) a w := by exact fun _ _ _ h => h) (hw : Region.wanted oi (yielded ops a.tmps) = false := by rfl) (ha : a.put (some N) v = a' := by simp only [Act.put, List.setIfInBounds_toArray, List.set_cons_zero, List.set_cons_succ, i64_w, i32_w]; rfl) : wpAnyLast P md ops Q S ds (fuel + 1) l a w := pure_ l' hi hN hc hQ (Or.inr ⟨hw, hv⟩) ha h
theorem gate_args4 {P : Program} {f : FuncId} {w : World} {R : Ending → World → Prop} (args : Array Value) (h : Calls P f args w R) : Calls P f args w R := h
theorem tk3_4 {P : Program} {md : Region.Mode} {ops : Array Oper} {Q : Exit → Act → World → Prop} {S : World → Prop} {ds : List Nat} (i : Nat) (N : Tmp) {oi : Oper} {v : Value} {fuel : Nat} {l l' : Array Bool} {a a' : Act} {w : World} (h : wpAnyLast P md ops Q S ds fuel l' a' w) (hi : ops[i]? = some oi := by rfl) (hN : oi.dst = some N := by rfl) (hl : l.setIfInBounds i true = l' := by simp only [List.setIfInBounds_toArray, List.set_cons_zero, List.set_cons_succ]; rfl) (hc : takeB md ops ds l l' i = true := by first | exact take_ofW HT_.out HW_.out (by kernel_rfl) | kernel_rfl) (hQ : ∀ c a w, Q (.panic c) (a.put oi.dst v) w → Q (.panic c) a w := by exact fun _ _ _ h => h) (hw : Region.wanted oi (yielded ops a.tmps) = true := by rfl) (hS : S w := by exact hHeld) (hy : ∀ w, S w → (execOp a.eval oi).run P w = .ok (.value v) w := by rintro w' ⟨s0, s1, s2⟩; go_simp; with_reducible rfl) (ha : a.put (some N) v = a' := by simp only [Act.put, List.setIfInBounds_toArray, List.set_cons_zero, List.set_cons_succ, i64_w, i32_w]; rfl) : wpAnyLast P md ops Q S ds (fuel + 1) l a w := take_ l' hi hN hc hQ (Or.inl ⟨hw, hy⟩) hS ha h
theorem tk6_4 {P : Program} {md : Region.Mode} {ops : Array Oper} {Q : Exit → Act → World → Prop} {S : World → Prop} {ds : List Nat} (i : Nat) (N : Tmp) {oi : Oper} {v : Value} {fuel : Nat} {l l' : Array Bool} {a a' : Act} {w : World} (h : wpAnyLast P md ops Q S ds fuel l' a' w) (hi : ops[i]? = some oi := by rfl) (hN : oi.dst = some N := by rfl) (hl : l.setIfInBounds i true = l' := by simp only [List.setIfInBounds_toArray, List.set_cons_zero, List.set_cons_succ]; rfl) (hc : takeB md ops ds l l' i = true := by first | exact take_ofW HT_.out HW_.out (by kernel_rfl) | kernel_rfl) (hQ : ∀ c a w, Q (.panic c) (a.put oi.dst v) w → Q (.panic c) a w := by exact fun _ _ _ h => h) (hw : Region.wanted oi (yielded ops a.tmps) = true := by rfl) (hS : S w := by exact hHeld) (hy : ∀ w, S w → (execOp a.eval oi).run P w = .ok (.value v) w := by rintro w' ⟨s0, s1, s2, s3, s4, s5⟩; go_simp; with_reducible rfl) (ha : a.put (some N) v = a' := by simp only [Act.put, List.setIfInBounds_toArray, List.set_cons_zero, List.set_cons_succ, i64_w, i32_w]; rfl) : wpAnyLast P md ops Q S ds (fuel + 1) l a w := take_ l' hi hN hc hQ (Or.inl ⟨hw, hy⟩) hS ha h
theorem laws_FnDeletes.calls (k : Nat) (A0 : Option Addr) (c0 : Nat) (l0 : List Int) (r : Bool) (w : World) (hr0 : Kd.C (Kd.int .u8) w A0 l0.length l0) (hc0 : l0.length ≤ c0) (h : laws_FnDeletes.f k l0 = some r) (hrt : r = true) :
  Calls Tryd.prog 4 #[.slice A0 l0.length c0] w fun e w' => e = .returned (.bool r) ∧ Below w.heap.size w w' := by
 have HRT := aa hrt
 clear hrt
 have hfd28_0 : ∀ (v0_ v1_ v2_ : Value) (w_ : World), (Instr.field 28 (.agg #[v0_, v1_, v2_]) 0).run Tryd.prog w_ = .ok (v0_) w_ := fun _ _ _ _ => by kernel_rfl
 have hfd28_1 : ∀ (v0_ v1_ v2_ : Value) (w_ : World), (Instr.field 28 (.agg #[v0_, v1_, v2_]) 1).run Tryd.prog w_ = .ok (v1_) w_ := fun _ _ _ _ => by kernel_rfl
 have hfd28_2 : ∀ (v0_ v1_ v2_ : Value) (w_ : World), (Instr.field 28 (.agg #[v0_, v1_, v2_]) 2).run Tryd.prog w_ = .ok (v2_) w_ := fun _ _ _ _ => by kernel_rfl
 have hfd40_0 : ∀ (v0_ v1_ : Value) (w_ : World), (Instr.field 40 (.agg #[v0_, v1_]) 0).run Tryd.prog w_ = .ok (v0_) w_ := fun _ _ _ => by kernel_rfl
 have hfd40_1 : ∀ (v0_ v1_ : Value) (w_ : World), (Instr.field 40 (.agg #[v0_, v1_]) 1).run Tryd.prog w_ = .ok (v1_) w_ := fun _ _ _ => by kernel_rfl
 have hu28 := Tryd.underlying28
 have HR0 := aa hr0
 have HC0 := aa hc0
 clear hr0 hc0
 have HB := aa (Below.refl w.heap.size w)
 have H : ((laws_lwBig.f l0).bind fun t101 => (if t101 = true then (some true) else (laws_FnDeletes.j0 k l0))) = some r := h
 clear h
 revert H
 refine obs_ fun t101 A2 H => ?_
 have HC3 := aa H
 clear H
 go_enter Tryd.func4, Tryd.ntmps4
 go_upto_if 9 with (first | (refine gc_ Tryd.func7 (some 9) #[.slice A0 l0.length c0] ?_; (with_reducible refine (laws_lwBig.calls _ _ l0 t101 _ ?side1 ?side2 A2.out).mono ?_); (case side1 => exact zebgon); (case side2 => exact HC0.out); rintro e w' ⟨rfl, ⟨nd, rfl⟩⟩; refine ⟨_, rfl, ?_⟩))
 (try simp only [Act.put, List.setIfInBounds_toArray, List.set_cons_zero, List.set_cons_succ])
 go_cut [] (fun wc => ∃ (kq : Nat), Aside0 (laws_FnDeletes.j0 kq l0 = some r) ∧ Aside0 (kq ≤ k) ∧ Aside0 (Below w.heap.size w wc))
 case first =>
  have H := HC3.out
  clear HC3
  by_cases c4 : t101 = true
  ·
   subst c4
   rw [if_pos rfl] at H
   obtain rfl := Option.some.inj H
   go_wp2
   go_ret
   exact ⟨zlhpib, zjjbob⟩
  replace c4 := Bool.eq_false_iff.mpr c4
  subst c4
  rw [if_neg fT_] at H
  have H' := aa H
  clear H
  go_wp2
  go_meet
  case rel => exact ⟨_, H', ⟨zpacfg⟩, ⟨zjjbob⟩⟩
 case rest =>
  clear HC3
  try clear p2
  try clear c4
  obtain ⟨kq, HA, HJ2, HB⟩ := hcut
  cases kq with
  | zero => exact absurd HA.out (by simp [laws_FnDeletes.j0])
  | succ kj2 =>
   have H := HA.out
   clear HA
   simp only [laws_FnDeletes.j0] at H
   revert H
   refine ob3_ fun t102 t103 t104 A5 H => ?_
   (try dsimp only at H)
   revert H
   refine ob3_ fun t107 t108 t109 A6 H => ?_
   (try dsimp only at H)
   have HC7 := aa H
   clear H
   go_upto_if 22 with (first | (refine gc_ Tryd.func13 (some 12) #[.slice A0 l0.length c0] ?_; (with_reducible refine (spec_DrawDeleteZ.calls kj2 _ _ l0 t102 t103 t104 _ ?side1 ?side2 A5.out).mono ?_); (case side1 => exact zfmbgg); (case side2 => exact HC0.out); rintro e w8 ⟨v105, rfl, ho0, hb⟩; refine ⟨_, rfl, ?_⟩; have HO106 := aa (Kd.R_lower ho0 (below_size zjjbob)); replace HB := aa (below_step zjjbob hb); (try clear hb hk hi ho0); obtain ⟨Ao9, co9, eo9⟩ := Kd.R_slice HO106.out; subst eo9) | (refine gc_ Tryd.func14 (some 19) #[.slice Ao9 t102.length co9, .string t103, .int .i64 t104] ?_; (with_reducible refine (impl_DeleteZ.calls kj2 _ _ t102 t103 t104 t107 t108 t109 _ ?side1 ?side2 A6.out).mono ?_); (case side1 => exact zkpmkd); (case side2 => exact (Kd.R_reads' HO106.out).2.1); rintro e w10 ⟨v110, rfl, ho0, hb⟩; refine ⟨_, rfl, ?_⟩; have n0_ := aa (Kd.R_elder' (zcaken HO106.out) (Kd.R_base ho0) hb); have n1_ := aa (Kd.R_lower (Kd.R_new' ho0 (Kd.R_lt (zcaken HO106.out))) (below_size zjjbob)); have n2_ := aa (below_step zjjbob hb); clear HO106; clear HB; have HO106 := n0_; have HO111 := n1_; have HB := n2_; clear n0_ n1_ n2_; (try clear hb hk hi ho0)) | ((with_reducible refine gate_dst (N := 6) rfl ?_); (try (refine gate_guard (by rfl) ?_; dsimp only)); refine box_event ?hg (N := 6) ?hd (cs := #[.int .i64 0, .string (⟨#[]⟩ : ByteArray), .slice none 0 0]) (t := 28) ?hr ?_; (case hd => rfl); (case hg => rfl); (case hr => exact zhlgcp); intro gb112 hg w11 hbox hb; have n0_ := aa (Kd.R_below (zcaken HO106.out) hb); have n1_ := aa (Kd.R_below (zcaken HO111.out) hb); have n2_ := aa (below_step zjjbob hb); have n3_ := aa (hbox); have n4_ := aa ((zkpfjp : w.heap.size ≤ gb112)); have n5_ := aa ((zkpfjp : w.heap.size ≤ gb112)); clear HO106; clear HO111; clear HB; have HO106 := n0_; have HO111 := n1_; have HB := n2_; have BK112 := n3_; have GW112 := n4_; have GE112 := n5_; clear n0_ n1_ n2_ n3_ n4_ n5_; clear hb hbox hg; obtain ⟨hcz12_0, hcz12_1, hcz12_2, hfz12_0, hfz12_1, hfz12_2⟩ := blk3_ BK112.out; obtain ⟨Ao13, co13, eo13⟩ := Kd.R_slice HO111.out; subst eo13))
   (try simp only [Act.put, List.setIfInBounds_toArray, List.set_cons_zero, List.set_cons_succ])
   go_cut [] (fun wc => ∃ (kq : Nat), Aside0 (laws_FnDeletes.j1 kq t102 t103 t107 t108 t109 = some r) ∧ Aside0 (kq ≤ kj2) ∧ Aside0 (Kd.R k32 32 wc w.heap.size (fun k_ => some k_ ≠ ((.slice Ao13 t109.length co13) : Value).ownBlock) (.slice Ao9 t102.length co9) t102) ∧ Aside0 (Kd.R k32 32 wc w.heap.size (fun k_ => some k_ ≠ ((.slice Ao9 t102.length co9) : Value).ownBlock) (.slice Ao13 t109.length co13) t109) ∧ Aside0 (wc.heap[gb112]? = some (.cells #[.int .i64 t107, .string t108, (.slice Ao13 t109.length co13)] 28 (0, 0))) ∧ Aside0 (Below w.heap.size w wc))
   case first =>
    have H := HC7.out
    clear HC7
    by_cases c14 : t107 = 0
    ·
     rw [if_pos c14] at H
     have c14b0 := beq_iff_eq.mpr c14
     have c14b1 := bne_eq_false_iff_eq.mpr c14
     clear c14
     (first | rw [c14b0] | (simp only [i64_w, i32_w]; rw [c14b0]) | (simp only [c14b2, Bool.not_false, Bool.not_true]) | skip)
     have H' := aa H
     clear H
     go_wp2
     go_meet
     case rel => exact ⟨_, H', ⟨by have := HJ2.out; first | omega | exact Nat.le_refl _⟩, ⟨by (with_reducible repeat (first | apply Kd.R_alloc | apply Kd.R_drewN | apply Kd.R_drew)); exact Kd.R_mono (Kd.R_far (p := ⟨gb112, 2, none⟩) (Kd.R_far (p := ⟨gb112, 1, none⟩) (Kd.R_far (p := ⟨gb112, 0, none⟩) (Kd.R_types HO106.out BK112.out (by decide)) (fun _ hk => hk.2) (.int .i64 t107)) (fun _ hk => hk.2) (.string t108)) (fun _ hk => hk.2) (.slice Ao13 t109.length co13)) (fun _ hk => hk.1.2)⟩, ⟨by (with_reducible repeat (first | apply Kd.R_alloc | apply Kd.R_drewN | apply Kd.R_drew)); exact Kd.R_mono (Kd.R_far (p := ⟨gb112, 2, none⟩) (Kd.R_far (p := ⟨gb112, 1, none⟩) (Kd.R_far (p := ⟨gb112, 0, none⟩) (Kd.R_types HO111.out BK112.out (by decide)) (fun _ hk => hk.2) (.int .i64 t107)) (fun _ hk => hk.2) (.string t108)) (fun _ hk => hk.2) (.slice Ao13 t109.length co13)) (fun _ hk => hk.1.2)⟩, ⟨by (with_reducible repeat (first | refine blk_drewN ?_ _ | refine blk_drew ?_ | refine blk_alloc ?_ _)); refine blk_put (cs := #[.int .i64 t107, .string t108, .slice none 0 0]) ?_ 2 _ rfl; (with_reducible repeat (first | refine blk_drewN ?_ _ | refine blk_drew ?_ | refine blk_alloc ?_ _)); refine blk_put (cs := #[.int .i64 t107, .string (⟨#[]⟩ : ByteArray), .slice none 0 0]) ?_ 1 _ rfl; (with_reducible repeat (first | refine blk_drewN ?_ _ | refine blk_drew ?_ | refine blk_alloc ?_ _)); refine blk_put (cs := #[.int .i64 0, .string (⟨#[]⟩ : ByteArray), .slice none 0 0]) ?_ 0 _ rfl; (with_reducible repeat (first | refine blk_drewN ?_ _ | refine blk_drew ?_ | refine blk_alloc ?_ _)); exact BK112.out⟩, ⟨zgbpfa⟩⟩
    rw [if_neg c14] at H
    have c14b0 := beq_eq_false_iff_ne.mpr c14
    have c14b1 := bne_iff_ne.mpr c14
    (first | rw [c14b0] | (simp only [i64_w, i32_w]; rw [c14b0]) | (simp only [c14b2, Bool.not_false, Bool.not_true]) | skip)
    revert H
    refine ob3_ fun t113 t114 t115 A15 H => ?_
    (try dsimp only at H)
    obtain rfl := Option.some.inj H
    try go_wp2
    have n0_ : Aside0 (Kd.R k32 32 (((w11.setCell ⟨gb112, 0, none⟩ (.int .i64 t107)).setCell ⟨gb112, 1, none⟩ (.string t108)).setCell ⟨gb112, 2, none⟩ (.slice Ao13 t109.length co13)) w.heap.size (fun k_ => some k_ ≠ (.slice Ao13 t109.length co13 : Value).ownBlock) (.slice Ao9 t102.length co9) t102) := ⟨by (with_reducible repeat (first | apply Kd.R_alloc | apply Kd.R_drewN | apply Kd.R_drew)); exact Kd.R_mono (Kd.R_far (p := ⟨gb112, 2, none⟩) (Kd.R_far (p := ⟨gb112, 1, none⟩) (Kd.R_far (p := ⟨gb112, 0, none⟩) (Kd.R_types HO106.out BK112.out (by decide)) (fun _ hk => hk.2) (.int .i64 t107)) (fun _ hk => hk.2) (.string t108)) (fun _ hk => hk.2) (.slice Ao13 t109.length co13)) (fun _ hk => hk.1.2)⟩
    have n1_ : Aside0 (Kd.R k32 32 (((w11.setCell ⟨gb112, 0, none⟩ (.int .i64 t107)).setCell ⟨gb112, 1, none⟩ (.string t108)).setCell ⟨gb112, 2, none⟩ (.slice Ao13 t109.length co13)) w.heap.size (fun k_ => some k_ ≠ (.slice Ao9 t102.length co9 : Value).ownBlock) (.slice Ao13 t109.length co13) t109) := ⟨by (with_reducible repeat (first | apply Kd.R_alloc | apply Kd.R_drewN | apply Kd.R_drew)); exact Kd.R_mono (Kd.R_far (p := ⟨gb112, 2, none⟩) (Kd.R_far (p := ⟨gb112, 1, none⟩) (Kd.R_far (p := ⟨gb112, 0, none⟩) (Kd.R_types HO111.out BK112.out (by decide)) (fun _ hk => hk.2) (.int .i64 t107)) (fun _ hk => hk.2) (.string t108)) (fun _ hk => hk.2) (.slice Ao13 t109.length co13)) (fun _ hk => hk.1.2)⟩
    have n2_ : Aside0 ((((w11.setCell ⟨gb112, 0, none⟩ (.int .i64 t107)).setCell ⟨gb112, 1, none⟩ (.string t108)).setCell ⟨gb112, 2, none⟩ (.slice Ao13 t109.length co13)).heap[gb112]? = some (.cells #[.int .i64 t107, .string t108, .slice Ao13 t109.length co13] 28 (0, 0))) := ⟨by (with_reducible repeat (first | refine blk_drewN ?_ _ | refine blk_drew ?_ | refine blk_alloc ?_ _)); refine blk_put (cs := #[.int .i64 t107, .string t108, .slice none 0 0]) ?_ 2 _ rfl; (with_reducible repeat (first | refine blk_drewN ?_ _ | refine blk_drew ?_ | refine blk_alloc ?_ _)); refine blk_put (cs := #[.int .i64 t107, .string (⟨#[]⟩ : ByteArray), .slice none 0 0]) ?_ 1 _ rfl; (with_reducible repeat (first | refine blk_drewN ?_ _ | refine blk_drew ?_ | refine blk_alloc ?_ _)); refine blk_put (cs := #[.int .i64 0, .string (⟨#[]⟩ : ByteArray), .slice none 0 0]) ?_ 0 _ rfl; (with_reducible repeat (first | refine blk_drewN ?_ _ | refine blk_drew ?_ | refine blk_alloc ?_ _)); exact BK112.out⟩
    have n3_ : Aside0 (Below w.heap.size w (((w11.setCell ⟨gb112, 0, none⟩ (.int .i64 t107)).setCell ⟨gb112, 1, none⟩ (.string t108)).setCell ⟨gb112, 2, none⟩ (.slice Ao13 t109.length co13))) := ⟨by repeat (first | (with_reducible first | exact HB.out | apply below_alloc | apply pw_below_drewN | apply below_drew1 | refine below_set ?_ GE112.out) | exact HB.out)⟩
    (try clear HO106)
    (try clear HO111)
    (try clear BK112)
    (try clear HB)
    generalize (((w11.setCell ⟨gb112, 0, none⟩ (.int .i64 t107)).setCell ⟨gb112, 1, none⟩ (.string t108)).setCell ⟨gb112, 2, none⟩ (.slice Ao13 t109.length co13)) = w16 at n0_ n1_ n2_ n3_ ⊢
    have HO106 := n0_
    have HO111 := n1_
    have BK112 := n2_
    have HB := n3_
    clear n0_ n1_ n2_ n3_
    replace HO106 := aa (Kd.R_drew HO106.out)
    replace HO111 := aa (Kd.R_drew HO111.out)
    replace BK112 := aa (blk_drew BK112.out)
    replace HB := aa (below_drew1 HB.out)
    refine start_ (n := 9) (S := fun w' => w'.cell? ⟨gb112, 0, none⟩ = some (.int .i64 t107) ∧ w'.cell? ⟨gb112, 1, none⟩ = some (.string t108) ∧ w'.cell? ⟨gb112, 2, none⟩ = some (.slice Ao13 t109.length co13)) (ds := []) #[false, false, false, false, false, false, false, false, false] (by kernel_rfl) rfl rfl ⟨(blk_cell BK112.out 0).trans rfl, (blk_cell BK112.out 1).trans rfl, (blk_cell BK112.out 2).trans rfl⟩ (fun hHeld => ?_); refine with_tabW laws_FnDeletes.tab6 laws_FnDeletes.bits6 (fun HT_ HW_ => ?_)
    generalize w16.drew = w17 at HO106 HO111 BK112 HB hHeld ⊢
    refine pu4 0 23 ?_
    refine pu4 1 24 ?_
    refine pu4 2 25 ?_
    refine pu4 5 28 ?_
    refine tk3_4 6 29 ?_
    refine one_ (i := 3) (N := some 26) #[true, true, true, true, false, true, true, false, false] rfl rfl (one_of HT_.out (by kernel_rfl)) (by decide) (fun K hK => ?_)
    refine goes_ Tryd.func15 (by kernel_rfl) rfl #[.slice Ao9 t102.length co9, .string t103, .int .i64 t104] (by rfl) rfl rfl zjnmae ?_
    with_reducible refine (spec_DeleteZ.calls kj2 _ _ t102 t103 t104 t113 t114 t115 _ ?side1 ?side2 A15.out).mono ?_
    (case side1 => exact zkpmkd)
    (case side2 => exact (Kd.R_reads' HO106.out).2.1)
    rintro e w18 ⟨v116, rfl, ho0, hb⟩
    refine ⟨_, rfl, ?_⟩
    have n0_ := aa (Kd.R_elder' (zcaken HO106.out) (Kd.R_base ho0) hb)
    have n1_ := aa (Kd.R_elder' (zcaken HO111.out) (Kd.R_base ho0) hb)
    have n2_ := aa (Kd.R_lower (Kd.R_new' (Kd.R_new' ho0 (Kd.R_lt (zcaken HO106.out))) (Kd.R_lt (zcaken HO111.out))) (below_size zgbpfa))
    have n3_ := aa (bb_ BK112.out hb)
    have n4_ := aa (below_step zgbpfa hb)
    clear HO106
    clear HO111
    clear BK112
    clear HB
    have HO106 := n0_
    have HO111 := n1_
    have HO117 := n2_
    have BK112 := n3_
    have HB := n4_
    clear n0_ n1_ n2_ n3_ n4_
    (try clear hb)
    (try clear hb2)
    (try clear hk)
    (try clear hi)
    (try clear ho0)
    refine hK.out _ _ ⟨(blk_cell BK112.out 0).trans rfl, (blk_cell BK112.out 1).trans rfl, (blk_cell BK112.out 2).trans rfl⟩ (fun hHeld => ?_)
    clear hK K
    refine norm_ (a' := ?_) ?_ ?_
    rotate_left
    ·
     show Act.put _ (some 26) _ = _
     simp only [Act.put, List.setIfInBounds_toArray, List.set_cons_zero, List.set_cons_succ, i64_w, i32_w]
     rfl
    refine pu4 4 27 ?_
    refine pu4 7 30 ?_
    refine pu4 8 2 ?_
    refine done_ (done_of HT_.out (by kernel_rfl)) ?_
    try go_wp2
    go_ret
    exact ⟨zlhpib, zgbpfa⟩
   case rest =>
    clear HC7
    try clear c1
    try clear p2
    try clear c4
    try clear c7
    try clear c13
    try clear c14
    try clear c14b0
    try clear c14b1
    try clear c14b2
    try clear c15
    try clear hcz12_0
    try clear hcz12_1
    try clear hcz12_2
    try clear hfz12_0
    try clear hfz12_1
    try clear hfz12_2
    try clear p2
    obtain ⟨kq, HA, HJ6, HO_3, HO_113002, BK112, HB⟩ := hcut
    cases kq with
    | zero => exact absurd HA.out (by simp [laws_FnDeletes.j1])
    | succ kj6 =>
     have H := HA.out
     clear HA
     simp only [laws_FnDeletes.j1] at H
     revert H
     refine ob3_ fun t118 t119 t120 A19 H => ?_
     (try dsimp only at H)
     revert H
     refine obs_ fun t124 A20 H => ?_
     by_cases c21 : t124 = 0
     rotate_left
     ·
      rw [if_neg c21] at H
      have c21b0 := beq_eq_false_iff_ne.mpr c21
      have c21b1 := bne_iff_ne.mpr c21
      obtain rfl := Option.some.inj H
      exact absurd HRT.out (by decide)
     rw [if_pos c21] at H
     have c21b0 := beq_iff_eq.mpr c21
     have c21b1 := bne_eq_false_iff_eq.mpr c21
     clear c21
     by_cases c22 : (t109.length : Int) = (wrap64 ((t102.length : Int) - 1))
     rotate_left
     ·
      rw [if_neg c22] at H
      have c22b0 := beq_eq_false_iff_ne.mpr c22
      have c22b1 := bne_iff_ne.mpr c22
      obtain rfl := Option.some.inj H
      exact absurd HRT.out (by decide)
     rw [if_pos c22] at H
     have c22b0 := beq_iff_eq.mpr c22
     have c22b1 := bne_eq_false_iff_eq.mpr c22
     clear c22
     revert H
     refine ob3_ fun t125 t126 t127 A23 H => ?_
     (try dsimp only at H)
     by_cases c24 : t125 = 4
     rotate_left
     ·
      rw [if_neg c24] at H
      have c24b0 := beq_eq_false_iff_ne.mpr c24
      have c24b1 := bne_iff_ne.mpr c24
      obtain rfl := Option.some.inj H
      exact absurd HRT.out (by decide)
     rw [if_pos c24] at H
     have c24b0 := beq_iff_eq.mpr c24
     have c24b1 := bne_eq_false_iff_eq.mpr c24
     clear c24
     revert H
     refine ob2_ fun t130 t131 A25 H => ?_
     (try dsimp only at H)
     by_cases c26 : (t131.length : Int) = 0
     rotate_left
     ·
      rw [if_neg c26] at H
      have c26b0 := beq_eq_false_iff_ne.mpr c26
      have c26b1 := bne_iff_ne.mpr c26
      have c26b2 : ¬ (t131 = []) := fun h_ => c26 (by rw [h_]; rfl)
      obtain rfl := Option.some.inj H
      exact absurd HRT.out (by decide)
     rw [if_pos c26] at H
     have c26b0 := beq_iff_eq.mpr c26
     have c26b1 := bne_eq_false_iff_eq.mpr c26
     clear c26
     by_cases c27 : t118 = 0
     rotate_left
     ·
      rw [if_neg c27] at H
      have c27b0 := beq_eq_false_iff_ne.mpr c27
      have c27b1 := bne_iff_ne.mpr c27
      obtain rfl := Option.some.inj H
      exact absurd HRT.out (by decide)
     rw [if_pos c27] at H
     have c27b0 := beq_iff_eq.mpr c27
     have c27b1 := bne_eq_false_iff_eq.mpr c27
     clear c27
     by_cases c28 : (t120.length : Int) = (t102.length : Int)
     rotate_left
     ·
      rw [if_neg c28] at H
      have c28b0 := beq_eq_false_iff_ne.mpr c28
      have c28b1 := bne_iff_ne.mpr c28
      have c28b2 : (t120.length == t102.length) = false := by first | simpa using c28 | (simp at c28 ⊢; omega)
      obtain rfl := Option.some.inj H
      exact absurd HRT.out (by decide)
     rw [if_pos c28] at H
     have c28b0 := beq_iff_eq.mpr c28
     have c28b1 := bne_eq_false_iff_eq.mpr c28
     have c28b2 : (t120.length == t102.length) = true := by first | simpa using c28 | (simp at c28 ⊢; omega)
     clear c28
     revert H
     refine ob3_ fun t134 t135 t136 A29 H => ?_
     (try dsimp only at H)
     revert H
     refine obs_ fun t139 A30 H => ?_
     obtain rfl := Option.some.inj H
     obtain ⟨hcz31_0, hcz31_1, hcz31_2, hfz31_0, hfz31_1, hfz31_2⟩ := blk3_ BK112.out
     try go_wp2_with (first | (refine gc_ Tryd.func16 (some 34) #[.slice Ao13 t109.length co13, .string t103, .int .i64 5, .int .i64 0, .bool false] ?_; (with_reducible refine (impl_CreateZ.calls kj6 _ _ t109 t103 5 0 false t118 t119 t120 _ ?side1 ?side2 A19.out).mono ?_); (case side1 => exact zgoihg); (case side2 => exact zagfhp); rintro e w32 ⟨v121, rfl, ho0, hb⟩; refine ⟨_, rfl, ?_⟩; have n0_ := aa (Kd.R_elder' (zcaken HO_3.out) (Kd.R_base ho0) hb); have n1_ := aa (Kd.R_elder' (zcaken HO_113002.out) (Kd.R_base ho0) hb); have n2_ := aa (Kd.R_lower (Kd.R_new' (Kd.R_new' ho0 (Kd.R_lt (zcaken HO_3.out))) (Kd.R_lt (zcaken HO_113002.out))) (below_size zgbpfa)); have n3_ := aa (bb_ BK112.out hb); have n4_ := aa (below_step zgbpfa hb); clear HO_3; clear HO_113002; clear BK112; clear HB; have HO_3 := n0_; have HO_113002 := n1_; have HO122 := n2_; have BK112 := n3_; have HB := n4_; clear n0_ n1_ n2_ n3_ n4_; (try clear hb hk hi ho0)) | ((with_reducible refine gate_dst (N := 7) rfl ?_); (try (refine gate_guard (by rfl) ?_; dsimp only)); refine box_event ?hg (N := 7) ?hd (cs := #[.int .i64 0, .string (⟨#[]⟩ : ByteArray), .slice none 0 0]) (t := 28) ?hr ?_; (case hd => rfl); (case hg => rfl); (case hr => exact zhlgcp); intro gb123 hg w33 hbox hb; have n0_ := aa (Kd.R_below (zcaken HO_3.out) hb); have n1_ := aa (Kd.R_below (zcaken HO_113002.out) hb); have n2_ := aa (Kd.R_below (zcaken HO122.out) hb); have n3_ := aa (bb_ BK112.out hb); have n4_ := aa (below_step zgbpfa hb); have n5_ := aa (hbox); have n6_ := aa ((by rw [hg]; exact (below_size zgbpfa) : w.heap.size ≤ gb123)); have n7_ := aa ((by rw [hg]; exact (below_size zgbpfa) : w.heap.size ≤ gb123)); have n8_ := aa ((by rw [hg]; exact Nat.ne_of_lt (blk_lt (g := gb112) (o := .cells #[.int .i64 t107, .string t108, .slice Ao13 t109.length co13] 28 (0, 0)) (zkjhpm BK112.out)) : gb112 ≠ gb123)); have n9_ := aa ((by rw [hg]; exact Nat.ne_of_gt (blk_lt (g := gb112) (o := .cells #[.int .i64 t107, .string t108, .slice Ao13 t109.length co13] 28 (0, 0)) (zkjhpm BK112.out)) : gb123 ≠ gb112)); clear HO_3; clear HO_113002; clear HO122; clear BK112; clear HB; have HO_3 := n0_; have HO_113002 := n1_; have HO122 := n2_; have BK112 := n3_; have HB := n4_; have BK123 := n5_; have GW123 := n6_; have GE123 := n7_; have NB112_123 := n8_; have NB123_112 := n9_; clear n0_ n1_ n2_ n3_ n4_ n5_ n6_ n7_ n8_ n9_; clear hb hbox hg; have hnb34 := NB123_112.out; have hnc34 := NB112_123.out; obtain ⟨hcz35_0, hcz35_1, hcz35_2, hfz35_0, hfz35_1, hfz35_2⟩ := blk3_ BK123.out; obtain ⟨Ao36, co36, eo36⟩ := Kd.R_slice HO122.out; subst eo36))
     have n0_ : Aside0 (Kd.R k32 32 (((w33.setCell ⟨gb123, 0, none⟩ (.int .i64 t118)).setCell ⟨gb123, 1, none⟩ (.string t119)).setCell ⟨gb123, 2, none⟩ (.slice Ao36 t120.length co36)) w.heap.size (fun k_ => some k_ ≠ (.slice Ao13 t109.length co13 : Value).ownBlock ∧ some k_ ≠ (.slice Ao36 t120.length co36 : Value).ownBlock) (.slice Ao9 t102.length co9) t102) := ⟨by (with_reducible repeat (first | apply Kd.R_alloc | apply Kd.R_drewN | apply Kd.R_drew)); exact Kd.R_mono (Kd.R_far (p := ⟨gb123, 2, none⟩) (Kd.R_far (p := ⟨gb123, 1, none⟩) (Kd.R_far (p := ⟨gb123, 0, none⟩) (Kd.R_types HO_3.out BK123.out (by decide)) (fun _ hk => hk.2) (.int .i64 t118)) (fun _ hk => hk.2) (.string t119)) (fun _ hk => hk.2) (.slice Ao36 t120.length co36)) (fun _ hk => ⟨hk.1.1, hk.1.2⟩)⟩
     have n1_ : Aside0 (Kd.R k32 32 (((w33.setCell ⟨gb123, 0, none⟩ (.int .i64 t118)).setCell ⟨gb123, 1, none⟩ (.string t119)).setCell ⟨gb123, 2, none⟩ (.slice Ao36 t120.length co36)) w.heap.size (fun k_ => some k_ ≠ (.slice Ao9 t102.length co9 : Value).ownBlock ∧ some k_ ≠ (.slice Ao36 t120.length co36 : Value).ownBlock) (.slice Ao13 t109.length co13) t109) := ⟨by (with_reducible repeat (first | apply Kd.R_alloc | apply Kd.R_drewN | apply Kd.R_drew)); exact Kd.R_mono (Kd.R_far (p := ⟨gb123, 2, none⟩) (Kd.R_far (p := ⟨gb123, 1, none⟩) (Kd.R_far (p := ⟨gb123, 0, none⟩) (Kd.R_types HO_113002.out BK123.out (by decide)) (fun _ hk => hk.2) (.int .i64 t118)) (fun _ hk => hk.2) (.string t119)) (fun _ hk => hk.2) (.slice Ao36 t120.length co36)) (fun _ hk => ⟨hk.1.1, hk.1.2⟩)⟩
     have n2_ : Aside0 (Kd.R k32 32 (((w33.setCell ⟨gb123, 0, none⟩ (.int .i64 t118)).setCell ⟨gb123, 1, none⟩ (.string t119)).setCell ⟨gb123, 2, none⟩ (.slice Ao36 t120.length co36)) w.heap.size (fun k_ => some k_ ≠ (.slice Ao9 t102.length co9 : Value).ownBlock ∧ some k_ ≠ (.slice Ao13 t109.length co13 : Value).ownBlock) (.slice Ao36 t120.length co36) t120) := ⟨by (with_reducible repeat (first | apply Kd.R_alloc | apply Kd.R_drewN | apply Kd.R_drew)); exact Kd.R_mono (Kd.R_far (p := ⟨gb123, 2, none⟩) (Kd.R_far (p := ⟨gb123, 1, none⟩) (Kd.R_far (p := ⟨gb123, 0, none⟩) (Kd.R_types HO122.out BK123.out (by decide)) (fun _ hk => hk.2) (.int .i64 t118)) (fun _ hk => hk.2) (.string t119)) (fun _ hk => hk.2) (.slice Ao36 t120.length co36)) (fun _ hk => ⟨hk.1.1.2, hk.1.2⟩)⟩
     have n3_ : Aside0 ((((w33.setCell ⟨gb123, 0, none⟩ (.int .i64 t118)).setCell ⟨gb123, 1, none⟩ (.string t119)).setCell ⟨gb123, 2, none⟩ (.slice Ao36 t120.length co36)).heap[gb112]? = some (.cells #[.int .i64 t107, .string t108, .slice Ao13 t109.length co13] 28 (0, 0))) := ⟨by (with_reducible repeat (first | refine blk_drewN ?_ _ | refine blk_drew ?_ | refine blk_alloc ?_ _)); refine blk_far ?_ NB112_123.out _; (with_reducible repeat (first | refine blk_drewN ?_ _ | refine blk_drew ?_ | refine blk_alloc ?_ _)); refine blk_far ?_ NB112_123.out _; (with_reducible repeat (first | refine blk_drewN ?_ _ | refine blk_drew ?_ | refine blk_alloc ?_ _)); refine blk_far ?_ NB112_123.out _; (with_reducible repeat (first | refine blk_drewN ?_ _ | refine blk_drew ?_ | refine blk_alloc ?_ _)); exact BK112.out⟩
     have n4_ : Aside0 ((((w33.setCell ⟨gb123, 0, none⟩ (.int .i64 t118)).setCell ⟨gb123, 1, none⟩ (.string t119)).setCell ⟨gb123, 2, none⟩ (.slice Ao36 t120.length co36)).heap[gb123]? = some (.cells #[.int .i64 t118, .string t119, .slice Ao36 t120.length co36] 28 (0, 0))) := ⟨by (with_reducible repeat (first | refine blk_drewN ?_ _ | refine blk_drew ?_ | refine blk_alloc ?_ _)); refine blk_put (cs := #[.int .i64 t118, .string t119, .slice none 0 0]) ?_ 2 _ rfl; (with_reducible repeat (first | refine blk_drewN ?_ _ | refine blk_drew ?_ | refine blk_alloc ?_ _)); refine blk_put (cs := #[.int .i64 t118, .string (⟨#[]⟩ : ByteArray), .slice none 0 0]) ?_ 1 _ rfl; (with_reducible repeat (first | refine blk_drewN ?_ _ | refine blk_drew ?_ | refine blk_alloc ?_ _)); refine blk_put (cs := #[.int .i64 0, .string (⟨#[]⟩ : ByteArray), .slice none 0 0]) ?_ 0 _ rfl; (with_reducible repeat (first | refine blk_drewN ?_ _ | refine blk_drew ?_ | refine blk_alloc ?_ _)); exact BK123.out⟩
     have n5_ : Aside0 (Below w.heap.size w (((w33.setCell ⟨gb123, 0, none⟩ (.int .i64 t118)).setCell ⟨gb123, 1, none⟩ (.string t119)).setCell ⟨gb123, 2, none⟩ (.slice Ao36 t120.length co36))) := ⟨by repeat (first | (with_reducible first | exact HB.out | apply below_alloc | apply pw_below_drewN | apply below_drew1 | refine below_set ?_ GE112.out | refine below_set ?_ GE123.out) | exact HB.out)⟩
     (try clear HO_3)
     (try clear HO_113002)
     (try clear HO122)
     (try clear BK112)
     (try clear BK123)
     (try clear HB)
     generalize (((w33.setCell ⟨gb123, 0, none⟩ (.int .i64 t118)).setCell ⟨gb123, 1, none⟩ (.string t119)).setCell ⟨gb123, 2, none⟩ (.slice Ao36 t120.length co36)) = w37 at n0_ n1_ n2_ n3_ n4_ n5_ ⊢
     have HO_3 := n0_
     have HO_113002 := n1_
     have HO122 := n2_
     have BK112 := n3_
     have BK123 := n4_
     have HB := n5_
     clear n0_ n1_ n2_ n3_ n4_ n5_
     replace HO_3 := aa (Kd.R_drew HO_3.out)
     replace HO_113002 := aa (Kd.R_drew HO_113002.out)
     replace HO122 := aa (Kd.R_drew HO122.out)
     replace BK112 := aa (blk_drew BK112.out)
     replace BK123 := aa (blk_drew BK123.out)
     replace HB := aa (below_drew1 HB.out)
     refine start_ (n := 53) (S := fun w' => w'.cell? ⟨gb112, 0, none⟩ = some (.int .i64 t107) ∧ w'.cell? ⟨gb112, 1, none⟩ = some (.string t108) ∧ w'.cell? ⟨gb112, 2, none⟩ = some (.slice Ao13 t109.length co13) ∧ w'.cell? ⟨gb123, 0, none⟩ = some (.int .i64 t118) ∧ w'.cell? ⟨gb123, 1, none⟩ = some (.string t119) ∧ w'.cell? ⟨gb123, 2, none⟩ = some (.slice Ao36 t120.length co36)) (ds := []) #[false, false, false, false, false, false, false, false, false, false, false, false, false, false, false, false, false, false, false, false, false, false, false, false, false, false, false, false, false, false, false, false, false, false, false, false, false, false, false, false, false, false, false, false, false, false, false, false, false, false, false, false, false] (by kernel_rfl) rfl rfl ⟨(blk_cell BK112.out 0).trans rfl, (blk_cell BK112.out 1).trans rfl, (blk_cell BK112.out 2).trans rfl, (blk_cell BK123.out 0).trans rfl, (blk_cell BK123.out 1).trans rfl, (blk_cell BK123.out 2).trans rfl⟩ (fun hHeld => ?_); refine with_tabW laws_FnDeletes.tab8 laws_FnDeletes.bits8 (fun HT_ HW_ => ?_)
     generalize w37.drew = w38 at HO_3 HO_113002 HO122 BK112 BK123 HB hHeld ⊢
     refine pu4 0 35 ?_
     refine tk6_4 1 36 ?_
     refine one_ (i := 2) (N := some 37) #[true, true, true, false, false, false, false, false, false, false, false, false, false, false, false, false, false, false, false, false, false, false, false, false, false, false, false, false, false, false, false, false, false, false, false, false, false, false, false, false, false, false, false, false, false, false, false, false, false, false, false, false, false] rfl rfl (one_of HT_.out (by kernel_rfl)) (by decide) (fun K hK => ?_)
     refine goes_ Tryd.func12 (by kernel_rfl) rfl #[.slice Ao13 t109.length co13] (by rfl) rfl rfl zjnmae ?_
     with_reducible refine (impl_TreeFault.calls kj6 _ _ t109 t124 _ ?side1 ?side2 A20.out).mono ?_
     (case side1 => exact zgoihg)
     (case side2 => exact zagfhp)
     rintro e w39 ⟨rfl, hb⟩
     refine ⟨_, rfl, ?_⟩
     replace HO_3 := aa (Kd.R_below (zcaken HO_3.out) hb)
     replace HO_113002 := aa (Kd.R_below (zcaken HO_113002.out) hb)
     replace HO122 := aa (Kd.R_below (zcaken HO122.out) hb)
     replace BK112 := aa (bb_ BK112.out hb)
     replace BK123 := aa (bb_ BK123.out hb)
     replace HB := aa (below_step zilcpm hb)
     (try clear hb)
     (try clear hb2)
     (try clear hk)
     (try clear hi)
     refine hK.out _ _ ⟨(blk_cell BK112.out 0).trans rfl, (blk_cell BK112.out 1).trans rfl, (blk_cell BK112.out 2).trans rfl, (blk_cell BK123.out 0).trans rfl, (blk_cell BK123.out 1).trans rfl, (blk_cell BK123.out 2).trans rfl⟩ (fun hHeld => ?_)
     clear hK K
     refine norm_ (a' := ?_) ?_ ?_
     rotate_left
     ·
      show Act.put _ (some 37) _ = _
      simp only [Act.put, List.setIfInBounds_toArray, List.set_cons_zero, List.set_cons_succ, i64_w, i32_w]
      rfl
     refine pu4 3 38 ?_
     refine pu4 4 39 ?_
     refine pu4 5 40 ?_
     refine pu4 8 43 ?_
     refine pu4 9 44 ?_
     refine pu4 10 45 ?_
     refine tk6_4 6 41 ?_
     refine pu4 7 42 ?_
     refine pu4 11 46 ?_
     refine pu4 12 47 ?_
     refine pu4 13 48 ?_
     refine pu4 14 49 ?_
     refine pu4 16 51 ?_
     refine tk6_4 15 50 ?_
     refine one_ (i := 17) (N := some 52) #[true, true, true, true, true, true, true, true, true, true, true, true, true, true, true, true, true, true, false, false, false, false, false, false, false, false, false, false, false, false, false, false, false, false, false, false, false, false, false, false, false, false, false, false, false, false, false, false, false, false, false, false, false] rfl rfl (one_of HT_.out (by kernel_rfl)) (by decide) (fun K hK => ?_)
     refine goes_ Tryd.func11 (by kernel_rfl) rfl #[.slice Ao13 t109.length co13, .string t103] (by rfl) rfl rfl zjnmae ?_
     with_reducible refine (impl_GetZ.calls kj6 _ _ t109 t103 t125 t126 t127 _ ?side1 ?side2 A23.out).mono ?_
     (case side1 => exact zgoihg)
     (case side2 => exact zagfhp)
     rintro e w40 ⟨v128, rfl, ho0, hb⟩
     refine ⟨_, rfl, ?_⟩
     have n0_ := aa (Kd.R_elder' (zcaken HO_3.out) (Kd.R_base ho0) hb)
     have n1_ := aa (Kd.R_elder' (zcaken HO_113002.out) (Kd.R_base ho0) hb)
     have n2_ := aa (Kd.R_elder' (zcaken HO122.out) (Kd.R_base ho0) hb)
     have n3_ := aa (Kd.R_lower (Kd.R_new' (Kd.R_new' (Kd.R_new' ho0 (Kd.R_lt (zcaken HO_3.out))) (Kd.R_lt (zcaken HO_113002.out))) (Kd.R_lt (zcaken HO122.out))) (below_size zilcpm))
     have n4_ := aa (bb_ BK112.out hb)
     have n5_ := aa (bb_ BK123.out hb)
     have n6_ := aa (below_step zilcpm hb)
     clear HO_3
     clear HO_113002
     clear HO122
     clear BK112
     clear BK123
     clear HB
     have HO_3 := n0_
     have HO_113002 := n1_
     have HO122 := n2_
     have HO129 := n3_
     have BK112 := n4_
     have BK123 := n5_
     have HB := n6_
     clear n0_ n1_ n2_ n3_ n4_ n5_ n6_
     (try clear hb)
     (try clear hb2)
     (try clear hk)
     (try clear hi)
     (try clear ho0)
     refine hK.out _ _ ⟨(blk_cell BK112.out 0).trans rfl, (blk_cell BK112.out 1).trans rfl, (blk_cell BK112.out 2).trans rfl, (blk_cell BK123.out 0).trans rfl, (blk_cell BK123.out 1).trans rfl, (blk_cell BK123.out 2).trans rfl⟩ (fun hHeld => ?_)
     clear hK K
     refine norm_ (a' := ?_) ?_ ?_
     rotate_left
     ·
      show Act.put _ (some 52) _ = _
      simp only [Act.put, List.setIfInBounds_toArray, List.set_cons_zero, List.set_cons_succ, i64_w, i32_w]
      rfl
     refine pu4 18 53 ?_
     refine pu4 19 54 ?_
     refine pu4 20 55 ?_
     refine pu4 21 56 ?_
     refine pu4 22 57 ?_
     refine pu4 23 58 ?_
     refine one_ (i := 24) (N := some 59) #[true, true, true, true, true, true, true, true, true, true, true, true, true, true, true, true, true, true, true, true, true, true, true, true, true, false, false, false, false, false, false, false, false, false, false, false, false, false, false, false, false, false, false, false, false, false, false, false, false, false, false, false, false] rfl rfl (one_of HT_.out (by kernel_rfl)) (by decide) (fun K hK => ?_)
     refine goes_ Tryd.func17 (by kernel_rfl) rfl #[.slice Ao9 t102.length co9, .string t103] (by rfl) rfl rfl zjnmae ?_
     with_reducible refine (impl_KidsZ.calls kj6 _ _ t102 t103 t130 t131 _ ?side1 ?side2 A25.out).mono ?_
     (case side1 => exact zifagg)
     (case side2 => exact zkdfbh)
     rintro e w41 ⟨v132, rfl, ho0, hb⟩
     refine ⟨_, rfl, ?_⟩
     replace HO_3 := aa (Kd.R_below (zcaken HO_3.out) hb)
     replace HO_113002 := aa (Kd.R_below (zcaken HO_113002.out) hb)
     replace HO122 := aa (Kd.R_below (zcaken HO122.out) hb)
     replace HO129 := aa (Kd.R_below (zcaken HO129.out) hb)
     have HO133 := aa (Kd.R_lower ho0 (below_size zilcpm))
     replace BK112 := aa (bb_ BK112.out hb)
     replace BK123 := aa (bb_ BK123.out hb)
     replace HB := aa (below_step zilcpm hb)
     (try clear hb)
     (try clear hb2)
     (try clear hk)
     (try clear hi)
     (try clear ho0)
     obtain ⟨Ao42, co42, eo42⟩ := Kd.R_slice HO133.out
     (first | subst eo42 | (injection eo42 with f1_ f2_ f3_; have f4_ := f1_.symm; have f5_ := f3_.symm; clear f1_ f2_ f3_; subst f4_; subst f5_))
     refine hK.out _ _ ⟨(blk_cell BK112.out 0).trans rfl, (blk_cell BK112.out 1).trans rfl, (blk_cell BK112.out 2).trans rfl, (blk_cell BK123.out 0).trans rfl, (blk_cell BK123.out 1).trans rfl, (blk_cell BK123.out 2).trans rfl⟩ (fun hHeld => ?_)
     clear hK K
     refine norm_ (a' := ?_) ?_ ?_
     rotate_left
     ·
      show Act.put _ (some 59) _ = _
      simp only [Act.put, List.setIfInBounds_toArray, List.set_cons_zero, List.set_cons_succ, i64_w, i32_w]
      rfl
     refine pu4 25 60 ?_
     refine pu4 26 61 ?_
     refine pu4 27 62 ?_
     refine pu4 28 63 ?_
     refine pu4 29 64 ?_
     refine pu4 30 65 ?_
     refine tk6_4 31 66 ?_
     refine pu4 32 67 ?_
     refine pu4 33 68 ?_
     refine pu4 34 69 ?_
     refine pu4 35 70 ?_
     refine pu4 38 73 ?_
     refine pu4 39 74 ?_
     refine tk6_4 36 71 ?_
     refine pu4 37 72 ?_
     refine pu4 40 75 ?_
     refine pu4 41 76 ?_
     refine pu4 42 77 ?_
     refine pu4 43 78 ?_
     refine pu4 45 80 ?_
     refine pu4 48 83 ?_
     refine tk6_4 44 79 ?_
     refine tk6_4 49 84 ?_
     refine one_ (i := 46) (N := some 81) #[true, true, true, true, true, true, true, true, true, true, true, true, true, true, true, true, true, true, true, true, true, true, true, true, true, true, true, true, true, true, true, true, true, true, true, true, true, true, true, true, true, true, true, true, true, true, true, false, true, true, false, false, false] rfl rfl (one_of HT_.out (by kernel_rfl)) (by decide) (fun K hK => ?_)
     refine goes_ Tryd.func14 (by kernel_rfl) rfl #[.slice Ao36 t120.length co36, .string t103, .int .i64 0] (by rfl) rfl rfl zjnmae ?_
     with_reducible refine (impl_DeleteZ.calls kj6 _ _ t120 t103 0 t134 t135 t136 _ ?side1 ?side2 A29.out).mono ?_
     (case side1 => exact zdnbnp)
     (case side2 => exact (Kd.R_reads' HO122.out).2.1)
     rintro e w43 ⟨v137, rfl, ho0, hb⟩
     refine ⟨_, rfl, ?_⟩
     have n0_ := aa (Kd.R_elder' (zcaken HO_3.out) (Kd.R_base ho0) hb)
     have n1_ := aa (Kd.R_elder' (zcaken HO_113002.out) (Kd.R_base ho0) hb)
     have n2_ := aa (Kd.R_elder' (zcaken HO122.out) (Kd.R_base ho0) hb)
     have n3_ := aa (Kd.R_elder' (zcaken HO129.out) (Kd.R_base ho0) hb)
     have n4_ := aa (Kd.R_below (zcaken HO133.out) hb)
     have n5_ := aa (Kd.R_lower (Kd.R_new' (Kd.R_new' (Kd.R_new' (Kd.R_new' ho0 (Kd.R_lt (zcaken HO_3.out))) (Kd.R_lt (zcaken HO_113002.out))) (Kd.R_lt (zcaken HO122.out))) (Kd.R_lt (zcaken HO129.out))) (below_size zilcpm))
     have n6_ := aa (bb_ BK112.out hb)
     have n7_ := aa (bb_ BK123.out hb)
     have n8_ := aa (below_step zilcpm hb)
     clear HO_3
     clear HO_113002
     clear HO122
     clear HO129
     clear HO133
     clear BK112
     clear BK123
     clear HB
     have HO_3 := n0_
     have HO_113002 := n1_
     have HO122 := n2_
     have HO129 := n3_
     have HO133 := n4_
     have HO138 := n5_
     have BK112 := n6_
     have BK123 := n7_
     have HB := n8_
     clear n0_ n1_ n2_ n3_ n4_ n5_ n6_ n7_ n8_
     (try clear hb)
     (try clear hb2)
     (try clear hk)
     (try clear hi)
     (try clear ho0)
     obtain ⟨Ao44, co44, eo44⟩ := Kd.R_slice HO138.out
     (first | subst eo44 | (injection eo44 with f1_ f2_ f3_; have f4_ := f1_.symm; have f5_ := f3_.symm; clear f1_ f2_ f3_; subst f4_; subst f5_))
     refine hK.out _ _ ⟨(blk_cell BK112.out 0).trans rfl, (blk_cell BK112.out 1).trans rfl, (blk_cell BK112.out 2).trans rfl, (blk_cell BK123.out 0).trans rfl, (blk_cell BK123.out 1).trans rfl, (blk_cell BK123.out 2).trans rfl⟩ (fun hHeld => ?_)
     clear hK K
     refine norm_ (a' := ?_) ?_ ?_
     rotate_left
     ·
      show Act.put _ (some 81) _ = _
      simp only [Act.put, List.setIfInBounds_toArray, List.set_cons_zero, List.set_cons_succ, i64_w, i32_w]
      rfl
     refine pu4 47 82 ?_
     refine one_ (i := 50) (N := some 85) #[true, true, true, true, true, true, true, true, true, true, true, true, true, true, true, true, true, true, true, true, true, true, true, true, true, true, true, true, true, true, true, true, true, true, true, true, true, true, true, true, true, true, true, true, true, true, true, true, true, true, true, false, false] rfl rfl (one_of HT_.out (by kernel_rfl)) (by decide) (fun K hK => ?_)
     refine goes_ Tryd.func18 (by kernel_rfl) rfl #[.slice Ao44 t136.length co44, .slice Ao13 t109.length co13] (by rfl) rfl rfl zjnmae ?_
     with_reducible refine (impl_SameTrees.calls kj6 _ _ t136 _ _ t109 t139 _ ?side1 ?side2 ?side3 ?side4 A30.out).mono ?_
     (case side1 => repeat (first | exact (Kd.R_reads' HO138.out).2.2 | (with_reducible refine Kd.C_alloc ?_ _) | (with_reducible refine Kd.C_drewN ?_ _) | (with_reducible refine Kd.C_drew ?_)))
     (case side2 => exact (Kd.R_reads' HO138.out).2.1)
     (case side3 => exact zgoihg)
     (case side4 => exact zagfhp)
     rintro e w' ⟨rfl, ⟨nd, rfl⟩⟩
     refine ⟨_, rfl, ?_⟩
     refine hK.out _ _ ⟨(blk_cell BK112.out 0).trans rfl, (blk_cell BK112.out 1).trans rfl, (blk_cell BK112.out 2).trans rfl, (blk_cell BK123.out 0).trans rfl, (blk_cell BK123.out 1).trans rfl, (blk_cell BK123.out 2).trans rfl⟩ (fun hHeld => ?_)
     clear hK K
     refine norm_ (a' := ?_) ?_ ?_
     rotate_left
     ·
      show Act.put _ (some 85) _ = _
      simp only [Act.put, List.setIfInBounds_toArray, List.set_cons_zero, List.set_cons_succ, i64_w, i32_w]
      rfl
     refine pu4 51 86 ?_
     refine pu4 52 2 ?_
     refine done_ (done_of HT_.out (by kernel_rfl)) ?_
     try go_wp2
     go_ret
     exact ⟨zlhpib, zilcpm⟩
end Go.Proofs.YtegggpipggniaaaDoor.Qa
/- Arguments laid open: what a value of a type holds in memory, by the print's kinds; for every type that is met here. -/
namespace Go.Proofs.YtegggpipggniaaaDoor.Tro
open Go.ChangeShapes Go.WideShapes Go.RowKit Go.Deep Go.Proofs.YtegggpipggniaaaDoorW.PrintWords

/-- What can be read as data of type T holds a value of this kind, of which 'good' is so. -/
def Tr {α : Type} (P : Program) (k : Kd α) (T : TypeId) (good : α → Prop) : Prop :=
  ∀ {H : Type} (enc : TypeId × Value → H) (w : World) (fuel : Nat) (cs : List Value) (x : DataW H × List MemPlace), DataW.trod enc P w 0 (fun _ => true) true fuel T cs = some x → ∃ a : α, k.K w a cs ∧ good a
theorem tr_int {P : Program} {T : TypeId} {k : IntKind} (h : P.underlying T = some (.int k)) : Tr P (Kd.int k) T (fun a => (Lit.int k a).wf = true) := by
  intro H enc w fuel cs x hx
  obtain ⟨n, rfl, _, hw⟩ := DataW.trod_int h hx
  exact ⟨n, rfl, hw⟩
theorem tr_bool {P : Program} {T : TypeId} (h : P.underlying T = some .bool) : Tr P Kd.bool T (fun _ => True) := by
  intro H enc w fuel cs x hx
  obtain ⟨b, rfl, _⟩ := DataW.trod_bool h hx
  exact ⟨b, rfl, trivial⟩
theorem tr_string {P : Program} {T : TypeId} (h : P.underlying T = some .string) : Tr P Kd.string T (fun s => s.size ≤ 9223372036854775807) := by
  intro H enc w fuel cs x hx
  obtain ⟨s, rfl, _, hs⟩ := DataW.trod_string h hx
  exact ⟨s, rfl, hs⟩
theorem choose_list {α : Type} {p : Nat → α → Prop} : ∀ n : Nat, (∀ i, i < n → ∃ a, p i a) → ∃ xs : List α, xs.length = n ∧ ∀ i a, xs[i]? = some a → p i a
  | 0, _ => ⟨[], rfl, fun i a h => by simp at h⟩
  | n + 1, h => by
    obtain ⟨xs, hl, hx⟩ := choose_list n (fun i hi => h i (by omega))
    obtain ⟨a, ha⟩ := h n (by omega)
    refine ⟨xs ++ [a], by simp [hl], fun i b hb => ?_⟩
    rcases Nat.lt_or_ge i xs.length with hi | hi
    · rw [List.getElem?_append_left hi] at hb
      exact hx i b hb
    · rw [List.getElem?_append_right hi] at hb
      have hi' : i = xs.length := by
        rcases Nat.eq_or_lt_of_le hi with e | e
        · exact e.symm
        · rw [List.getElem?_eq_none (by simp; omega)] at hb
          cases hb
      subst hi'
      rw [Nat.sub_self] at hb
      cases hb
      rw [hl]
      exact ha
theorem tr_slice {α : Type} {P : Program} {T e : TypeId} {d : Kd α} {good : α → Prop} (h : P.underlying T = some (.slice e)) (hz : d.sz = P.cellsOf e) (he : Tr P d e good) :
    Tr P (Kd.slice e d) T (fun xs => xs.length ≤ 9223372036854775807 ∧ ∀ x ∈ xs, good x) := by
  intro H enc w fuel cs x hx
  rcases open_slice h hx with ⟨rfl, _⟩ | ⟨a, len, cap, m, n, D, Pl, rfl, _, hl, hm, hmm, _, hi⟩
  · exact ⟨[], ⟨none, 0, rfl, Nat.le_refl _, rfl, Nat.zero_le _, fun h0 => absurd h0 (Nat.lt_irrefl 0)⟩, Nat.zero_le _, fun x hx => by simp at hx⟩
  · have hmc : m = cap := by simpa using hmm
    have hcap : cap ≤ 9223372036854775807 := hm
    obtain ⟨xs, hxl, hxs⟩ := choose_list (p := fun i b => (∃ c, c.length = d.sz ∧ d.K w b c ∧ ∀ j u, c[j]? = some u → w.cell? (a.add (i * d.sz + j)) = some u) ∧ good b) len (fun i hil => by
      obtain ⟨cs', hc, ht⟩ := hi i (by omega)
      obtain ⟨b, hb, hg⟩ := he enc w n cs' _ ht
      refine ⟨b, ⟨cs', d.K_len hb, hb, fun j u hu => ?_⟩, hg⟩
      obtain ⟨_, hcl, hat⟩ := World.cells?_some hc
      have hj : j < P.cellsOf e := by rw [← hcl]; exact (List.getElem?_eq_some_iff.1 hu).1
      have := hat j hj
      rw [hz, ← Go.Deep.add_add, this, hu])
    refine ⟨xs, ⟨some a, cap, by rw [hxl], by omega, rfl, by omega, fun _ => ⟨a, rfl, fun j p hp => (hxs j p hp).1⟩⟩, by omega, fun b hb => ?_⟩
    obtain ⟨i, hil, he⟩ := List.getElem_of_mem hb
    exact (hxs i b (by rw [← he]; exact List.getElem?_eq_getElem hil)).2
end Go.Proofs.YtegggpipggniaaaDoor.Tro

namespace Go.Proofs.YtegggpipggniaaaDoor.Qa
open Go.RowKit Go.Proofs.YtegggpipggniaaaDoorW.PrintWords Go.Proofs.YtegggpipggniaaaDoorW.PrintLast Go.Proofs.YtegggpipggniaaaDoorW.PrintMore Go.ChangeShapes Go.WideShapes Go.Proofs.YtegggpipggniaaaDoor.Tro
attribute [local go_sem] max2_int min2_int max_two min_two max_three min_three max_four min_four   -- for this text's walks alone
set_option linter.unusedVariables false
set_option linter.unusedSimpArgs false
end Go.Proofs.YtegggpipggniaaaDoor.Qa
/- Small laws of the pure side: what ends, step by step; whole numbers; lists by places. -/
namespace Go.Proofs.YtegggpipggniaaaDoor.Aid
open Go.RowKit Go.Proofs.YtegggpipggniaaaDoorW.PrintWords

theorem wrap_id {x : Int} (h0 : -9223372036854775808 ≤ x) (h1 : x ≤ 9223372036854775807) : wrap64 x = x := by
  unfold wrap64
  omega
theorem wrap_up {i n : Nat} (h : i < n) (hn : n ≤ 4611686018427387904) : wrap64 ((i : Int) + 1) = ((i + 1 : Nat) : Int) := by
  rw [wrap_id (by omega) (by omega)]
  omega
theorem wf_lo {x : Int} (h : (Lit.int .i64 x).wf = true) : -9223372036854775808 ≤ x ∧ x ≤ 9223372036854775807 := by
  have h' : (decide (IntKind.i64.min ≤ x) && decide (x ≤ IntKind.i64.max)) = true := h
  simp only [Bool.and_eq_true, decide_eq_true_eq] at h'
  exact h'
/-- One round, then what is known of the rest. -/
theorem ev_step {α : Type} {g : Nat → Option α} (f : Nat → Option α) {r : α} (h : ∀ k, g (k + 1) = f k) (k : Ev f r) : Ev g r := Ev.step h k
theorem ev_done {α : Type} {g : Nat → Option α} {r : α} (h : ∀ k, g (k + 1) = some r) : Ev g r := Ev.step h (Ev.now r)
theorem ev_is {α : Type} {g : Nat → Option α} {r : α} (h : ∀ k, g k = some r) : Ev g r := ⟨0, fun k _ => h k⟩
/-- A call whose answer is known, then the rest. -/
theorem ev_call {α β : Type} {g : Nat → Option α} {f : Nat → α → Option β} {a : α} {r : β} (h : Ev g a) (k : Ev (fun n => f n a) r) : Ev (fun n => (g n).bind (f n)) r := Ev.bind h k
theorem ev_cong {α : Type} {g f : Nat → Option α} {r : α} (h : ∀ k, g k = f k) (k : Ev f r) : Ev g r := Ev.congr h k
theorem rd_at {l : List Int} {i : Nat} (h : i < l.length) : rd l (i : Int) = l[i] := by
  unfold rd
  rw [Int.toNat_natCast, List.getD_eq_getElem?_getD, List.getElem?_eq_getElem h]
  rfl
theorem drop_at {α : Type} {l : List α} {i : Nat} (h : i < l.length) : l.drop i = l[i] :: l.drop (i + 1) := List.drop_eq_getElem_cons h
theorem drop_end {α : Type} {l : List α} {i : Nat} (h : l.length ≤ i) : l.drop i = [] := List.drop_eq_nil_of_le h
theorem rd_set_at {l : List Int} {i : Nat} {v : Int} (h : i < l.length) : rd (l.set i v) (i : Int) = v := by
  rw [rd_at (by simpa using h)]
  simp
theorem rdOf_at {α : Type} {z : α} {l : List α} {i : Nat} (h : i < l.length) : rdOf z l (i : Int) = l[i] := by
  unfold rdOf
  rw [Int.toNat_natCast, List.getD_eq_getElem?_getD, List.getElem?_eq_getElem h]
  rfl
theorem rdOf_set_at {α : Type} {z : α} {l : List α} {i : Nat} {v : α} (h : i < l.length) : rdOf z (l.set i v) (i : Int) = v := by
  rw [rdOf_at (by simpa using h)]
  simp
theorem take_set_snoc {α : Type} {l : List α} {i : Nat} {v : α} (h : i < l.length) : (l.set i v).take (i + 1) = l.take i ++ [v] := by
  rw [List.take_succ_eq_append_getElem (by simpa using h), List.take_set_of_le (Nat.le_refl i)]
  simp
theorem take_set_next {α : Type} {m L : List α} {i : Nat} {v : α} (h : i < m.length) (h' : i < L.length) (ht : m.take i = L.take i) (hv : L[i] = v) : (m.set i v).take (i + 1) = L.take (i + 1) := by
  rw [take_set_snoc h, List.take_succ_eq_append_getElem h', ht, hv]
theorem wr1_ (m : Int) (h0 : -9223372036854775808 ≤ m + 1) (h1 : m + 1 ≤ 9223372036854775807) : wrap64 (m + 1) = m + 1 := wrap_id h0 h1
theorem wrn_ (m j j1 : Int) (e : j + 1 = j1) (h0 : -9223372036854775808 ≤ m + j + 1) (h1 : m + j + 1 ≤ 9223372036854775807) : wrap64 (m + j + 1) = m + j1 := by
  rw [wrap_id h0 h1]
  omega
theorem size_strOfNums (xs : List Int) : (strOfNums xs).size = xs.length := by
  simp [strOfNums, ByteArray.size]
theorem tdiv_lt {x : Int} (h : 0 < x) : 0 ≤ Int.tdiv x 10 ∧ Int.tdiv x 10 + 1 ≤ x := by
  have : Int.tdiv x 10 = x / 10 := Int.tdiv_eq_ediv_of_nonneg (by omega)
  rw [this]
  omega
/-- Where what is so stands ahead of what is not: how many are so is the place. -/
theorem take_pos {α : Type} (p : α → Bool) (l : List α) (hm : l.Pairwise (fun x y => p y = true → p x = true)) : ∀ j (hj : j < l.length), p l[j] = true ↔ j < (l.takeWhile p).length := by
  induction l with
  | nil => intro j hj; simp at hj
  | cons x l ih =>
    intro j hj
    obtain ⟨h1, h2⟩ := List.pairwise_cons.1 hm
    cases hx : p x with
    | true =>
      rw [List.takeWhile_cons_of_pos hx]
      cases j with
      | zero => simp [hx]
      | succ j => simpa using ih h2 j (by simpa using hj)
    | false =>
      rw [List.takeWhile_cons_of_neg (by simp [hx])]
      cases j with
      | zero => simp [hx]
      | succ j =>
        have hj' : j < l.length := by simpa using hj
        have : p l[j] = true → False := fun h => by
          have := h1 l[j] (List.getElem_mem hj') h
          rw [hx] at this
          cases this
        simp
        exact Bool.eq_false_iff.2 this
theorem take_pos_le {α : Type} (p : α → Bool) (l : List α) : (l.takeWhile p).length ≤ l.length := (List.takeWhile_prefix p).length_le
theorem mid_eq {a b : Nat} (h : a + b ≤ 4611686018427387904) : wrap64 ((IntKind.u64.wrap (wrap64 ((a : Int) + (b : Int)))) / 2) = ((((a + b) / 2 : Nat)) : Int) := by
  have e : wrap64 ((a : Int) + (b : Int)) = ((a + b : Nat) : Int) := by rw [wrap_id (by omega) (by omega)]; omega
  have e2 : IntKind.u64.wrap (((a + b : Nat)) : Int) = ((a + b : Nat) : Int) := by
    have : IntKind.u64.wrap (((a + b : Nat)) : Int) = (((a + b : Nat)) : Int) % 18446744073709551616 := rfl
    rw [this]
    omega
  rw [e, e2, wrap_id (by omega) (by omega)]
  omega
end Go.Proofs.YtegggpipggniaaaDoor.Aid

namespace Go.Proofs.YtegggpipggniaaaDoor.Qa
open Go.RowKit Go.Proofs.YtegggpipggniaaaDoorW.PrintWords Go.Proofs.YtegggpipggniaaaDoorW.PrintLast Go.Proofs.YtegggpipggniaaaDoor.Aid
set_option linter.unusedVariables false
set_option linter.unusedSimpArgs false
theorem rd_T32_at {l : List (S32)} {i : Nat} (h : i < l.length) : rd_T32 l (i : Int) = l[i] := by
  unfold rd_T32
  rw [Int.toNat_natCast, List.getD_eq_getElem?_getD, List.getElem?_eq_getElem h]
  rfl
theorem rd_T32_set {l : List (S32)} {i : Nat} {v : S32} (h : i < l.length) : rd_T32 (l.set i v) (i : Int) = v := by
  rw [rd_T32_at (by simpa using h)]
  simp
end Go.Proofs.YtegggpipggniaaaDoor.Qa
/- A number within bounds, by the program and by the reference. -/
namespace Go.Proofs.YtegggpipggniaaaDoor.Pure
open Go.RowKit Go.Proofs.YtegggpipggniaaaDoor.Qa Go.Proofs.YtegggpipggniaaaDoorW.PrintWords Go.Proofs.YtegggpipggniaaaDoorW.PrintLast Go.Proofs.YtegggpipggniaaaDoor.Aid
theorem spec_l1In_is (a lo hi : Int) : spec_l1In.f a lo hi = some (decide (lo ≤ a ∧ a ≤ hi)) := by
  unfold spec_l1In.f
  by_cases h : lo ≤ a
  · rw [if_pos h]; simp [h]
  · rw [if_neg h]; simp [h]
theorem impl_within_is (a lo hi : Int) : impl_within.f a lo hi = some (decide (lo ≤ a ∧ a ≤ hi)) := by
  unfold impl_within.f
  by_cases h : lo ≤ a
  · rw [if_pos h]; simp [h]
  · rw [if_neg h]; simp [h]
end Go.Proofs.YtegggpipggniaaaDoor.Pure

/- Names: what is one, by the program and by the reference: the same, for every text. -/
namespace Go.Proofs.YtegggpipggniaaaDoor.Pure
open Go.RowKit Go.Proofs.YtegggpipggniaaaDoor.Qa Go.Proofs.YtegggpipggniaaaDoorW.PrintWords Go.Proofs.YtegggpipggniaaaDoorW.PrintLast Go.Proofs.YtegggpipggniaaaDoor.Aid

theorem bt_at {s : ByteArray} {i : Nat} (h : i < s.data.toList.length) : bt s (i : Int) = ((s.data.toList[i]).toNat : Int) := by
  have h' : (i : Int).toNat < s.size := by rw [Int.toNat_natCast]; exact h
  unfold bt
  rw [dif_pos h']
  rfl
theorem size_list (s : ByteArray) : s.size = s.data.toList.length := rfl
/-- A sign of a name. -/
def okU (c : UInt8) : Bool := (decide (97 ≤ c.toNat) && decide (c.toNat ≤ 122)) || (decide (48 ≤ c.toNat) && decide (c.toNat ≤ 57))
def nameB (s : ByteArray) : Bool := s.data.toList.all okU && decide (1 ≤ (s.size : Int) ∧ (s.size : Int) ≤ 8)
theorem okU_true {c : UInt8} (h : okU c = true) : (97 ≤ (c.toNat : Int) ∧ (c.toNat : Int) ≤ 122) ∨ (48 ≤ (c.toNat : Int) ∧ (c.toNat : Int) ≤ 57) := by
  unfold okU at h
  simp only [Bool.or_eq_true, Bool.and_eq_true, decide_eq_true_eq] at h
  omega
theorem okU_false {c : UInt8} (h : okU c = false) : ¬ ((97 ≤ (c.toNat : Int) ∧ (c.toNat : Int) ≤ 122) ∨ (48 ≤ (c.toNat : Int) ∧ (c.toNat : Int) ≤ 57)) := by
  intro g
  have : okU c = true := by
    unfold okU
    simp only [Bool.or_eq_true, Bool.and_eq_true, decide_eq_true_eq]
    omega
  rw [h] at this
  cases this
theorem name_spec_l0 (s : ByteArray) (hl : s.size ≤ 4611686018427387904) (d : Nat) : ∀ (i : Nat), i + d = s.size → Ev (fun k => spec_l1Name.l0 k s (i : Int)) ((s.data.toList.drop i).all okU && decide (1 ≤ (s.size : Int) ∧ (s.size : Int) ≤ 8)) := by
  have hs := size_list s
  induction d with
  | zero =>
    intro i h
    rw [drop_end (by omega)]
    exact ev_done fun k => by simp only [spec_l1Name.l0]; rw [if_neg (by omega), spec_l1In_is]; rfl
  | succ d ih =>
    intro i h
    have hi : i < s.data.toList.length := by omega
    rw [drop_at hi, List.all_cons]
    cases c : okU s.data.toList[i] with
    | true =>
      have hc := okU_true c
      rw [Bool.true_and]
      refine ev_step (fun k => spec_l1Name.l0 k s ((i + 1 : Nat) : Int)) (fun k => ?_) (ih (i + 1) (by omega))
      simp only [spec_l1Name.l0]; rw [if_pos (by omega), if_pos (by omega), bt_at hi, wrap_up hi (by omega)]
      by_cases h1 : ((s.data.toList[i]).toNat : Int) < 97
      · rw [if_pos h1, if_neg (by omega), if_neg (by omega)]
      · rw [if_neg h1, if_neg (by omega)]
    | false =>
      have hc := okU_false c
      rw [Bool.false_and, Bool.false_and]
      refine ev_done fun k => ?_
      simp only [spec_l1Name.l0]; rw [if_pos (by omega), if_pos (by omega), bt_at hi]
      by_cases h1 : ((s.data.toList[i]).toNat : Int) < 97
      · rw [if_pos h1]
        by_cases h2 : ((s.data.toList[i]).toNat : Int) < 48
        · rw [if_pos h2]
        · rw [if_neg h2, if_pos (by omega)]
      · rw [if_neg h1, if_pos (by omega), if_neg (by omega), if_pos (by omega)]
theorem name_spec (s : ByteArray) (hl : s.size ≤ 4611686018427387904) : Ev (fun k => spec_l1Name.f k s) (nameB s) := by
  have h := name_spec_l0 s hl s.size 0 (by omega)
  rw [List.drop_zero] at h
  exact h
theorem name_impl_l0 (s : ByteArray) (hl : s.size ≤ 4611686018427387904) (d : Nat) : ∀ (i : Nat), i + d = s.size → Ev (fun k => impl_isName.l0 k s (s.size : Int) (i : Int)) ((s.data.toList.drop i).all okU && decide (1 ≤ (s.size : Int) ∧ (s.size : Int) ≤ 8)) := by
  have hs := size_list s
  induction d with
  | zero =>
    intro i h
    rw [drop_end (by omega)]
    exact ev_done fun k => by simp only [impl_isName.l0]; rw [if_neg (by omega), impl_within_is]; rfl
  | succ d ih =>
    intro i h
    have hi : i < s.data.toList.length := by omega
    rw [drop_at hi, List.all_cons]
    cases c : okU s.data.toList[i] with
    | true =>
      have hc := okU_true c
      rw [Bool.true_and]
      refine ev_step (fun k => impl_isName.l0 k s (s.size : Int) ((i + 1 : Nat) : Int)) (fun k => ?_) (ih (i + 1) (by omega))
      simp only [impl_isName.l0]; rw [if_pos (by omega), if_pos (by omega), if_pos (by omega), bt_at hi, wrap_up hi (by omega)]
      by_cases h1 : ((s.data.toList[i]).toNat : Int) < 97
      · rw [if_pos h1, if_neg (by omega), if_neg (by omega)]
      · rw [if_neg h1, if_neg (by omega)]
    | false =>
      have hc := okU_false c
      rw [Bool.false_and, Bool.false_and]
      refine ev_done fun k => ?_
      simp only [impl_isName.l0]; rw [if_pos (by omega), if_pos (by omega), if_pos (by omega), bt_at hi]
      by_cases h1 : ((s.data.toList[i]).toNat : Int) < 97
      · rw [if_pos h1]
        by_cases h2 : ((s.data.toList[i]).toNat : Int) < 48
        · rw [if_pos h2]
        · rw [if_neg h2, if_pos (by omega)]
      · rw [if_neg h1, if_pos (by omega), if_neg (by omega), if_pos (by omega)]
theorem name_impl (s : ByteArray) (hl : s.size ≤ 4611686018427387904) : Ev (fun k => impl_isName.f k s) (nameB s) := by
  have h := name_impl_l0 s hl s.size 0 (by omega)
  rw [List.drop_zero] at h
  exact h
end Go.Proofs.YtegggpipggniaaaDoor.Pure

/- Paths: a text cut at the marks, by the program (strings.Split) and by the reference: the same; what is wrong with a path: the same, for every text. -/
namespace Go.Proofs.YtegggpipggniaaaDoor.Pure
open Go.RowKit Go.Proofs.YtegggpipggniaaaDoor.Qa Go.Proofs.YtegggpipggniaaaDoorW.PrintWords Go.Proofs.YtegggpipggniaaaDoorW.PrintLast Go.Proofs.YtegggpipggniaaaDoor.Aid

def mkB (l : List UInt8) : ByteArray := ⟨⟨l⟩⟩
theorem eq_mk {t : ByteArray} {l : List UInt8} (h : t.data.toList = l) : t = mkB l := by subst h; rfl
theorem ext_list (s : ByteArray) (a b : Nat) : (s.extract a b).data.toList = (s.data.toList.drop a).take (b - a) := by
  rw [ByteArray.data_extract, Array.toList_extract]
theorem ext_mk (s : ByteArray) (a b : Nat) : s.extract a b = mkB ((s.data.toList.drop a).take (b - a)) := eq_mk (ext_list s a b)
theorem tl (s : ByteArray) : s.toList = s.data.toList := ByteArray.toList_eq s
/-- The pieces of a text between the marks; what stands ahead goes into the first one. -/
def splF : List UInt8 → List UInt8 → List (List UInt8)
  | P, [] => [P]
  | P, c :: l => if c = 47 then P :: splF [] l else splF (P ++ [c]) l
theorem splF_len (l : List UInt8) : ∀ P, (splF P l).length = l.count 47 + 1 := by
  induction l with
  | nil => intro P; rfl
  | cons c l ih =>
    intro P
    unfold splF
    by_cases h : c = 47
    · rw [if_pos h, List.length_cons, ih, h, List.count_cons_self]
    · rw [if_neg h, ih, List.count_cons_of_ne (by simpa using h)]
theorem splF_none (l : List UInt8) : ∀ P, l.count 47 = 0 → splF P l = [P ++ l] := by
  induction l with
  | nil => intro P _; simp [splF]
  | cons c l ih =>
    intro P h
    have hc : c ≠ 47 := fun e => by rw [e, List.count_cons_self] at h; omega
    rw [List.count_cons_of_ne (by simpa using hc)] at h
    unfold splF
    rw [if_neg hc, ih _ h, List.append_assoc]
    rfl
theorem splF_some (l : List UInt8) (h : 0 < l.count 47) : ∃ p, p < l.length ∧ Lib.indexByte l 47 = (p : Int) ∧ (∀ P, splF P l = (P ++ l.take p) :: splF [] (l.drop (p + 1))) ∧ (l.drop (p + 1)).count 47 + 1 = l.count 47 := by
  induction l with
  | nil => simp at h
  | cons c l ih =>
    by_cases hc : c = 47
    · subst hc
      refine ⟨0, by simp, by unfold Lib.indexByte; rfl, fun P => ?_, by simp⟩
      rw [show splF P (47 :: l) = P :: splF [] l from if_pos rfl]
      simp
    · rw [List.count_cons_of_ne (by simpa using hc)] at h ⊢
      obtain ⟨p, h1, h2, h3, h4⟩ := ih h
      refine ⟨p + 1, by simpa using h1, ?_, fun P => ?_, by simpa using h4⟩
      · unfold Lib.indexByte
        rw [if_neg (by simpa using hc), h2, if_neg (by simp)]
        omega
      · rw [show splF P (c :: l) = splF (P ++ [c]) l from if_neg hc, h3]
        simp
/-- The reference's cut. -/
theorem cut_l0 (s : ByteArray) (hs : s.size ≤ 4398046511104) (d : Nat) : ∀ (i f : Nat) (out : List ByteArray), i + d = s.size → f ≤ i → out.length ≤ i → Ev (fun k => spec_l1Cut.l0 k s 47 out (f : Int) (i : Int)) (out ++ (splF ((s.data.toList.drop f).take (i - f)) (s.data.toList.drop i)).map mkB) := by
  have hl := size_list s
  have fin : ∀ (n f : Nat) (out : List ByteArray), s.size < n → Ev (fun k => spec_l1Cut.l0 k s 47 out (f : Int) (n : Int)) out := fun n f out hn => ev_done fun k => by simp only [spec_l1Cut.l0]; rw [if_neg (by omega)]
  induction d with
  | zero =>
    intro i f out h hf ho
    have e : s.data.toList.drop i = [] := drop_end (by omega)
    rw [e]
    have hx := ext_mk s f i
    refine ev_step (fun k => spec_l1Cut.l0 k s 47 (out ++ [s.extract f i]) ((i + 1 : Nat) : Int) ((i + 1 : Nat) : Int)) (fun k => ?_) ?_
    · simp only [spec_l1Cut.l0]; rw [if_pos (by omega), if_pos (by omega), if_pos (by omega), if_pos (by omega), if_pos (by omega), wrap_id (by omega) (by omega)]; rfl
    · rw [hx]
      exact fin _ _ _ (by omega)
  | succ d ih =>
    intro i f out h hf ho
    have hi : i < s.data.toList.length := by omega
    rw [drop_at hi]
    by_cases c : s.data.toList[i] = 47
    · rw [splF, if_pos c]
      have IH := ih (i + 1) (i + 1) (out ++ [s.extract f i]) (by omega) (by omega) (by simp; omega)
      rw [Nat.sub_self, List.take_zero] at IH
      have e : out ++ (((s.data.toList.drop f).take (i - f)) :: splF [] (s.data.toList.drop (i + 1))).map mkB = (out ++ [s.extract f i]) ++ (splF [] (s.data.toList.drop (i + 1))).map mkB := by rw [ext_mk, List.map_cons, List.append_assoc]; rfl
      rw [e]
      refine ev_step (fun k => spec_l1Cut.l0 k s 47 (out ++ [s.extract f i]) ((i + 1 : Nat) : Int) ((i + 1 : Nat) : Int)) (fun k => ?_) IH
      simp only [spec_l1Cut.l0]; rw [if_pos (by omega), if_neg (by omega), if_pos (by omega), if_pos (by omega), bt_at hi, c, if_pos (show ((UInt8.toNat 47 : Nat) : Int) = 47 from rfl), if_pos (by omega), if_pos (by omega), if_pos (by omega), wrap_up hi (by omega)]; rfl
    · rw [splF, if_neg c]
      have e : (s.data.toList.drop f).take (i - f) ++ [s.data.toList[i]] = (s.data.toList.drop f).take (i + 1 - f) := by
        rw [show i + 1 - f = (i - f) + 1 by omega, List.take_succ_eq_append_getElem (by rw [List.length_drop]; omega)]
        congr 2
        rw [List.getElem_drop]
        congr 1
        omega
      rw [e]
      refine ev_step (fun k => spec_l1Cut.l0 k s 47 out (f : Int) ((i + 1 : Nat) : Int)) (fun k => ?_) (ih (i + 1) f out (by omega) (by omega) (by omega))
      have hne : ¬ (((s.data.toList[i]).toNat : Int) = 47) := fun e => c (by
        have e2 : (s.data.toList[i]).toNat = 47 := by omega
        exact UInt8.toNat_inj.1 e2)
      simp only [spec_l1Cut.l0]; rw [if_pos (by omega), if_neg (by omega), if_pos (by omega), if_pos (by omega), bt_at hi, if_neg hne, wrap_up hi (by omega)]
def pieces (s : ByteArray) : List ByteArray := (splF [] s.data.toList).map mkB
theorem pieces_len (s : ByteArray) : (pieces s).length = s.data.toList.count 47 + 1 := by unfold pieces; rw [List.length_map, splF_len]
theorem cut_spec (s : ByteArray) (hs : s.size ≤ 4398046511104) : Ev (fun k => spec_l1Cut.f k s 47) (pieces s) := by
  have h := cut_l0 s hs s.size 0 0 [] (by omega) (by omega) (by simp)
  rw [List.nil_append, Nat.sub_self, List.take_zero, List.drop_zero] at h
  exact h
theorem w_up (p : Nat) (h : p ≤ 4611686018427387904) : wrap64 ((p : Int) + 1) = ((p + 1 : Nat) : Int) := by rw [wrap_id (by omega) (by omega)]; omega
theorem w_one (p : Nat) (h : p ≤ 4611686018427387904) : wrap64 ((p : Int) + ((⟨#[47]⟩ : ByteArray).size : Int)) = ((p + 1 : Nat) : Int) := w_up p h
theorem w_zero (p : Nat) (h : p ≤ 4611686018427387904) : wrap64 ((p : Int) + 0) = (p : Int) := by rw [Int.add_zero]; exact wrap_id (by omega) (by omega)
/-- The program's cut. -/
theorem split_l0 (n : Nat) (hn : n ≤ 4398046511104) (d : Nat) : ∀ (i : Nat) (x : ByteArray) (a : List ByteArray), x.data.toList.count 47 = d → i + d = n → a.length = n + 1 → x.size ≤ 4398046511104 → Ev (fun k => strings_genSplit.l0 k x (⟨#[47]⟩ : ByteArray) 0 (n : Int) a (i : Int)) (a.take i ++ (splF [] x.data.toList).map mkB) := by
  have ix : ∀ x : ByteArray, strings_Index.f x (⟨#[47]⟩ : ByteArray) = some (Lib.indexByte x.data.toList 47) := fun x => if_pos rfl
  induction d with
  | zero =>
    intro i x a hc h ha hx
    have e : a.take i ++ (splF [] x.data.toList).map mkB = (a.set i x).take (i + 1) := by
      rw [splF_none _ _ hc, take_set_snoc (by omega)]
      rfl
    rw [e]
    refine ev_done fun k => ?_
    have q0 : ¬ ((i : Int) < (n : Int)) := by omega
    have q1 : (0 : Int) ≤ (i : Int) := by omega
    have q2 : (i : Int) < (a.length : Int) := by omega
    have q3 : (0 : Int) ≤ ((i + 1 : Nat) : Int) := by omega
    have q4 : ((i + 1 : Nat) : Int) ≤ (a.length : Int) := by omega
    have wi := w_up i (by omega)
    simp only [strings_genSplit.l0, wi, q0, q1, q2, q3, q4, if_true, if_false, Int.toNat_natCast]
  | succ d ih =>
    intro i x a hc h ha hx
    obtain ⟨p, h1, h2, h3, h4⟩ := splF_some x.data.toList (by omega)
    have hl := size_list x
    have e1 : x.extract 0 p = mkB (x.data.toList.take p) := by rw [ext_mk]; rfl
    have e2 : (x.extract (p + 1) x.size).data.toList = x.data.toList.drop (p + 1) := by rw [ext_list, List.take_of_length_le (by rw [List.length_drop]; omega)]
    have IH := ih (i + 1) (x.extract (p + 1) x.size) (a.set i (x.extract 0 p)) (by rw [e2]; omega) (by omega) (by rw [List.length_set]; exact ha) (by rw [size_list, e2, List.length_drop]; omega)
    have e : a.take i ++ (splF [] x.data.toList).map mkB = (a.set i (x.extract 0 p)).take (i + 1) ++ (splF [] (x.extract (p + 1) x.size).data.toList).map mkB := by
      rw [e2, h3, take_set_snoc (by omega), List.append_assoc, e1]
      rfl
    rw [e]
    refine ev_step (fun k => strings_genSplit.l0 k (x.extract (p + 1) x.size) (⟨#[47]⟩ : ByteArray) 0 (n : Int) (a.set i (x.extract 0 p)) ((i + 1 : Nat) : Int)) (fun k => ?_) IH
    have q0 : (i : Int) < (n : Int) := by omega
    have q1 : (0 : Int) ≤ (i : Int) := by omega
    have q2 : (i : Int) < (a.length : Int) := by omega
    have q3 : (0 : Int) ≤ ((p + 1 : Nat) : Int) := by omega
    have q4 : ((p + 1 : Nat) : Int) ≤ (x.size : Int) := by omega
    have q5 : (0 : Int) ≤ (p : Int) := by omega
    have q6 : (p : Int) ≤ (x.size : Int) := by omega
    have q7 : ¬ ((p : Int) < 0) := by omega
    have hp_ : p ≤ 4611686018427387904 := by omega
    have hi_ : i ≤ 4611686018427387904 := by omega
    have wi := w_up i hi_
    have w1 := w_one p hp_
    have w0 := w_zero p hp_
    simp only [strings_genSplit.l0]
    rw [if_pos q0, ix, Option.bind_some, h2, if_neg q7, w0, if_pos q5, if_pos q6, if_pos q1, if_pos q2, w1, if_pos q3, if_pos q4, wi, Int.toNat_natCast, Int.toNat_natCast, Int.toNat_natCast]
theorem split_impl (s : ByteArray) (hs : s.size ≤ 1099511627776) : Ev (fun k => strings_Split.f k s (⟨#[47]⟩ : ByteArray)) (pieces s) := by
  have hl := size_list s
  have hle : s.data.toList.count 47 ≤ s.size := by rw [hl]; exact List.count_le_length
  have h := split_l0 (s.data.toList.count 47) (by omega) (s.data.toList.count 47) 0 s (List.replicate (s.data.toList.count 47 + 1) (⟨#[]⟩ : ByteArray)) rfl (by omega) (by simp) (by omega)
  have ct : strings_Count.f s (⟨#[47]⟩ : ByteArray) = some ((s.data.toList.count 47 : Nat) : Int) := if_pos rfl
  have en : wrap64 (((s.data.toList.count 47 : Nat) : Int) + 1) = ((s.data.toList.count 47 + 1 : Nat) : Int) := by rw [wrap_id (by omega) (by omega)]; omega
  have hm : mn ((s.data.toList.count 47 + 1 : Nat) : Int) (wrap64 ((s.size : Int) + 1)) = ((s.data.toList.count 47 + 1 : Nat) : Int) := by
    rw [wrap_id (by omega) (by omega)]
    unfold mn
    by_cases h : (s.size : Int) + 1 < ((s.data.toList.count 47 + 1 : Nat) : Int)
    · omega
    · rw [if_neg h]
  have hm1 : wrap64 (((s.data.toList.count 47 + 1 : Nat) : Int) - 1) = ((s.data.toList.count 47 : Nat) : Int) := by rw [wrap_id (by omega) (by omega)]; omega
  rw [List.take_zero, List.nil_append] at h
  unfold strings_Split.f
  refine ev_call (a := pieces s) ?_ (Ev.now _)
  unfold strings_genSplit.f
  refine ev_cong (fun k => (if_neg (by omega)).trans ((if_neg (by rw [tl]; simp)).trans (if_pos (by omega)))) ?_
  simp only [ct, Option.bind_some, en]
  refine ev_step _ (fun k => ?_) h
  simp only [strings_genSplit.j0]; rw [hm, if_pos (by omega), if_pos (by omega), hm1, Int.toNat_natCast]; rfl
end Go.Proofs.YtegggpipggniaaaDoor.Pure

/- What is wrong with a path: by the program and by the reference the same, for every text. -/
namespace Go.Proofs.YtegggpipggniaaaDoor.Pure
open Go.RowKit Go.Proofs.YtegggpipggniaaaDoor.Qa Go.Proofs.YtegggpipggniaaaDoorW.PrintWords Go.Proofs.YtegggpipggniaaaDoorW.PrintLast Go.Proofs.YtegggpipggniaaaDoor.Aid

theorem splF_size (l : List UInt8) : ∀ P, ∀ x ∈ splF P l, x.length ≤ P.length + l.length := by
  induction l with
  | nil => intro P x hx; rw [splF, List.mem_singleton] at hx; subst hx; omega
  | cons c l ih =>
    intro P x hx
    unfold splF at hx
    by_cases h : c = 47
    · rw [if_pos h] at hx
      rcases List.mem_cons.1 hx with rfl | hx
      · omega
      · have := ih [] x hx; simp at this ⊢; omega
    · rw [if_neg h] at hx
      have := ih _ x hx
      simp at this ⊢
      omega
theorem pieces_size (s : ByteArray) : ∀ x ∈ pieces s, x.size ≤ s.size := by
  intro x hx
  obtain ⟨l, hl, rfl⟩ := List.mem_map.1 hx
  have := splF_size s.data.toList [] l hl
  have e : (mkB l).size = l.length := rfl
  rw [List.length_nil] at this
  rw [e, size_list s]
  omega
def headR (s : ByteArray) : ByteArray := rdOf ByteArray.empty (pieces s) 0
def namesR (s : ByteArray) : List ByteArray × Bool :=
  if s.data.toList = [47] then ([], true) else if (pieces s).length < 2 then ([], false) else if (headR s).data.toList = [] then (if ((pieces s).drop 1).all nameB = true then ((pieces s).drop 1, true) else ([], false)) else ([], false)
def faultR (s : ByteArray) : Int :=
  if 24 < s.size then 2 else if s.data.toList = [47] then 0 else if 5 < (pieces s).length then 2 else if (namesR s).2 = true then 0 else 5
theorem head_bne (s : ByteArray) : ((rdOf ByteArray.empty (pieces s) 0).toList != ([] : List UInt8)) = !decide ((headR s).data.toList = []) := by
  unfold headR
  rw [tl]
  by_cases h : (rdOf ByteArray.empty (pieces s) 0).data.toList = []
  · rw [h]; rfl
  · rw [decide_eq_false h]
    exact bne_iff_ne.2 h
theorem fault_l0 (W : List ByteArray) (hW : ∀ x ∈ W, x.size ≤ 1048576) (hl : W.length ≤ 1048576) (d : Nat) : ∀ (i : Nat), i + d = W.length → Ev (fun k => impl_PathFault.l0 k W (W.length : Int) (i : Int)) (if (W.drop i).all nameB = true then 0 else 5) := by
  induction d with
  | zero =>
    intro i h
    rw [drop_end (by omega)]
    exact ev_done fun k => by simp only [impl_PathFault.l0]; rw [if_neg (by omega)]; rfl
  | succ d ih =>
    intro i h
    have hi : i < W.length := by omega
    have hx := hW W[i] (List.getElem_mem hi)
    rw [drop_at hi, List.all_cons]
    refine ev_step _ (fun k => by simp only [impl_PathFault.l0]; rw [if_pos (by omega), if_pos (by omega), if_pos (by omega), rdOf_at hi, wrap_up hi (by omega)]) (ev_call (name_impl W[i] (by omega)) ?_)
    cases c : nameB W[i] with
    | true => exact ev_cong (fun k => if_pos rfl) (by rw [Bool.true_and]; exact ih (i + 1) (by omega))
    | false => exact ev_is fun k => if_neg (by simp)
theorem names_l0 (W : List ByteArray) (hW : ∀ x ∈ W, x.size ≤ 1048576) (hl : W.length ≤ 1048576) (h1 : 1 ≤ W.length) (d : Nat) : ∀ (i : Nat), i + d = W.length → Ev (fun k => spec_l1Names.l0 k W (i : Int)) (if (W.drop i).all nameB = true then (W.drop 1, true) else ([], false)) := by
  induction d with
  | zero =>
    intro i h
    rw [drop_end (by omega)]
    exact ev_done fun k => by simp only [spec_l1Names.l0]; rw [if_neg (by omega), if_pos (by omega)]; rfl
  | succ d ih =>
    intro i h
    have hi : i < W.length := by omega
    have hx := hW W[i] (List.getElem_mem hi)
    rw [drop_at hi, List.all_cons]
    refine ev_step _ (fun k => by simp only [spec_l1Names.l0]; rw [if_pos (by omega), if_pos (by omega), rdOf_at hi, wrap_up hi (by omega)]) (ev_call (name_spec W[i] (by omega)) ?_)
    cases c : nameB W[i] with
    | true => exact ev_cong (fun k => if_pos rfl) (by rw [Bool.true_and]; exact ih (i + 1) (by omega))
    | false => exact ev_is fun k => if_neg (by simp)
theorem pieces_le (s : ByteArray) : (pieces s).length ≤ s.size + 1 := by
  have : s.data.toList.count 47 ≤ s.data.toList.length := List.count_le_length
  rw [pieces_len, size_list]
  omega
theorem names_spec (s : ByteArray) (hs : s.size ≤ 24) : Ev (fun k => spec_l1Names.f k s) (namesR s) := by
  have hl := pieces_le s
  unfold spec_l1Names.f namesR
  by_cases h : s.data.toList = [47]
  · rw [if_pos h]
    exact ev_is fun k => if_pos (by rw [tl]; exact h)
  · rw [if_neg h]
    refine ev_cong (fun k => if_neg (by rw [tl]; exact h)) (ev_call (cut_spec s (by omega)) ?_)
    by_cases h2 : (pieces s).length < 2
    · rw [if_pos h2]
      exact ev_cong (fun k => if_pos (by omega)) (ev_done fun k => by simp only [spec_l1Names.j0]; exact if_pos trivial)
    · rw [if_neg h2]
      refine ev_cong (fun k => (if_neg (by omega)).trans (if_pos (by omega))) ?_
      rw [head_bne]
      by_cases h3 : (headR s).data.toList = []
      · rw [if_pos h3]
        refine ev_step _ (fun k => by simp only [spec_l1Names.j0]; rw [if_neg (by simp [h3])]) ?_
        exact names_l0 (pieces s) (fun x hx => by have := pieces_size s x hx; omega) (by omega) (by omega) ((pieces s).length - 1) 1 (by omega)
      · rw [if_neg h3]
        exact ev_done fun k => by simp only [spec_l1Names.j0]; exact if_pos (by simp [h3])
theorem fault_spec (s : ByteArray) : Ev (fun k => spec_l1Fault.f k s) (faultR s) := by
  unfold spec_l1Fault.f faultR
  by_cases h : 24 < s.size
  · rw [if_pos h]
    exact ev_cong (fun k => if_pos (by omega)) (ev_done fun k => by simp only [spec_l1Fault.j0]; exact if_pos trivial)
  · rw [if_neg h]
    have tail : Ev (fun k => spec_l1Fault.j0 k s false) (if (namesR s).2 = true then 0 else 5) := by
      refine ev_step _ (fun k => by simp only [spec_l1Fault.j0]; rw [if_neg (by simp)]) (ev_call (names_spec s (by omega)) ?_)
      exact ev_is fun k => by by_cases h4 : (namesR s).2 = true <;> simp [h4]
    refine ev_cong (fun k => if_neg (by omega)) ?_
    by_cases h47 : s.data.toList = [47]
    · rw [if_pos h47]
      refine ev_cong (fun k => if_pos (by rw [tl]; exact h47)) ?_
      have e : (namesR s).2 = true := by unfold namesR; rw [if_pos h47]
      rw [if_pos e] at tail
      exact tail
    · rw [if_neg h47]
      refine ev_cong (fun k => if_neg (by rw [tl]; exact h47)) (ev_call (cut_spec s (by omega)) ?_)
      by_cases h5 : 5 < (pieces s).length
      · rw [if_pos h5, show decide (((pieces s).length : Int) > 5) = true from decide_eq_true (by omega)]
        exact ev_done fun k => by simp only [spec_l1Fault.j0]; exact if_pos trivial
      · rw [if_neg h5, show decide (((pieces s).length : Int) > 5) = false from decide_eq_false (by omega)]
        exact tail
theorem fault_impl (s : ByteArray) : Ev (fun k => impl_PathFault.f k s) (faultR s) := by
  unfold impl_PathFault.f faultR
  by_cases h : 24 < s.size
  · rw [if_pos h]
    exact ev_cong (fun k => if_pos (by omega)) (ev_done fun k => by simp only [impl_PathFault.j0]; exact if_pos trivial)
  · rw [if_neg h]
    have ct : strings_Count.f s (⟨#[47]⟩ : ByteArray) = some ((s.data.toList.count 47 : Nat) : Int) := if_pos rfl
    have pl := pieces_len s
    have hl := pieces_le s
    refine ev_cong (fun k => (if_neg (by omega)).trans (by rw [ct, Option.bind_some])) ?_
    by_cases h47 : s.data.toList = [47]
    · rw [if_pos h47, h47]
      refine ev_done fun k => ?_
      simp only [impl_PathFault.j0]; rw [if_neg (by decide), if_pos (by rw [tl]; exact h47)]
    · rw [if_neg h47]
      by_cases h5 : 5 < (pieces s).length
      · rw [if_pos h5, show decide (((s.data.toList.count 47 : Nat) : Int) > 4) = true from decide_eq_true (by omega)]
        exact ev_done fun k => by simp only [impl_PathFault.j0]; exact if_pos trivial
      · rw [if_neg h5, show decide (((s.data.toList.count 47 : Nat) : Int) > 4) = false from decide_eq_false (by omega)]
        refine ev_step _ (fun k => by simp only [impl_PathFault.j0]; rw [if_neg (by simp), if_neg (by rw [tl]; exact h47)]) (ev_call (split_impl s (by omega)) ?_)
        unfold namesR
        rw [if_neg h47]
        by_cases h2 : (pieces s).length < 2
        · rw [if_pos h2, if_neg (by simp)]
          exact ev_cong (fun k => if_pos (by omega)) (ev_done fun k => by simp only [impl_PathFault.j1]; exact if_pos trivial)
        · rw [if_neg h2]
          refine ev_cong (fun k => (if_neg (by omega)).trans (if_pos (by omega))) ?_
          rw [head_bne]
          by_cases h3 : (headR s).data.toList = []
          · rw [if_pos h3]
            refine ev_step _ (fun k => by simp only [impl_PathFault.j1]; rw [if_neg (by simp [h3]), if_pos (by omega), Option.bind_some]) ?_
            have := fault_l0 ((pieces s).drop 1) (fun x hx => by have := pieces_size s x (List.mem_of_mem_drop hx); omega) (by rw [List.length_drop]; omega) ((pieces s).drop 1).length 0 (by omega)
            rw [List.drop_zero] at this
            by_cases h6 : ((pieces s).drop 1).all nameB = true
            · rw [if_pos h6] at this ⊢; exact this
            · rw [if_neg h6] at this ⊢; exact this
          · rw [if_neg h3, if_neg (by simp)]
            exact ev_done fun k => by simp only [impl_PathFault.j1]; exact if_pos (by simp [h3])
/-- What is known of a path that has no fault. -/
theorem fault_zero {s : ByteArray} (h : faultR s = 0) : s.size ≤ 24 ∧ (s.data.toList = [47] ∨ s.data.toList ≠ [47] ∧ namesR s = ((pieces s).drop 1, true) ∧ 0 < s.data.toList.count 47) := by
  unfold faultR at h
  by_cases h1 : 24 < s.size
  · rw [if_pos h1] at h; omega
  · rw [if_neg h1] at h
    refine ⟨by omega, ?_⟩
    by_cases h2 : s.data.toList = [47]
    · exact .inl h2
    · rw [if_neg h2] at h
      refine .inr ⟨h2, ?_⟩
      by_cases h5 : 5 < (pieces s).length
      · rw [if_pos h5] at h; omega
      · rw [if_neg h5] at h
        have pl := pieces_len s
        by_cases h6 : (namesR s).2 = true
        · have h7 := h6
          unfold namesR at h6 ⊢
          rw [if_neg h2] at h6 ⊢
          by_cases h8 : (pieces s).length < 2
          · rw [if_pos h8] at h6; cases h6
          · rw [if_neg h8] at h6 ⊢
            by_cases h9 : (headR s).data.toList = []
            · rw [if_pos h9] at h6 ⊢
              by_cases h10 : ((pieces s).drop 1).all nameB = true
              · rw [if_pos h10]; exact ⟨rfl, by omega⟩
              · rw [if_neg h10] at h6; cases h6
            · rw [if_neg h9] at h6; cases h6
        · rw [if_neg h6] at h; omega
end Go.Proofs.YtegggpipggniaaaDoor.Pure

/- The last mark of a path: by the program (strings.LastIndex) and by the reference the same. -/
namespace Go.Proofs.YtegggpipggniaaaDoor.Pure
open Go.RowKit Go.Proofs.YtegggpipggniaaaDoor.Qa Go.Proofs.YtegggpipggniaaaDoorW.PrintWords Go.Proofs.YtegggpipggniaaaDoorW.PrintLast Go.Proofs.YtegggpipggniaaaDoor.Aid
theorem last_exists (l : List UInt8) (h : 0 < l.count 47) : ∃ (p : Nat) (hp : p < l.length), l[p] = 47 ∧ ∀ (j : Nat) (hj : j < l.length), p < j → l[j] ≠ 47 := by
  induction l with
  | nil => simp at h
  | cons c l ih =>
    by_cases h0 : 0 < l.count 47
    · obtain ⟨p, hp, h1, h2⟩ := ih h0
      refine ⟨p + 1, by simpa using hp, by simpa using h1, fun j hj hlt => ?_⟩
      cases j with
      | zero => omega
      | succ j => simpa using h2 j (by simpa using hj) (by omega)
    · have hc : c = 47 := by
        by_cases hc : c = 47
        · exact hc
        · rw [List.count_cons_of_ne (by simpa using hc)] at h
          exact absurd h h0
      refine ⟨0, by simp, by simpa using hc, fun j hj hlt => ?_⟩
      cases j with
      | zero => omega
      | succ j =>
        intro e
        have e' : l[j]'(by simpa using hj) = 47 := by simpa using e
        exact h0 (List.count_pos_iff.2 (e' ▸ List.getElem_mem _))
theorem ne_int {c : UInt8} (h : c ≠ 47) : ¬ ((c.toNat : Int) = 47) := fun e => h (by
  have e2 : c.toNat = 47 := by omega
  exact UInt8.toNat_inj.1 e2)
theorem last_spec_l0 (s : ByteArray) (hs : s.size ≤ 24) (p : Nat) (hp : p < s.data.toList.length) (h1 : s.data.toList[p] = 47) (h2 : ∀ (j : Nat) (hj : j < s.data.toList.length), p < j → s.data.toList[j] ≠ 47) (d : Nat) : ∀ (i : Nat) (x : Int), i + d = s.size → (p < i → x = (p : Int)) → Ev (fun k => spec_l1Last.l0 k s x (i : Int)) (p : Int) := by
  have hl := size_list s
  induction d with
  | zero =>
    intro i x h hx
    rw [hx (by omega)]
    exact ev_done fun k => by simp only [spec_l1Last.l0]; rw [if_neg (by omega)]
  | succ d ih =>
    intro i x h hx
    have hi : i < s.data.toList.length := by omega
    have q0 : (i : Int) < (s.size : Int) := by omega
    have q1 : (0 : Int) ≤ (i : Int) := by omega
    have wi := w_up i (by omega)
    by_cases c : s.data.toList[i] = 47
    · have hip : ¬ p < i := fun hlt => h2 i hi hlt c
      refine ev_step (fun k => spec_l1Last.l0 k s (i : Int) ((i + 1 : Nat) : Int)) (fun k => ?_) (ih (i + 1) (i : Int) (by omega) (fun hlt => by omega))
      simp only [spec_l1Last.l0]; rw [if_pos q0, if_pos q1, bt_at hi, c, if_pos (show ((UInt8.toNat 47 : Nat) : Int) = 47 from rfl), wi]
    · have hip : i ≠ p := fun e => c (by subst e; exact h1)
      refine ev_step (fun k => spec_l1Last.l0 k s x ((i + 1 : Nat) : Int)) (fun k => ?_) (ih (i + 1) x (by omega) (fun hlt => hx (by omega)))
      simp only [spec_l1Last.l0]; rw [if_pos q0, if_pos q1, bt_at hi, if_neg (ne_int c), wi]
theorem last_impl_l0 (s : ByteArray) (hs : s.size ≤ 24) (p : Nat) (hp : p < s.data.toList.length) (h1 : s.data.toList[p] = 47) (h2 : ∀ (j : Nat) (hj : j < s.data.toList.length), p < j → s.data.toList[j] ≠ 47) (d : Nat) : p + d < s.data.toList.length → Ev (fun k => bytealg_LastIndexByteString.l0 k s 47 ((p + d : Nat) : Int)) (p : Int) := by
  have hl := size_list s
  induction d with
  | zero =>
    intro _
    have q0 : ((p + 0 : Nat) : Int) < (s.size : Int) := by omega
    have q1 : (0 : Int) ≤ ((p + 0 : Nat) : Int) := by omega
    refine ev_done fun k => ?_
    simp only [bytealg_LastIndexByteString.l0]; rw [if_pos q1, if_pos q1, if_pos q0, bt_at (show p + 0 < s.data.toList.length from hp), if_pos (by simp only [Nat.add_zero, h1]; rfl)]
    rfl
  | succ d ih =>
    intro hd
    have q0 : ((p + (d + 1) : Nat) : Int) < (s.size : Int) := by omega
    have q1 : (0 : Int) ≤ ((p + (d + 1) : Nat) : Int) := by omega
    have wi : wrap64 (((p + (d + 1) : Nat) : Int) - 1) = ((p + d : Nat) : Int) := by rw [wrap_id (by omega) (by omega)]; omega
    refine ev_step (fun k => bytealg_LastIndexByteString.l0 k s 47 ((p + d : Nat) : Int)) (fun k => ?_) (ih (by omega))
    simp only [bytealg_LastIndexByteString.l0]; rw [if_pos q1, if_pos q1, if_pos q0, bt_at hd, if_neg (ne_int (h2 _ hd (by omega))), wi]
/-- Where the last mark is. -/
theorem last_both (s : ByteArray) (hs : s.size ≤ 24) (h : 0 < s.data.toList.count 47) : ∃ (p : Nat) (hp : p < s.data.toList.length), s.data.toList[p] = 47 ∧ Ev (fun k => spec_l1Last.f k s) (p : Int) ∧ Ev (fun k => strings_LastIndex.f k s (⟨#[47]⟩ : ByteArray)) (p : Int) := by
  have hl := size_list s
  obtain ⟨p, hp, h1, h2⟩ := last_exists _ h
  refine ⟨p, hp, h1, last_spec_l0 s hs p hp h1 h2 s.size 0 0 (by omega) (fun h => by omega), ?_⟩
  have hd := last_impl_l0 s hs p hp h1 h2 (s.data.toList.length - 1 - p) (by omega)
  have e : wrap64 ((s.size : Int) - 1) = ((p + (s.data.toList.length - 1 - p) : Nat) : Int) := by rw [wrap_id (by omega) (by omega)]; omega
  have e1 : ((⟨#[47]⟩ : ByteArray).size : Int) = 1 := rfl
  have e2 : bt (⟨#[47]⟩ : ByteArray) 0 = 47 := rfl
  unfold strings_LastIndex.f
  rw [e1, e2]
  refine ev_cong (fun k => (if_neg (by omega)).trans ((if_pos rfl).trans (if_pos (by omega)))) (ev_call (a := (p : Int)) ?_ (Ev.now _))
  unfold bytealg_LastIndexByteString.f
  rw [e]
  exact hd
theorem parted_both (s : ByteArray) (hs : s.size ≤ 24) (h : 0 < s.data.toList.count 47) : ∃ (u n : ByteArray), Ev (fun k => impl_parted.f k s) (u, n) ∧ (∃ p : Nat, p < s.size ∧ n = s.extract (p + 1) s.size ∧ u = (if p = 0 then (⟨#[47]⟩ : ByteArray) else s.extract 0 p) ∧ Ev (fun k => spec_l1Last.f k s) (p : Int)) := by
  have hl := size_list s
  obtain ⟨p, hp, h1, h2, h3⟩ := last_both s hs h
  have hz : s.extract 0 1 = mkB [s.data.toList[0]] := by
    rw [ext_mk]
    congr 1
    rw [show (1 : Nat) - 0 = 0 + 1 from rfl, List.drop_zero, List.take_succ_eq_append_getElem (by omega)]
    rfl
  refine ⟨if p = 0 then (⟨#[47]⟩ : ByteArray) else s.extract 0 p, s.extract (p + 1) s.size, ?_, p, by omega, rfl, rfl, h2⟩
  unfold impl_parted.f
  refine ev_call h3 (ev_is fun k => ?_)
  have wi := w_up p (by omega)
  have q3 : (0 : Int) ≤ ((p + 1 : Nat) : Int) := by omega
  have q4 : ((p + 1 : Nat) : Int) ≤ (s.size : Int) := by omega
  by_cases c : p = 0
  · subst c
    have m : mx ((0 : Nat) : Int) 1 = 1 := rfl
    rw [m, if_pos (by omega), if_pos (by omega), wi, if_pos q3, if_pos q4, if_pos rfl, show ((1 : Int).toNat) = 1 from rfl, hz, h1, Int.toNat_natCast]
    rfl
  · have m : mx (p : Int) 1 = (p : Int) := by unfold mx; rw [if_neg (by omega)]
    rw [m, if_pos (by omega), if_pos (by omega), wi, if_pos q3, if_pos q4, if_neg c, Int.toNat_natCast, Int.toNat_natCast]
end Go.Proofs.YtegggpipggniaaaDoor.Pure

/- Texts in order: what a comparison of two texts says of their bytes; searches in rising lists. -/
namespace Go.Proofs.YtegggpipggniaaaDoor.Aid
open Go.RowKit Go.Proofs.YtegggpipggniaaaDoorW.PrintWords

theorem u8_tri (a b : UInt8) (h1 : ¬ a < b) (h2 : ¬ b < a) : a = b := by
  have e1 : ¬ a.toNat < b.toNat := h1
  have e2 : ¬ b.toNat < a.toNat := h2
  exact UInt8.toNat_inj.1 (by omega)
theorem bl_lt : ∀ (x y : List UInt8), Op.bytesLess x y = decide (x < y)
  | [], [] => by simp [Op.bytesLess]
  | _ :: _, [] => by simp [Op.bytesLess]
  | [], _ :: _ => by simp [Op.bytesLess]
  | a :: x, b :: y => by
    rw [Op.bytesLess, bl_lt x y]
    rw [Bool.eq_iff_iff]
    simp [List.cons_lt_cons_iff]
theorem cmp_is : ∀ (x y : List UInt8), Lib.compareBytes x y = if x < y then -1 else if x = y then 0 else 1
  | [], [] => by simp [Lib.compareBytes]
  | _ :: _, [] => by simp [Lib.compareBytes]
  | [], _ :: _ => by simp [Lib.compareBytes]
  | a :: x, b :: y => by
    rw [Lib.compareBytes, cmp_is x y]
    by_cases h1 : a < b
    · rw [if_pos h1, if_pos (List.cons_lt_cons_iff.2 (.inl h1))]
    · rw [if_neg h1]
      by_cases h2 : b < a
      · have hne : a ≠ b := fun e => by subst e; exact h1 h2
        rw [if_pos h2, if_neg (fun h => by
          rcases List.cons_lt_cons_iff.1 h with h | ⟨h, _⟩
          · exact h1 h
          · exact hne h), if_neg (fun h => hne (List.cons.inj h).1)]
      · have e := u8_tri a b h1 h2
        subst e
        rw [if_neg h2]
        by_cases h3 : x < y
        · rw [if_pos h3, if_pos (List.cons_lt_cons_iff.2 (.inr ⟨rfl, h3⟩))]
        · have h5 : ¬ (a :: x < a :: y) := fun h => by
            rcases List.cons_lt_cons_iff.1 h with h | ⟨_, h⟩
            · exact h1 h
            · exact h3 h
          rw [if_neg h3, if_neg h5]
          by_cases h4 : x = y
          · subst h4
            rw [if_pos rfl, if_pos rfl]
          · have h6 : ¬ (a :: x = a :: y) := fun h => h4 (List.cons.inj h).2
            rw [if_neg h4, if_neg h6]
theorem lt_irr (x : List UInt8) : ¬ x < x := List.lt_irrefl x
theorem lt_tr {x y z : List UInt8} (h : x < y) (k : y < z) : x < z := List.lt_trans h k
theorem lt_tri {x y : List UInt8} (h : ¬ x < y) (k : ¬ x = y) : y < x := by
  have := cmp_is x y
  rw [if_neg h, if_neg k] at this
  rcases Decidable.em (y < x) with c | c
  · exact c
  · exact absurd (List.le_antisymm c h) k
theorem ba_ext {a b : ByteArray} (h : a.data.toList = b.data.toList) : a = b := by
  obtain ⟨⟨a⟩⟩ := a
  obtain ⟨⟨b⟩⟩ := b
  exact congrArg (fun l => (⟨⟨l⟩⟩ : ByteArray)) h
/-- The place of a key in a list that rises. -/
def posK {α : Type} (key : α → List UInt8) (l : List α) (q : List UInt8) : Nat := (l.takeWhile (fun z => decide (key z < q))).length
def hereK {α : Type} (key : α → List UInt8) (l : List α) (q : List UInt8) : Bool := match l[posK key l q]? with
  | some z => decide (key z = q)
  | none => false
def Rises {α : Type} (key : α → List UInt8) (l : List α) : Prop := l.Pairwise (fun x y => key x < key y)
theorem posK_le {α : Type} (key : α → List UInt8) (l : List α) (q : List UInt8) : posK key l q ≤ l.length := take_pos_le _ l
theorem posK_iff {α : Type} {key : α → List UInt8} {l : List α} (h : Rises key l) (q : List UInt8) (j : Nat) (hj : j < l.length) : key l[j] < q ↔ j < posK key l q := by
  have := take_pos (fun z : α => decide (key z < q)) l (h.imp (fun {x y} hxy hy => decide_eq_true (lt_tr hxy (of_decide_eq_true hy)))) j hj
  rw [decide_eq_true_eq] at this
  exact this
theorem hereK_lt {α : Type} {key : α → List UInt8} {l : List α} {q : List UInt8} (h : hereK key l q = true) : posK key l q < l.length := by
  unfold hereK at h
  cases hp : l[posK key l q]? with
  | none => rw [hp] at h; cases h
  | some s => exact (List.getElem?_eq_some_iff.1 hp).1
theorem hereK_eq {α : Type} {key : α → List UInt8} {l : List α} {q : List UInt8} (h : hereK key l q = true) : key (l[posK key l q]'(hereK_lt h)) = q := by
  have hp := hereK_lt h
  unfold hereK at h
  rw [List.getElem?_eq_getElem hp] at h
  exact of_decide_eq_true h
theorem hereK_at {α : Type} {key : α → List UInt8} {l : List α} (h : Rises key l) (j : Nat) (hj : j < l.length) : posK key l (key l[j]) = j ∧ hereK key l (key l[j]) = true := by
  have h1 := (posK_iff h (key l[j]) j hj)
  have h2 : ¬ j < posK key l (key l[j]) := fun c => lt_irr _ (h1.2 c)
  have h3 : ¬ posK key l (key l[j]) < j := fun c => by
    have hp : posK key l (key l[j]) < l.length := by omega
    have := (List.pairwise_iff_getElem.1 h) _ _ hp hj c
    have := (posK_iff h (key l[j]) _ hp).1 this
    omega
  have e : posK key l (key l[j]) = j := by omega
  refine ⟨e, ?_⟩
  unfold hereK
  rw [e, List.getElem?_eq_getElem hj]
  exact decide_eq_true rfl
theorem hereK_mem {α : Type} {key : α → List UInt8} {l : List α} (h : Rises key l) {z : α} (hz : z ∈ l) : hereK key l (key z) = true := by
  obtain ⟨j, hj, rfl⟩ := List.getElem_of_mem hz
  exact (hereK_at h j hj).2
/-- Behind its place all are greater. -/
theorem posK_gt {α : Type} {key : α → List UInt8} {l : List α} (h : Rises key l) (q : List UInt8) (hq : hereK key l q = false) (j : Nat) (hj : j < l.length) : key l[j] ≠ q := by
  intro e
  have := (hereK_at h j hj).2
  rw [e, hq] at this
  cases this
end Go.Proofs.YtegggpipggniaaaDoor.Aid

/- What is wrong with a tree, in plain words of lists; paths' parents. -/
namespace Go.Proofs.YtegggpipggniaaaDoor.Pure
open Go.RowKit Go.Proofs.YtegggpipggniaaaDoor.Qa Go.Proofs.YtegggpipggniaaaDoorW.PrintWords Go.Proofs.YtegggpipggniaaaDoorW.PrintLast Go.Proofs.YtegggpipggniaaaDoor.Aid

theorem splF_head : ∀ (l P : List UInt8), P ≠ [] → ∃ x r, splF P l = x :: r ∧ x ≠ []
  | [], P, h => ⟨P, [], rfl, h⟩
  | c :: l, P, h => by
    unfold splF
    by_cases hc : c = 47
    · rw [if_pos hc]; exact ⟨P, _, rfl, h⟩
    · rw [if_neg hc]; exact splF_head l _ (by simp)
/-- A path that has no fault begins with a mark. -/
theorem path_mark {s : ByteArray} (h : faultR s = 0) : s.size ≤ 24 ∧ (∃ t, s.data.toList = 47 :: t) ∧ 0 < s.data.toList.count 47 := by
  have hl := size_list s
  obtain ⟨h1, h2⟩ := fault_zero h
  refine ⟨h1, ?_⟩
  rcases h2 with h2 | ⟨h2, h3, h4⟩
  · rw [h2]; exact ⟨⟨[], rfl⟩, by decide⟩
  · refine ⟨?_, h4⟩
    have hn : (namesR s).2 = true := by rw [h3]
    unfold namesR at hn
    rw [if_neg h2] at hn
    by_cases h5 : (pieces s).length < 2
    · rw [if_pos h5] at hn; cases hn
    · rw [if_neg h5] at hn
      by_cases h6 : (headR s).data.toList = []
      · cases hs : s.data.toList with
        | nil => rw [hs] at h4; simp at h4
        | cons c t =>
          by_cases hc : c = 47
          · exact ⟨t, by rw [hc]⟩
          · exfalso
            obtain ⟨x, r, hx, hne⟩ := splF_head t [c] (by simp)
            have e : pieces s = (x :: r).map mkB := by
              unfold pieces
              rw [hs, splF, if_neg hc, List.nil_append, hx]
            unfold headR at h6
            rw [e, List.map_cons] at h6
            exact hne h6
      · rw [if_neg h6] at hn; cases hn

/-- The parent and the last name of a path. -/
theorem up_ex (s : ByteArray) (h : faultR s = 0) : ∃ un : ByteArray × ByteArray, Ev (fun k => impl_parted.f k s) un ∧ ∃ p : Nat, p < s.size ∧ un.2 = s.extract (p + 1) s.size ∧ un.1 = (if p = 0 then (⟨#[47]⟩ : ByteArray) else s.extract 0 p) ∧ Ev (fun k => spec_l1Last.f k s) (p : Int) := by
  obtain ⟨h1, _, h3⟩ := path_mark h
  obtain ⟨u, n, h4, p, h5⟩ := parted_both s h1 h3
  exact ⟨(u, n), h4, p, h5⟩
open Classical in
noncomputable def upN (s : ByteArray) : ByteArray × ByteArray := if h : faultR s = 0 then (up_ex s h).choose else (⟨#[]⟩, ⟨#[]⟩)
noncomputable def upR (s : ByteArray) : ByteArray := (upN s).1
noncomputable def nmR (s : ByteArray) : ByteArray := (upN s).2
theorem upN_spec {s : ByteArray} (h : faultR s = 0) : Ev (fun k => impl_parted.f k s) (upN s) ∧ ∃ p : Nat, p < s.size ∧ nmR s = s.extract (p + 1) s.size ∧ upR s = (if p = 0 then (⟨#[47]⟩ : ByteArray) else s.extract 0 p) ∧ Ev (fun k => spec_l1Last.f k s) (p : Int) := by
  unfold nmR upR upN
  rw [dif_pos h]
  exact (up_ex s h).choose_spec
theorem parted_is {s : ByteArray} (h : faultR s = 0) : Ev (fun k => impl_parted.f k s) (upR s, nmR s) := (upN_spec h).1
theorem parent_is {s : ByteArray} (h : faultR s = 0) : Ev (fun k => spec_l1Parent.f k s) (upR s) := by
  obtain ⟨_, p, h6, _, h8, h9⟩ := upN_spec h
  unfold spec_l1Parent.f
  refine ev_call h9 (ev_is fun k => ?_)
  rw [h8]
  by_cases c : p = 0
  · rw [if_pos (by omega), if_pos c]
  · rw [if_neg (by omega), if_pos (by omega), if_pos (by omega), if_neg c, Int.toNat_natCast]
theorem upR_size {s : ByteArray} (h : faultR s = 0) : (upR s).size ≤ 24 ∧ (nmR s).size ≤ 24 := by
  obtain ⟨_, p, h6, h7, h8, _⟩ := upN_spec h
  have := (path_mark h).1
  have sz : ∀ a b : Nat, b ≤ 24 → (s.extract a b).size ≤ 24 := fun a b hb => by
    rw [size_list, ext_list, List.length_take, List.length_drop]
    omega
  rw [h7, h8]
  refine ⟨?_, sz _ _ this⟩
  by_cases c : p = 0
  · rw [if_pos c]; decide
  · rw [if_neg c]; exact sz _ _ (by omega)
theorem top_fault : faultR (⟨#[47]⟩ : ByteArray) = 0 := by unfold faultR; decide
theorem upR_top (s : ByteArray) (hs : s.data.toList = [47]) : upR s = (⟨#[47]⟩ : ByteArray) := by
  have h : faultR s = 0 := by unfold faultR; rw [if_neg (by rw [size_list, hs]; decide), if_pos hs]
  obtain ⟨_, p, h6, _, h8, _⟩ := upN_spec h
  rw [size_list, hs] at h6
  rw [h8, if_pos (by simpa using h6)]

abbrev ZZ := S32
def pk (z : ZZ) : List UInt8 := z.f0.data.toList
def zIn (z : ZZ) : Bool := decide (0 ≤ z.f1 ∧ z.f1 ≤ 9999) && (decide (0 ≤ z.f2 ∧ z.f2 ≤ 999) && (decide (0 ≤ z.f3 ∧ z.f3 ≤ 9) && decide (0 ≤ z.f4 ∧ z.f4 ≤ 100)))
/-- What is wrong with one node. -/
def zOwn (z : ZZ) : Int := if faultR z.f0 = 0 then (if zIn z = true then 0 else 3) else faultR z.f0
def zOne (prev : Option (List UInt8)) (z : ZZ) : Int := if zOwn z = 0 then (match prev with
  | some p => if p < pk z then 0 else 1
  | none => 0) else zOwn z
def zFrom : Option (List UInt8) → List ZZ → Int
  | _, [] => 0
  | prev, z :: r => if zOne prev z = 0 then zFrom (some (pk z)) r else zOne prev z
theorem zFrom_cons {prev : Option (List UInt8)} {z : ZZ} {r : List ZZ} : zFrom prev (z :: r) = if zOne prev z = 0 then zFrom (some (pk z)) r else zOne prev z := rfl
theorem zOwn_ok {z : ZZ} (h : zOwn z = 0) : faultR z.f0 = 0 ∧ zIn z = true := by
  unfold zOwn at h
  by_cases h1 : faultR z.f0 = 0
  · rw [if_pos h1] at h
    by_cases h2 : zIn z = true
    · exact ⟨h1, h2⟩
    · rw [if_neg h2] at h; cases h
  · rw [if_neg h1] at h; exact absurd h h1
theorem zFrom_ok : ∀ (l : List ZZ) (prev : Option (List UInt8)), zFrom prev l = 0 → (∀ z ∈ l, zOwn z = 0) ∧ Rises pk l ∧ ∀ p, prev = some p → ∀ z ∈ l, p < pk z
  | [], _, _ => ⟨by simp, List.Pairwise.nil, by simp⟩
  | z :: r, prev, h => by
    rw [zFrom_cons] at h
    by_cases h1 : zOne prev z = 0
    · rw [if_pos h1] at h
      obtain ⟨g1, g2, g3⟩ := zFrom_ok r (some (pk z)) h
      have hg : zOwn z = 0 := by
        unfold zOne at h1
        by_cases c : zOwn z = 0
        · exact c
        · rw [if_neg c] at h1; exact h1
      have hp : ∀ p, prev = some p → p < pk z := by
        intro p hp
        subst hp
        unfold zOne at h1
        rw [if_pos hg] at h1
        by_cases c : p < pk z
        · exact c
        · simp [c] at h1
      refine ⟨?_, List.pairwise_cons.2 ⟨fun y hy => g3 _ rfl y hy, g2⟩, ?_⟩
      · intro x hx
        rcases List.mem_cons.1 hx with rfl | hx
        · exact hg
        · exact g1 x hx
      · intro p he x hx
        rcases List.mem_cons.1 hx with rfl | hx
        · exact hp p he
        · exact lt_tr (hp p he) (g3 _ rfl x hx)
    · rw [if_neg h1] at h; exact absurd h h1
noncomputable def upK (z : ZZ) : List UInt8 := (upR z.f0).data.toList
noncomputable def upHere (l : List ZZ) (z : ZZ) : Bool := hereK pk l (upK z)
noncomputable def upOwn (l : List ZZ) (z : ZZ) : Bool := !decide ((rd_T32 l (posK pk l (upK z) : Int)).f3 = 0)
/-- What is wrong with a tree. -/
noncomputable def treeR (l : List ZZ) : Int :=
  if l.length > 20 then 2 else if zFrom none l = 0 then
    (if hereK pk l [47] = true then (if l.all (upHere l) = true then (if l.any (upOwn l) = true then 1 else 0) else 4) else 4)
  else zFrom none l
/-- A tree that has no fault. -/
structure RightT (l : List ZZ) : Prop where
  few : l.length ≤ 20
  good : ∀ z ∈ l, zOwn z = 0
  rise : Rises pk l
  top : hereK pk l [47] = true
  ups : ∀ z ∈ l, upHere l z = true
  free : ∀ z ∈ l, upOwn l z = false
theorem right_of {l : List ZZ} (h : treeR l = 0) : RightT l := by
  unfold treeR at h
  by_cases h1 : l.length > 20
  · rw [if_pos h1] at h; cases h
  · rw [if_neg h1] at h
    by_cases h2 : zFrom none l = 0
    · rw [if_pos h2] at h
      obtain ⟨g1, g2, _⟩ := zFrom_ok l none h2
      by_cases h3 : hereK pk l [47] = true
      · rw [if_pos h3] at h
        by_cases h4 : l.all (upHere l) = true
        · rw [if_pos h4] at h
          by_cases h5 : l.any (upOwn l) = true
          · rw [if_pos h5] at h; cases h
          · refine ⟨by omega, g1, g2, h3, List.all_eq_true.1 h4, fun z hz => ?_⟩
            cases c : upOwn l z with
            | false => rfl
            | true => exact absurd (List.any_eq_true.2 ⟨z, hz, c⟩) h5
        · rw [if_neg h4] at h; cases h
      · rw [if_neg h3] at h; cases h
    · rw [if_neg h2] at h; exact absurd h h2
theorem RightT.zero {l : List ZZ} (h : RightT l) (hz : zFrom none l = 0) : treeR l = 0 := by
  unfold treeR
  rw [if_neg (by have := h.few; omega), if_pos hz, if_pos h.top, if_pos (List.all_eq_true.2 h.ups), if_neg (fun c => by
    obtain ⟨z, hz, c⟩ := List.any_eq_true.1 c
    rw [h.free z hz] at c
    cases c)]
theorem top_first {l : List ZZ} (hg : ∀ z ∈ l, zOwn z = 0) (hr : Rises pk l) (h : hereK pk l [47] = true) : posK pk l [47] = 0 := by
  have hp := hereK_lt h
  have h0 : 0 < l.length := by omega
  have hn : ¬ pk l[0] < [47] := by
    obtain ⟨_, ⟨t, ht⟩, _⟩ := path_mark (zOwn_ok (hg _ (List.getElem_mem h0))).1
    unfold pk
    rw [ht]
    intro c
    rcases List.cons_lt_cons_iff.1 c with c | ⟨_, c⟩
    · exact UInt8.lt_irrefl _ c
    · exact absurd c (by simp)
  have := (not_congr (posK_iff hr [47] 0 h0)).1 hn
  omega
end Go.Proofs.YtegggpipggniaaaDoor.Pure

/- What is wrong with a tree: by the program (a search by halves) and by the reference (one by one) the same, for every list of nodes. -/
namespace Go.Proofs.YtegggpipggniaaaDoor.Pure
open Go.RowKit Go.Proofs.YtegggpipggniaaaDoor.Qa Go.Proofs.YtegggpipggniaaaDoorW.PrintWords Go.Proofs.YtegggpipggniaaaDoorW.PrintLast Go.Proofs.YtegggpipggniaaaDoor.Aid

theorem bl_pk (a b : ByteArray) : (Op.bytesLess a.toList b.toList = true) = (a.data.toList < b.data.toList) := by
  rw [tl, tl, bl_lt]
  exact decide_eq_true_eq
theorem order_is (z : ZZ) (q : ByteArray) : impl_pathOrder.f z.f0 z.f1 z.f2 z.f3 z.f4 q = some (if pk z < q.data.toList then -1 else if pk z = q.data.toList then 0 else 1) := by
  unfold impl_pathOrder.f strings_Compare.f
  rw [cmp_is]
  rfl
/-- The search by halves. -/
theorem find_l0 {l : List ZZ} (h : Rises pk l) (hl : l.length ≤ 1048576000) (q : ByteArray) (d : Nat) : ∀ (lo hi : Nat), hi - lo ≤ d → lo ≤ posK pk l q.data.toList → posK pk l q.data.toList ≤ hi → hi ≤ l.length → Ev (fun k => slices_BinarySearchFunc_impl_Znode_impl_Znode_string.l0 k l q (l.length : Int) (lo : Int) (hi : Int)) ((posK pk l q.data.toList : Int), hereK pk l q.data.toList) := by
  induction d with
  | zero =>
    intro lo hi hd h1 h2 h3
    have e : lo = posK pk l q.data.toList := by omega
    subst e
    refine ev_done fun k => ?_
    simp only [slices_BinarySearchFunc_impl_Znode_impl_Znode_string.l0]
    rw [if_neg (by omega)]
    by_cases hp : posK pk l q.data.toList < l.length
    · rw [if_pos (by omega), if_pos (by omega), if_pos (by omega), rd_T32_at hp, order_is, Option.bind_some]
      have hn : ¬ pk (l[posK pk l q.data.toList]) < q.data.toList := fun c => by have := (posK_iff h q.data.toList _ hp).1 c; omega
      have e : hereK pk l q.data.toList = decide (pk (l[posK pk l q.data.toList]) = q.data.toList) := by unfold hereK; rw [List.getElem?_eq_getElem hp]
      rw [e, if_neg hn]
      by_cases c : pk (l[posK pk l q.data.toList]) = q.data.toList
      · rw [if_pos c, decide_eq_true c]; rfl
      · rw [if_neg c, decide_eq_false c]; rfl
    · rw [if_neg (by omega)]
      have e : hereK pk l q.data.toList = false := by unfold hereK; rw [List.getElem?_eq_none (by omega)]
      rw [e]
  | succ d ih =>
    intro lo hi hd h1 h2 h3
    by_cases hlt : lo < hi
    · have hm : (lo + hi) / 2 < l.length := by omega
      have hiff := posK_iff h q.data.toList _ hm
      have hmid := mid_eq (a := lo) (b := hi) (by omega)
      by_cases c : pk (l[(lo + hi) / 2]) < q.data.toList
      · refine ev_step (fun k => slices_BinarySearchFunc_impl_Znode_impl_Znode_string.l0 k l q (l.length : Int) (((lo + hi) / 2 + 1 : Nat) : Int) (hi : Int)) (fun k => ?_) (ih _ _ (by omega) (by have := hiff.1 c; omega) h2 h3)
        simp only [slices_BinarySearchFunc_impl_Znode_impl_Znode_string.l0]
        rw [hmid, if_pos (by omega), if_pos (by omega), if_pos (by omega), rd_T32_at hm, order_is, if_pos c, Option.bind_some, if_pos (by omega), wrap_up hm (by omega)]
      · refine ev_step (fun k => slices_BinarySearchFunc_impl_Znode_impl_Znode_string.l0 k l q (l.length : Int) (lo : Int) (((lo + hi) / 2 : Nat) : Int)) (fun k => ?_) (ih _ _ (by omega) h1 (by have := (not_congr hiff).1 c; omega) (by omega))
        simp only [slices_BinarySearchFunc_impl_Znode_impl_Znode_string.l0]
        rw [hmid, if_pos (by omega), if_pos (by omega), if_pos (by omega), rd_T32_at hm, order_is, if_neg c, Option.bind_some, if_neg (by split <;> omega)]
    · exact (fun e : hi - lo ≤ d => ih lo hi e h1 h2 h3) (by omega)
theorem find_is {l : List ZZ} (h : Rises pk l) (hl : l.length ≤ 1048576000) (q : ByteArray) : Ev (fun k => impl_find.f k l q) ((posK pk l q.data.toList : Int), hereK pk l q.data.toList) := by
  unfold impl_find.f slices_BinarySearchFunc_impl_Znode_impl_Znode_string.f
  exact ev_call (find_l0 h hl q l.length 0 l.length (by omega) (by omega) (posK_le pk l _) (Nat.le_refl _)) (Ev.now _)
/-- One by one. -/
theorem at_l0 {l : List ZZ} (h : Rises pk l) (hl : l.length ≤ 1048576000) (q : ByteArray) (d : Nat) : ∀ (i : Nat), i + d = l.length → (hereK pk l q.data.toList = true → i ≤ posK pk l q.data.toList) → Ev (fun k => spec_l2At.l0 k l q (i : Int)) (if hereK pk l q.data.toList then (posK pk l q.data.toList : Int) else -1) := by
  induction d with
  | zero =>
    intro i hd hi
    have e : hereK pk l q.data.toList = false := by
      cases c : hereK pk l q.data.toList with
      | false => rfl
      | true => have := hereK_lt c; have := hi c; omega
    rw [e]
    exact ev_done fun k => by simp only [spec_l2At.l0]; rw [if_neg (by omega)]; rfl
  | succ d ih =>
    intro i hd hi
    have hil : i < l.length := by omega
    by_cases c : pk l[i] = q.data.toList
    · obtain ⟨e1, e2⟩ := hereK_at h i hil
      rw [c] at e1 e2
      rw [e2, e1]
      exact ev_done fun k => by simp only [spec_l2At.l0]; rw [if_pos (by omega), if_pos (by omega), rd_T32_at hil, tl, tl, if_pos (show (l[i]).f0.data.toList = q.data.toList from c)]; rfl
    · refine ev_step (fun k => spec_l2At.l0 k l q ((i + 1 : Nat) : Int)) (fun k => ?_) (ih (i + 1) (by omega) (fun hh => ?_))
      · simp only [spec_l2At.l0]; rw [if_pos (by omega), if_pos (by omega), rd_T32_at hil, tl, tl, if_neg (show ¬ (l[i]).f0.data.toList = q.data.toList from c), wrap_up hil (by omega)]
      · have h1 := hi hh
        have h2 := hereK_eq hh
        have : i ≠ posK pk l q.data.toList := fun e => c (by
          have : ∀ (j : Nat) (hj : j < l.length), i = j → pk l[j] = q.data.toList → pk l[i] = q.data.toList := fun j hj e => by subst e; exact id
          exact this _ (hereK_lt hh) e h2)
        omega
theorem at_is {l : List ZZ} (h : Rises pk l) (hl : l.length ≤ 1048576000) (q : ByteArray) : Ev (fun k => spec_l2At.f k l q) (if hereK pk l q.data.toList then (posK pk l q.data.toList : Int) else -1) := at_l0 h hl q l.length 0 (by omega) (fun _ => Nat.zero_le _)

/-- One node, by the program. -/
theorem nodeFault_is (z : ZZ) : Ev (fun k => impl_nodeFault.f k z.f0 z.f1 z.f2 z.f3 z.f4) (zOwn z) := by
  unfold impl_nodeFault.f zOwn
  refine ev_call (fault_impl z.f0) (ev_is fun k => ?_)
  by_cases h : faultR z.f0 = 0
  · rw [if_pos h, if_pos h]
    unfold impl_isData.f impl_isOwner.f zIn
    rw [impl_within_is, impl_within_is, impl_within_is, impl_within_is]
    by_cases c1 : 0 ≤ z.f1 ∧ z.f1 ≤ 9999 <;> by_cases c2 : 0 ≤ z.f2 ∧ z.f2 ≤ 999 <;> by_cases c3 : 0 ≤ z.f3 ∧ z.f3 ≤ 9 <;> by_cases c4 : 0 ≤ z.f4 ∧ z.f4 ≤ 100 <;> simp [c1, c2, c3, c4]
  · rw [if_neg h, if_neg h]
def prevK (l : List ZZ) : Nat → Option (List UInt8)
  | 0 => none
  | i + 1 => some (pk (rd_T32 l (i : Int)))
theorem wrap_dn {i : Nat} (h : i < 4611686018427387904) : wrap64 (((i + 1 : Nat) : Int) - 1) = (i : Int) := by
  rw [wrap_id (by omega) (by omega)]
  omega
/-- What is left when the nodes one by one are right. -/
theorem impl_l0 (l : List ZZ) (hl : l.length ≤ 20) (r : Int) (hr : zFrom none l = 0 → Ev (fun k => impl_TreeFault.l0 k l l (l.length : Int) (l.length : Int)) r) (d : Nat) : ∀ (i : Nat), i + d = l.length → (zFrom none l = zFrom (prevK l i) (l.drop i)) → Ev (fun k => impl_TreeFault.l0 k l l (l.length : Int) (i : Int)) (if zFrom none l = 0 then r else zFrom none l) := by
  induction d with
  | zero =>
    intro i h he
    have e : i = l.length := by omega
    subst e
    rw [List.drop_length] at he
    have h0 : zFrom none l = 0 := he
    rw [if_pos h0]
    exact hr h0
  | succ d ih =>
    intro i h he
    have hi : i < l.length := by omega
    have hrd := rd_T32_at hi
    rw [drop_at hi, zFrom_cons] at he
    have hp : prevK l (i + 1) = some (pk l[i]) := by rw [prevK, hrd]
    refine ev_step (fun k => (impl_nodeFault.f k (l[i]).f0 (l[i]).f1 (l[i]).f2 (l[i]).f3 (l[i]).f4).bind fun t103 => (if t103 = 0 then (if (i : Int) > 0 then (if 0 ≤ (wrap64 ((i : Int) - 1)) then (if (wrap64 ((i : Int) - 1)) < (l.length : Int) then (if ((Op.bytesLess (((rd_T32 l (wrap64 ((i : Int) - 1))).f0).toList) (((l[i]).f0).toList)) = true) then (impl_TreeFault.l0 k l l (l.length : Int) ((i + 1 : Nat) : Int)) else (some 1)) else (none)) else (none)) else (impl_TreeFault.l0 k l l (l.length : Int) ((i + 1 : Nat) : Int))) else (some t103))) (fun k => ?_) (ev_call (nodeFault_is l[i]) ?_)
    · simp only [impl_TreeFault.l0]
      rw [if_pos (by omega), if_pos (by omega), if_pos (by omega), hrd, wrap_up hi (by omega)]
    · by_cases ho : zOwn l[i] = 0
      · refine ev_cong (fun k => if_pos ho) ?_
        cases i with
        | zero =>
          have e1 : zOne (prevK l 0) l[0] = 0 := by unfold zOne; rw [if_pos ho]; rfl
          rw [if_pos e1] at he
          rw [← hp] at he
          exact ev_cong (fun k => if_neg (by omega)) (ih 1 (by omega) he)
        | succ j =>
          have hj : j < l.length := by omega
          have wd := wrap_dn (i := j) (by omega)
          refine ev_cong (fun k => (if_pos (by omega)).trans ?_) (f := fun k => if ((Op.bytesLess (((rd_T32 l (j : Int)).f0).toList) (((l[j + 1]).f0).toList)) = true) then (impl_TreeFault.l0 k l l (l.length : Int) ((j + 1 + 1 : Nat) : Int)) else (some 1)) ?_
          · rw [wd, if_pos (by omega), if_pos (by omega)]
          · by_cases c : pk (rd_T32 l (j : Int)) < pk l[j + 1]
            · have e1 : zOne (prevK l (j + 1)) l[j + 1] = 0 := by unfold zOne; rw [if_pos ho]; exact if_pos c
              rw [if_pos e1, ← hp] at he
              refine ev_cong (fun k => if_pos (by rw [bl_pk]; exact c)) (ih (j + 1 + 1) (by omega) he)
            · have e1 : zOne (prevK l (j + 1)) l[j + 1] = 1 := by unfold zOne; rw [if_pos ho]; exact if_neg c
              rw [e1, if_neg (by omega)] at he
              rw [he, if_neg (by omega)]
              exact ev_is fun k => if_neg (by rw [bl_pk]; exact c)
      · have e1 : zOne (prevK l i) l[i] = zOwn l[i] := by unfold zOne; rw [if_neg ho]
        rw [e1, if_neg ho] at he
        rw [he, if_neg ho]
        exact ev_is fun k => if_neg ho
theorem spec_l0 (l : List ZZ) (hl : l.length ≤ 20) (r : Int) (hr : zFrom none l = 0 → Ev (fun k => spec_l2Fault.l0 k l (l.length : Int)) r) (d : Nat) : ∀ (i : Nat), i + d = l.length → (zFrom none l = zFrom (prevK l i) (l.drop i)) → Ev (fun k => spec_l2Fault.l0 k l (i : Int)) (if zFrom none l = 0 then r else zFrom none l) := by
  induction d with
  | zero =>
    intro i h he
    have e : i = l.length := by omega
    subst e
    rw [List.drop_length] at he
    have h0 : zFrom none l = 0 := he
    rw [if_pos h0]
    exact hr h0
  | succ d ih =>
    intro i h he
    have hi : i < l.length := by omega
    have hrd := rd_T32_at hi
    rw [drop_at hi, zFrom_cons] at he
    have hp : prevK l (i + 1) = some (pk l[i]) := by rw [prevK, hrd]
    refine ev_step (fun k => (spec_l1Fault.f k (l[i]).f0).bind fun t103 => (if t103 = 0 then spec_l2Fault.j1 k l (i : Int) (!zIn l[i]) else (some t103))) (fun k => ?_) (ev_call (fault_spec (l[i]).f0) ?_)
    · simp only [spec_l2Fault.l0]
      rw [if_pos (by omega), if_pos (by omega), hrd]
      refine congrArg (fun z => Option.bind _ z) (funext fun t => ?_)
      unfold spec_l2Data.f spec_l2Owner.f zIn
      rw [spec_l1In_is, spec_l1In_is, spec_l1In_is, spec_l1In_is]
      by_cases c0 : t = 0
      · rw [if_pos c0, if_pos c0]
        by_cases c1 : 0 ≤ (l[i]).f1 ∧ (l[i]).f1 ≤ 9999 <;> by_cases c2 : 0 ≤ (l[i]).f2 ∧ (l[i]).f2 ≤ 999 <;> by_cases c3 : 0 ≤ (l[i]).f3 ∧ (l[i]).f3 ≤ 9 <;> by_cases c4 : 0 ≤ (l[i]).f4 ∧ (l[i]).f4 ≤ 100 <;> simp [c1, c2, c3, c4]
      · rw [if_neg c0, if_neg c0]
    · by_cases hf : faultR (l[i]).f0 = 0
      · refine ev_cong (fun k => if_pos hf) ?_
        cases hz : zIn l[i] with
        | false =>
          have ho : zOwn l[i] = 3 := by unfold zOwn; rw [if_pos hf, if_neg (by simp [hz])]
          have e1 : zOne (prevK l i) l[i] = 3 := by unfold zOne; rw [if_neg (by omega), ho]
          rw [e1, if_neg (by omega)] at he
          rw [he, if_neg (by omega)]
          exact ev_done fun k => by simp only [spec_l2Fault.j1]; exact if_pos rfl
        | true =>
          have ho : zOwn l[i] = 0 := by unfold zOwn; rw [if_pos hf, if_pos hz]
          cases i with
          | zero =>
            have e1 : zOne (prevK l 0) l[0] = 0 := by unfold zOne; rw [if_pos ho]; rfl
            rw [if_pos e1, ← hp] at he
            refine ev_step (fun k => spec_l2Fault.l0 k l ((0 + 1 : Nat) : Int)) (fun k => ?_) (ih 1 (by omega) he)
            simp only [spec_l2Fault.j1]; rw [if_neg (by simp), if_neg (by omega), wrap_up hi (by omega)]
          | succ j =>
            have hj : j < l.length := by omega
            have wd := wrap_dn (i := j) (by omega)
            by_cases c : pk (rd_T32 l (j : Int)) < pk l[j + 1]
            · have e1 : zOne (prevK l (j + 1)) l[j + 1] = 0 := by unfold zOne; rw [if_pos ho]; exact if_pos c
              rw [if_pos e1, ← hp] at he
              refine ev_step (fun k => spec_l2Fault.l0 k l ((j + 1 + 1 : Nat) : Int)) (fun k => ?_) (ih (j + 1 + 1) (by omega) he)
              simp only [spec_l2Fault.j1]; rw [if_neg (by simp), if_pos (by omega), if_pos (by omega), if_pos (by omega), wd, if_pos (by omega), if_pos (by omega), if_pos (by rw [hrd, bl_pk]; exact c), wrap_up hi (by omega)]
            · have e1 : zOne (prevK l (j + 1)) l[j + 1] = 1 := by unfold zOne; rw [if_pos ho]; exact if_neg c
              rw [e1, if_neg (by omega)] at he
              rw [he, if_neg (by omega)]
              exact ev_done fun k => by simp only [spec_l2Fault.j1]; rw [if_neg (by simp), if_pos (by omega), if_pos (by omega), if_pos (by omega), wd, if_pos (by omega), if_pos (by omega), if_neg (by rw [hrd, bl_pk]; exact c)]
      · have ho : zOwn l[i] = faultR (l[i]).f0 := by unfold zOwn; rw [if_neg hf]
        have e1 : zOne (prevK l i) l[i] = zOwn l[i] := by unfold zOne; rw [if_neg (by rw [ho]; exact hf)]
        rw [e1, ho, if_neg hf] at he
        rw [he, if_neg hf]
        exact ev_is fun k => if_neg hf
/-- The parents, by the reference: they are there .. -/
theorem spec_l1_ (l : List ZZ) (hg : ∀ z ∈ l, zOwn z = 0) (hR : Rises pk l) (hl : l.length ≤ 20) (r : Int) (hr : l.all (upHere l) = true → Ev (fun k => spec_l2Fault.l2 k l 0) r) (d : Nat) : ∀ (i : Nat), i + d = l.length → (l.all (upHere l) = (l.drop i).all (upHere l)) → Ev (fun k => spec_l2Fault.l1 k l (i : Int)) (if l.all (upHere l) = true then r else 4) := by
  induction d with
  | zero =>
    intro i h he
    rw [drop_end (by omega)] at he
    have he' : l.all (upHere l) = true := he
    rw [if_pos he']
    refine ev_step _ (fun k => ?_) (hr he')
    simp only [spec_l2Fault.l1]; rw [if_neg (by omega)]
  | succ d ih =>
    intro i h he
    have hi : i < l.length := by omega
    have hrd := rd_T32_at hi
    rw [drop_at hi, List.all_cons] at he
    have hgi := zOwn_ok (hg _ (List.getElem_mem hi))
    refine ev_step (fun k => (spec_l1Parent.f k (l[i]).f0).bind fun t116 => ((spec_l2At.f k l t116).bind fun t117 => (if t117 < 0 then (some 4) else (spec_l2Fault.l1 k l ((i + 1 : Nat) : Int))))) (fun k => ?_) (ev_call (parent_is hgi.1) (ev_call (at_is hR (by omega) (upR (l[i]).f0)) ?_))
    · simp only [spec_l2Fault.l1]; rw [if_pos (by omega), if_pos (by omega), hrd, wrap_up hi (by omega)]
    · have e : hereK pk l (upR (l[i]).f0).data.toList = upHere l l[i] := rfl
      rw [e]
      cases c : upHere l l[i] with
      | true =>
        rw [c, Bool.true_and] at he
        exact ev_cong (fun k => if_neg (by rw [if_pos rfl]; omega)) (ih (i + 1) (by omega) he)
      | false =>
        rw [c, Bool.false_and] at he
        rw [he, if_neg (by simp)]
        exact ev_is fun k => if_pos (by simp)
/-- .. and nobody's. -/
theorem spec_l2_ (l : List ZZ) (hg : ∀ z ∈ l, zOwn z = 0) (hR : Rises pk l) (hl : l.length ≤ 20) (hA : l.all (upHere l) = true) (d : Nat) : ∀ (i : Nat), i + d = l.length → (l.any (upOwn l) = (l.drop i).any (upOwn l)) → Ev (fun k => spec_l2Fault.l2 k l (i : Int)) (if l.any (upOwn l) = true then 1 else 0) := by
  induction d with
  | zero =>
    intro i h he
    rw [drop_end (by omega)] at he
    have he' : l.any (upOwn l) = false := he
    rw [he', if_neg (by simp)]
    exact ev_done fun k => by simp only [spec_l2Fault.l2]; rw [if_neg (by omega)]
  | succ d ih =>
    intro i h he
    have hi : i < l.length := by omega
    have hrd := rd_T32_at hi
    rw [drop_at hi, List.any_cons] at he
    have hgi := zOwn_ok (hg _ (List.getElem_mem hi))
    have hh : hereK pk l (upR (l[i]).f0).data.toList = true := List.all_eq_true.1 hA _ (List.getElem_mem hi)
    have hp := hereK_lt hh
    have ho : upOwn l l[i] = !decide ((rd_T32 l (posK pk l (upR (l[i]).f0).data.toList : Int)).f3 = 0) := rfl
    refine ev_step (fun k => (spec_l1Parent.f k (l[i]).f0).bind fun t119 => ((spec_l2At.f k l t119).bind fun t120 => (if 0 ≤ t120 then (if t120 < (l.length : Int) then (if ((rd_T32 l t120).f3) = 0 then (spec_l2Fault.l2 k l ((i + 1 : Nat) : Int)) else (some 1)) else (none)) else (none)))) (fun k => ?_) (ev_call (parent_is hgi.1) (ev_call (at_is hR (by omega) (upR (l[i]).f0)) ?_))
    · simp only [spec_l2Fault.l2]; rw [if_pos (by omega), if_pos (by omega), hrd, wrap_up hi (by omega)]
    · rw [hh]
      generalize hP : posK pk l (upR (l[i]).f0).data.toList = P at hp ho
      refine ev_cong (f := fun k => (if ((rd_T32 l (P : Int)).f3) = 0 then (spec_l2Fault.l2 k l ((i + 1 : Nat) : Int)) else (some 1))) (fun k => ?_) ?_
      · rw [if_pos rfl, if_pos (by omega), if_pos (by omega)]
      · by_cases c : (rd_T32 l (P : Int)).f3 = 0
        · have : upOwn l l[i] = false := by rw [ho, decide_eq_true c]; rfl
          rw [this, Bool.false_or] at he
          exact ev_cong (fun k => if_pos c) (ih (i + 1) (by omega) he)
        · have : upOwn l l[i] = true := by rw [ho, decide_eq_false c]; rfl
          rw [this, Bool.true_or] at he
          rw [he, if_pos rfl]
          exact ev_is fun k => if_neg c
theorem treeR_spec (l : List ZZ) : Ev (fun k => spec_l2Fault.f k l) (treeR l) := by
  unfold spec_l2Fault.f treeR
  by_cases h : l.length > 20
  · rw [if_pos h]
    exact ev_is fun k => if_pos (by omega)
  · rw [if_neg h]
    refine ev_cong (fun k => if_neg (by omega)) (spec_l0 l (by omega) _ (fun hz => ?_) l.length 0 (by omega) rfl)
    obtain ⟨hg, hR, _⟩ := zFrom_ok l none hz
    refine ev_step (fun k => (spec_l2At.f k l (⟨#[47]⟩ : ByteArray)).bind fun t114 => (if t114 < 0 then (some 4) else (spec_l2Fault.l1 k l 0))) (fun k => ?_) (ev_call (at_is hR (by omega) (⟨#[47]⟩ : ByteArray)) ?_)
    · simp only [spec_l2Fault.l0]; rw [if_neg (by omega)]
    · have e : (⟨#[47]⟩ : ByteArray).data.toList = [47] := rfl
      rw [e]
      cases c : hereK pk l [47] with
      | false =>
        rw [if_neg (by simp)]
        exact ev_is fun k => if_pos (by simp)
      | true =>
        rw [if_pos rfl]
        refine ev_cong (fun k => if_neg (by omega)) (spec_l1_ l hg hR (by omega) _ (fun hA => ?_) l.length 0 (by omega) rfl)
        exact spec_l2_ l hg hR (by omega) hA l.length 0 (by omega) rfl
/-- The parents, by the program: all but the first node's. -/
theorem impl_l1_ (l m : List ZZ) (hm : ∀ z ∈ m, zOwn z = 0) (hR : Rises pk l) (hl : l.length ≤ 20) (hml : m.length ≤ 20) (d : Nat) : ∀ (i : Nat) (b : Bool), i + d = m.length → Ev (fun k => impl_TreeFault.l1 k l b m (m.length : Int) (i : Int)) (if (m.drop i).all (upHere l) = true then (if (b || (m.drop i).any (upOwn l)) = true then 1 else 0) else 4) := by
  induction d with
  | zero =>
    intro i b h
    rw [drop_end (by omega)]
    refine ev_done fun k => ?_
    simp only [impl_TreeFault.l1]
    rw [if_neg (by omega), List.all_nil, if_pos rfl, List.any_nil, Bool.or_false]
    cases b <;> rfl
  | succ d ih =>
    intro i b h
    have hi : i < m.length := by omega
    have hrd := rd_T32_at hi
    have hgi := zOwn_ok (hm _ (List.getElem_mem hi))
    rw [drop_at hi, List.all_cons, List.any_cons]
    refine ev_step (fun k => (impl_parted.f k (m[i]).f0).bind fun bt114 => ((impl_find.f k l bt114.1).bind fun bt116 => (if bt116.2 = true then (if b = true then (impl_TreeFault.l1 k l true m (m.length : Int) ((i + 1 : Nat) : Int)) else (if 0 ≤ bt116.1 then (if bt116.1 < (l.length : Int) then (impl_TreeFault.l1 k l (((rd_T32 l bt116.1).f3) != 0) m (m.length : Int) ((i + 1 : Nat) : Int)) else (none)) else (none))) else (some 4)))) (fun k => ?_) (ev_call (parted_is hgi.1) (ev_call (find_is hR (by omega) (upR (m[i]).f0)) ?_))
    · simp only [impl_TreeFault.l1]; rw [if_pos (by omega), if_pos (by omega), if_pos (by omega), hrd, wrap_up hi (by omega)]
    · have e : hereK pk l (upR (m[i]).f0).data.toList = upHere l m[i] := rfl
      have ho : upOwn l m[i] = !decide ((rd_T32 l (posK pk l (upR (m[i]).f0).data.toList : Int)).f3 = 0) := rfl
      have hp : upHere l m[i] = true → posK pk l (upR (m[i]).f0).data.toList < l.length := fun c => hereK_lt c
      generalize hP : posK pk l (upR (m[i]).f0).data.toList = P at ho hp
      rw [e]
      cases c : upHere l m[i] with
      | false =>
        rw [Bool.false_and, if_neg (by simp)]
        exact ev_is fun k => if_neg (by simp)
      | true =>
        have hp := hp c
        rw [Bool.true_and]
        cases b with
        | true =>
          have IH := ih (i + 1) true (by omega)
          rw [Bool.true_or] at IH ⊢
          exact ev_cong (fun k => (if_pos rfl).trans (if_pos rfl)) IH
        | false =>
          have e2 : (((rd_T32 l (P : Int)).f3) != 0) = upOwn l m[i] := by
            rw [ho]
            by_cases c2 : (rd_T32 l (P : Int)).f3 = 0
            · rw [decide_eq_true c2, c2]; rfl
            · rw [decide_eq_false c2]; exact bne_iff_ne.2 c2
          have IH := ih (i + 1) (upOwn l m[i]) (by omega)
          rw [Bool.false_or]
          refine ev_cong (fun k => ?_) IH
          rw [if_pos rfl, if_neg (by simp), if_pos (by show 0 ≤ (P : Int); omega), if_pos (by show (P : Int) < (l.length : Int); omega)]
          show impl_TreeFault.l1 k l (((rd_T32 l (P : Int)).f3) != 0) m (m.length : Int) ((i + 1 : Nat) : Int) = _
          rw [e2]
theorem treeR_impl (l : List ZZ) : Ev (fun k => impl_TreeFault.f k l) (treeR l) := by
  unfold impl_TreeFault.f treeR
  by_cases h : l.length > 20
  · rw [if_pos h]
    exact ev_is fun k => if_pos (by omega)
  · rw [if_neg h]
    refine ev_cong (fun k => if_neg (by omega)) (impl_l0 l (by omega) _ (fun hz => ?_) l.length 0 (by omega) rfl)
    obtain ⟨hg, hR, _⟩ := zFrom_ok l none hz
    refine ev_step (fun k => (impl_find.f k l (⟨#[47]⟩ : ByteArray)).bind fun bt105 => (if bt105.2 = true then (if 0 < (l.length : Int) then (if 1 ≤ (l.length : Int) then ((some (l.drop 1 : List ZZ)).bind fun y108 => (impl_TreeFault.l1 k l (((rd_T32 l 0).f3) != 0) y108 (y108.length : Int) 0)) else (none)) else (none)) else (some 4))) (fun k => ?_) (ev_call (find_is hR (by omega) (⟨#[47]⟩ : ByteArray)) ?_)
    · simp only [impl_TreeFault.l0]; rw [if_neg (by omega)]
    · have e : (⟨#[47]⟩ : ByteArray).data.toList = [47] := rfl
      rw [e]
      cases c : hereK pk l [47] with
      | false =>
        rw [if_neg (by simp)]
        exact ev_is fun k => if_neg (by simp)
      | true =>
        rw [if_pos rfl]
        have hp := hereK_lt c
        have h0 := top_first hg hR c
        have hlen : 0 < l.length := by omega
        have hk : pk l[0] = [47] := by
          have := hereK_eq c
          have g : ∀ (j : Nat) (hj : j < l.length), j = 0 → pk l[j] = [47] → pk l[0] = [47] := fun j hj e => by subst e; exact id
          exact g _ hp h0 this
        have hsplit : l = l[0] :: l.drop 1 := by
          have := drop_at hlen
          rwa [List.drop_zero] at this
        have hu : upR (l[0]).f0 = (⟨#[47]⟩ : ByteArray) := upR_top _ hk
        have hu0 : upHere l l[0] = true := by unfold upHere upK; rw [hu]; exact c
        have ho0 : upOwn l l[0] = (((rd_T32 l 0).f3) != 0) := by
          unfold upOwn upK
          rw [hu]
          have e3 : (⟨#[47]⟩ : ByteArray).data.toList = [47] := rfl
          rw [e3, h0]
          show (!decide ((rd_T32 l 0).f3 = 0)) = ((rd_T32 l 0).f3 != 0)
          by_cases c2 : (rd_T32 l 0).f3 = 0
          · rw [decide_eq_true c2, c2]; rfl
          · rw [decide_eq_false c2]; exact (bne_iff_ne.2 c2).symm
        have hall : l.all (upHere l) = (l.drop 1).all (upHere l) := by
          have g : ∀ m : List ZZ, m = l[0] :: l.drop 1 → m.all (upHere l) = (l.drop 1).all (upHere l) := fun m hm => by rw [hm, List.all_cons, hu0, Bool.true_and]
          exact g l hsplit
        have hany : l.any (upOwn l) = ((((rd_T32 l 0).f3) != 0) || (l.drop 1).any (upOwn l)) := by
          have g : ∀ m : List ZZ, m = l[0] :: l.drop 1 → m.any (upOwn l) = ((((rd_T32 l 0).f3) != 0) || (l.drop 1).any (upOwn l)) := fun m hm => by rw [hm, List.any_cons, ho0]
          exact g l hsplit
        rw [hall, hany]
        have := impl_l1_ l (l.drop 1) (fun z hz => hg z (List.mem_of_mem_drop hz)) hR (by omega) (by rw [List.length_drop]; omega) (l.drop 1).length 0 (((rd_T32 l 0).f3) != 0) (by omega)
        rw [List.drop_zero] at this
        refine ev_cong (fun k => ?_) this
        rw [if_pos rfl, if_pos (by omega), if_pos (by omega), Option.bind_some]
        rfl
end Go.Proofs.YtegggpipggniaaaDoor.Pure

/- When a tree is right: told by its members. -/
namespace Go.Proofs.YtegggpipggniaaaDoor.Pure
open Go.RowKit Go.Proofs.YtegggpipggniaaaDoor.Qa Go.Proofs.YtegggpipggniaaaDoorW.PrintWords Go.Proofs.YtegggpipggniaaaDoorW.PrintLast Go.Proofs.YtegggpipggniaaaDoor.Aid
theorem zFrom_of : ∀ (l : List ZZ) (prev : Option (List UInt8)), (∀ z ∈ l, zOwn z = 0) → Rises pk l → (∀ p, prev = some p → ∀ z ∈ l, p < pk z) → zFrom prev l = 0
  | [], _, _, _, _ => rfl
  | z :: r, prev, h1, h2, h3 => by
    obtain ⟨g1, g2⟩ := List.pairwise_cons.1 h2
    have ho : zOne prev z = 0 := by
      unfold zOne
      rw [if_pos (h1 z (by simp))]
      cases prev with
      | none => rfl
      | some p => exact if_pos (h3 p rfl z (by simp))
    rw [zFrom_cons, if_pos ho]
    exact zFrom_of r (some (pk z)) (fun x hx => h1 x (List.mem_cons_of_mem _ hx)) g2 (fun p hp x hx => by cases hp; exact g1 x hx)
theorem RightT.code {l : List ZZ} (h : RightT l) : treeR l = 0 := h.zero (zFrom_of l none h.good h.rise (fun p hp => by cases hp))
theorem at_of {l : List ZZ} (hr : Rises pk l) {y : ZZ} (hy : y ∈ l) : rd_T32 l (posK pk l (pk y) : Int) = y := by
  obtain ⟨j, hj, rfl⟩ := List.getElem_of_mem hy
  rw [(hereK_at hr j hj).1, rd_T32_at hj]
theorem mem_of_here {l : List ZZ} {q : List UInt8} (h : hereK pk l q = true) : ∃ y ∈ l, pk y = q := ⟨l[posK pk l q]'(hereK_lt h), List.getElem_mem _, hereK_eq h⟩
theorem same_key {l : List ZZ} (hr : Rises pk l) {x y : ZZ} (hx : x ∈ l) (hy : y ∈ l) (e : pk x = pk y) : x = y := by
  have h1 := at_of hr hx
  rw [e, at_of hr hy] at h1
  exact h1.symm
/-- A right tree, by its members. -/
structure TreeM (l : List ZZ) : Prop where
  few : l.length ≤ 20
  good : ∀ z ∈ l, zOwn z = 0
  rise : Rises pk l
  top : ∃ z ∈ l, pk z = [47]
  ups : ∀ z ∈ l, ∃ y ∈ l, pk y = upK z ∧ y.f3 = 0
theorem TreeM.of {l : List ZZ} (h : RightT l) : TreeM l := by
  refine ⟨h.few, h.good, h.rise, mem_of_here h.top, fun z hz => ?_⟩
  obtain ⟨y, hy, e⟩ := mem_of_here (h.ups z hz)
  refine ⟨y, hy, e, ?_⟩
  have := h.free z hz
  unfold upOwn at this
  rw [← e, at_of h.rise hy] at this
  simpa using this
theorem TreeM.right {l : List ZZ} (h : TreeM l) : RightT l := by
  refine ⟨h.few, h.good, h.rise, ?_, fun z hz => ?_, fun z hz => ?_⟩
  · obtain ⟨y, hy, e⟩ := h.top
    rw [← e]
    exact hereK_mem h.rise hy
  · obtain ⟨y, hy, e, _⟩ := h.ups z hz
    unfold upHere
    rw [← e]
    exact hereK_mem h.rise hy
  · obtain ⟨y, hy, e, h0⟩ := h.ups z hz
    unfold upOwn
    rw [← e, at_of h.rise hy, h0]
    rfl
theorem TreeM.code {l : List ZZ} (h : TreeM l) : treeR l = 0 := h.right.code
theorem tree_m {l : List ZZ} (h : treeR l = 0) : TreeM l := TreeM.of (right_of h)
/-- The top owns nothing. -/
theorem TreeM.top_free {l : List ZZ} (h : TreeM l) {z : ZZ} (hz : z ∈ l) (e : pk z = [47]) : z.f3 = 0 := by
  obtain ⟨y, hy, e2, h0⟩ := h.ups z hz
  have : upK z = [47] := by unfold upK; rw [upR_top z.f0 e]
  rw [this] at e2
  rw [same_key h.rise hz hy (by rw [e, e2])]
  exact h0
/-- What is there, and what is not. -/
theorem here_iff {l : List ZZ} (hr : Rises pk l) (q : List UInt8) : hereK pk l q = true ↔ ∃ y ∈ l, pk y = q := ⟨mem_of_here, fun ⟨y, hy, e⟩ => by rw [← e]; exact hereK_mem hr hy⟩
end Go.Proofs.YtegggpipggniaaaDoor.Pure

/- Answers that hold nodes. -/

namespace Go.Proofs.YtegggpipggniaaaDoor.Pure
open Go.RowKit Go.Proofs.YtegggpipggniaaaDoor.Qa Go.Proofs.YtegggpipggniaaaDoorW.PrintWords Go.Proofs.YtegggpipggniaaaDoorW.PrintLast Go.Proofs.YtegggpipggniaaaDoor.Aid
abbrev ZR := Int × ByteArray × List ZZ
def badZ (c : Int) : ZR := (c, (⟨#[]⟩ : ByteArray), [])
end Go.Proofs.YtegggpipggniaaaDoor.Pure

/- A row of nodes copied, by the reference. -/
namespace Go.Proofs.YtegggpipggniaaaDoor.Pure
open Go.RowKit Go.Proofs.YtegggpipggniaaaDoor.Qa Go.Proofs.YtegggpipggniaaaDoorW.PrintWords Go.Proofs.YtegggpipggniaaaDoorW.PrintLast Go.Proofs.YtegggpipggniaaaDoor.Aid
theorem copy_spec (l : List ZZ) (hl : l.length ≤ 1048576000) : spec_l2Copy.f l = some l := by
  unfold spec_l2Copy.f
  simp only [Option.bind_some, List.nil_append, List.length_nil, Nat.zero_add]
  rw [if_pos (by omega)]
end Go.Proofs.YtegggpipggniaaaDoor.Pure

/- A node's data set in a right tree, by the reference. -/
namespace Go.Proofs.YtegggpipggniaaaDoor.Pure
open Go.RowKit Go.Proofs.YtegggpipggniaaaDoor.Qa Go.Proofs.YtegggpipggniaaaDoorW.PrintWords Go.Proofs.YtegggpipggniaaaDoorW.PrintLast Go.Proofs.YtegggpipggniaaaDoor.Aid
def putD (l : List ZZ) (i : Int) (d : Int) : List ZZ := l.set i.toNat (⟨(rd_T32 l i).f0, d, (rd_T32 l i).f2, (rd_T32 l i).f3, (rd_T32 l i).f4⟩ : ZZ)
def putV (l : List ZZ) (i : Int) : List ZZ := l.set i.toNat (⟨(rd_T32 l i).f0, (rd_T32 l i).f1, wrap64 (((rd_T32 l i).f2) + 1), (rd_T32 l i).f3, (rd_T32 l i).f4⟩ : ZZ)
def setAt (l : List ZZ) (p : Nat) (d v : Int) : ZR :=
  if v = -1 ∨ v = (rd_T32 l (p : Int)).f2 then (if (rd_T32 l (p : Int)).f2 = 999 then badZ 2 else (0, (⟨#[]⟩ : ByteArray), putV (putD l (p : Int) d) (p : Int))) else badZ 7
noncomputable def setIn (l : List ZZ) (q : ByteArray) (d v : Int) : ZR :=
  if 0 ≤ d ∧ d ≤ 9999 then (if hereK pk l q.data.toList = true then setAt l (posK pk l q.data.toList) d v else badZ 4) else badZ 3
theorem ver_le {l : List ZZ} (hg : ∀ z ∈ l, zOwn z = 0) {p : Nat} (hp : p < l.length) : 0 ≤ (rd_T32 l (p : Int)).f2 ∧ (rd_T32 l (p : Int)).f2 ≤ 999 := by
  rw [rd_T32_at hp]
  have := (zOwn_ok (hg _ (List.getElem_mem hp))).2
  unfold zIn at this
  simp only [Bool.and_eq_true, decide_eq_true_eq] at this
  exact this.2.1
theorem set_j0 {l : List ZZ} (hg : ∀ z ∈ l, zOwn z = 0) (hl : l.length ≤ 20) {p : Nat} (hp : p < l.length) (d v : Int) (b : Bool) (hb : b = true ↔ ¬ (v = -1 ∨ v = (rd_T32 l (p : Int)).f2)) : Ev (fun k => spec_l2Set.j0 k l d (p : Int) b) (setAt l p d v) := by
  have hv := ver_le hg hp
  unfold setAt
  cases b with
  | true =>
    rw [if_neg (hb.1 rfl)]
    exact ev_done fun k => by simp only [spec_l2Set.j0]; rw [if_pos trivial]; rfl
  | false =>
    have hn : v = -1 ∨ v = (rd_T32 l (p : Int)).f2 := Decidable.byContradiction fun c => by have := hb.2 c; cases this
    rw [if_pos hn]
    refine ev_done fun k => ?_
    simp only [spec_l2Set.j0]
    rw [if_neg (by simp), if_pos (by omega), if_pos (by omega), copy_spec l (by omega)]
    by_cases c : (rd_T32 l (p : Int)).f2 = 999
    · rw [if_pos (by omega), if_pos c]; rfl
    · rw [if_neg (by omega), if_neg c, Option.bind_some, if_pos (by omega)]; rfl
theorem set_in_spec {l : List ZZ} (hg : ∀ z ∈ l, zOwn z = 0) (hl : l.length ≤ 20) (hr : Rises pk l) (q : ByteArray) (d v : Int) : Ev (fun k => spec_l2Set.f k l q d v) (setIn l q d v) := by
  unfold spec_l2Set.f spec_l2Data.f setIn
  rw [spec_l1In_is]
  simp only [Option.bind_some]
  by_cases h1 : 0 ≤ d ∧ d ≤ 9999
  · rw [if_pos h1]
    refine ev_cong (fun k => if_pos (decide_eq_true h1)) (ev_call (at_is hr (by omega) q) ?_)
    cases c : hereK pk l q.data.toList with
    | false =>
      rw [if_neg (by simp), if_neg (by simp)]
      exact ev_is fun k => if_pos (by omega)
    | true =>
      have hp := hereK_lt c
      rw [if_pos rfl, if_pos rfl]
      generalize posK pk l q.data.toList = p at hp
      refine ev_cong (fun k => if_neg (by omega)) ?_
      by_cases h2 : v = -1
      · exact ev_cong (fun k => if_pos h2) (set_j0 hg hl hp d v false ⟨fun h => by simp at h, fun h => absurd (.inl h2) h⟩)
      · refine ev_cong (fun k => (if_neg h2).trans ((if_pos (by omega)).trans (if_pos (by omega)))) (set_j0 hg hl hp d v _ ⟨fun h => ?_, fun h => ?_⟩)
        · have := bne_iff_ne.1 h
          rintro (h3 | h3)
          · exact h2 h3
          · exact this h3
        · exact bne_iff_ne.2 fun h3 => h (.inr h3)
  · rw [if_neg h1]
    exact ev_is fun k => (if_neg (by simpa using h1)).trans rfl
end Go.Proofs.YtegggpipggniaaaDoor.Pure

/- A name with a number behind it, by the reference. -/
namespace Go.Proofs.YtegggpipggniaaaDoor.Pure
open Go.RowKit Go.Proofs.YtegggpipggniaaaDoor.Qa Go.Proofs.YtegggpipggniaaaDoorW.PrintWords Go.Proofs.YtegggpipggniaaaDoorW.PrintLast Go.Proofs.YtegggpipggniaaaDoor.Aid
def twoN (n : Int) : List Int := [(wrap64 (48 + (wrap64 (Int.tdiv n 10)))) % 256, (wrap64 (48 + (Int.tmod n 10))) % 256]
def seqT (s : ByteArray) (n : Int) : ByteArray := s ++ strOfNums (twoN n)
def seqR (s : ByteArray) (n : Int) : Int × ByteArray := if nameB s then (if 0 ≤ n ∧ n ≤ 99 then (if nameB (seqT s n) then (0, seqT s n) else (5, ⟨#[]⟩)) else (3, ⟨#[]⟩)) else (5, ⟨#[]⟩)
theorem strOfNums_two (a b : Int) : strOfNums [a] ++ strOfNums [b] = strOfNums [a, b] := by
  unfold strOfNums
  apply ByteArray.ext
  simp
theorem digit (d : Int) (h0 : 0 ≤ d) (h1 : d < 10) : Ev (fun k => spec_l1Digits.f k d) (strOfNums [(wrap64 (48 + d)) % 256]) :=
  ev_done fun k => by simp only [spec_l1Digits.f]; rw [if_neg (by omega), if_pos h1]
theorem tdiv10 {n : Int} (h : 0 ≤ n ∧ n ≤ 99) : wrap64 (Int.tdiv n 10) = n / 10 ∧ Int.tmod n 10 = n % 10 := by
  have h1 : Int.tdiv n 10 = n / 10 := Int.tdiv_eq_ediv_of_nonneg h.1
  have h2 : Int.tmod n 10 = n % 10 := Int.tmod_eq_emod_of_nonneg h.1
  rw [h1, h2, wrap_id (by omega) (by omega)]
  exact ⟨rfl, rfl⟩
theorem seq_spec (s : ByteArray) (n : Int) (hs : s.size ≤ 1048576) (hn : 0 ≤ n ∧ n ≤ 99) : Ev (fun k => spec_l1Seq.f k s n) (seqT s n) := by
  obtain ⟨e1, e2⟩ := tdiv10 hn
  unfold spec_l1Seq.f
  have e : seqT s n = (s ++ strOfNums [(wrap64 (48 + (wrap64 (Int.tdiv n 10)))) % 256]) ++ strOfNums [(wrap64 (48 + (Int.tmod n 10))) % 256] := by
    unfold seqT twoN
    rw [ByteArray.append_assoc, strOfNums_two]
  rw [e]
  refine ev_call (digit (wrap64 (Int.tdiv n 10)) (by rw [e1]; omega) (by rw [e1]; omega)) (ev_cong (fun k => if_pos (by rw [size_strOfNums]; simp; omega)) ?_)
  refine ev_call (digit (Int.tmod n 10) (by rw [e2]; omega) (by rw [e2]; omega)) (ev_is fun k => if_pos (by rw [ByteArray.size_append, size_strOfNums, size_strOfNums]; simp; omega))
theorem seqT_size (s : ByteArray) (n : Int) : (seqT s n).size = s.size + 2 := by
  unfold seqT twoN
  rw [ByteArray.size_append, size_strOfNums]
  rfl
end Go.Proofs.YtegggpipggniaaaDoor.Pure

/- A path joined, by the reference. -/
namespace Go.Proofs.YtegggpipggniaaaDoor.Pure
open Go.RowKit Go.Proofs.YtegggpipggniaaaDoor.Qa Go.Proofs.YtegggpipggniaaaDoorW.PrintWords Go.Proofs.YtegggpipggniaaaDoorW.PrintLast Go.Proofs.YtegggpipggniaaaDoor.Aid
def joinR (s n : ByteArray) : ByteArray := if s.data.toList = [47] then s ++ n else (s ++ (⟨#[47]⟩ : ByteArray)) ++ n
theorem cat_size (s n : ByteArray) : (s ++ n).size = s.size + n.size := ByteArray.size_append
theorem join_spec (s n : ByteArray) (hs : s.size ≤ 24) (hn : n.size ≤ 1048576) : spec_l1Join.f s n = some (joinR s n) := by
  unfold spec_l1Join.f joinR
  rw [tl, cat_size]
  have e1 : (⟨#[47]⟩ : ByteArray).size = 1 := rfl
  by_cases h : s.data.toList = [47]
  · have e : s = (⟨#[47]⟩ : ByteArray) := eq_mk h
    rw [if_pos h, if_pos h, if_pos (by omega), e]
  · rw [if_neg h, if_neg h, if_pos (by omega), if_pos (by omega)]
end Go.Proofs.YtegggpipggniaaaDoor.Pure

/- A node put to a right tree, by the reference. -/
namespace Go.Proofs.YtegggpipggniaaaDoor.Pure
open Go.RowKit Go.Proofs.YtegggpipggniaaaDoor.Qa Go.Proofs.YtegggpipggniaaaDoorW.PrintWords Go.Proofs.YtegggpipggniaaaDoorW.PrintLast Go.Proofs.YtegggpipggniaaaDoor.Aid
theorem ev_one {α : Type} {g : Nat → Option α} {a b : α} (h : Ev g a) (k : Ev g b) : a = b := by
  obtain ⟨n, hn⟩ := h
  obtain ⟨m, hm⟩ := k
  have h1 := hn (n + m) (by omega)
  have h2 := hm (n + m) (by omega)
  rw [h1] at h2
  exact Option.some.inj h2
theorem splF_tail (l : List UInt8) : ∀ (P : List UInt8) (p : Nat) (hp : p < l.length), l[p] = 47 → (∀ (j : Nat) (hj : j < l.length), p < j → l[j] ≠ 47) → l.drop (p + 1) ∈ (splF P l).drop 1 := by
  induction l with
  | nil => intro P p hp; simp at hp
  | cons c t ih =>
    intro P p hp h1 h2
    unfold splF
    by_cases hc : c = 47
    · rw [if_pos hc, List.drop_succ_cons, List.drop_zero]
      cases p with
      | zero =>
        have h0 : t.count 47 = 0 := List.count_eq_zero.2 fun hm => by
          obtain ⟨j, hj, e⟩ := List.getElem_of_mem hm
          exact h2 (j + 1) (by simpa using hj) (by omega) (by simpa using e)
        rw [splF_none t [] h0]
        simp
      | succ p =>
        have := ih [] p (by simpa using hp) (by simpa using h1) (fun j hj hlt => by
          have := h2 (j + 1) (by simpa using hj) (by omega)
          rwa [List.getElem_cons_succ] at this)
        rw [List.drop_succ_cons]
        exact List.mem_of_mem_drop this
    · rw [if_neg hc]
      cases p with
      | zero => exact absurd (by simpa using h1) hc
      | succ p =>
        have := ih (P ++ [c]) p (by simpa using hp) (by simpa using h1) (fun j hj hlt => by
          have := h2 (j + 1) (by simpa using hj) (by omega)
          rwa [List.getElem_cons_succ] at this)
        rw [List.drop_succ_cons]
        exact this
theorem nm_name {s : ByteArray} (h : faultR s = 0) (ht : s.data.toList ≠ [47]) : nameB (nmR s) = true := by
  have hl := size_list s
  obtain ⟨hs, h2⟩ := fault_zero h
  rcases h2 with h2 | ⟨_, h3, h4⟩
  · exact absurd h2 ht
  · have hall : ((pieces s).drop 1).all nameB = true := by
      have hn : (namesR s).2 = true := by rw [h3]
      unfold namesR at hn
      rw [if_neg ht] at hn
      by_cases c1 : (pieces s).length < 2
      · rw [if_pos c1] at hn; cases hn
      · rw [if_neg c1] at hn
        by_cases c2 : (headR s).data.toList = []
        · rw [if_pos c2] at hn
          by_cases c3 : ((pieces s).drop 1).all nameB = true
          · exact c3
          · rw [if_neg c3] at hn; cases hn
        · rw [if_neg c2] at hn; cases hn
    obtain ⟨_, p, _, h7, _, h9⟩ := upN_spec h
    obtain ⟨p', hp', e1, e2⟩ := last_exists _ h4
    have h10 : Ev (fun k => spec_l1Last.f k s) (p' : Int) := last_spec_l0 s hs p' hp' e1 e2 s.size 0 0 (by omega) (fun h => by omega)
    have e : p = p' := by have := ev_one h9 h10; omega
    subst e
    have hm := splF_tail s.data.toList [] p hp' e1 e2
    refine List.all_eq_true.1 hall _ ?_
    have e3 : nmR s = mkB (s.data.toList.drop (p + 1)) := by
      rw [h7, ext_mk, List.take_of_length_le (by rw [List.length_drop]; omega)]
    rw [e3]
    unfold pieces
    rw [← List.map_drop]
    exact List.mem_map.2 ⟨_, hm, rfl⟩

/-! ### a list whose keys are those of another one -/
theorem posK_map {α : Type} (key : α → List UInt8) (l : List α) (q : List UInt8) : posK key l q = ((l.map key).takeWhile (fun x => decide (x < q))).length := by
  unfold posK
  rw [List.takeWhile_map, List.length_map]
  rfl
theorem hereK_map {α : Type} (key : α → List UInt8) (l : List α) (q : List UInt8) : hereK key l q = (match (l.map key)[posK key l q]? with
    | some x => decide (x = q)
    | none => false) := by
  unfold hereK
  rw [List.getElem?_map]
  cases l[posK key l q]? <;> rfl
theorem same_keys {α : Type} {key : α → List UInt8} {l m : List α} (h : l.map key = m.map key) (q : List UInt8) : posK key l q = posK key m q ∧ hereK key l q = hereK key m q := by
  have e : posK key l q = posK key m q := by rw [posK_map, posK_map, h]
  exact ⟨e, by rw [hereK_map, hereK_map, h, e]⟩
theorem same_rise {α : Type} {key : α → List UInt8} {l m : List α} (h : l.map key = m.map key) (hr : Rises key l) : Rises key m := by
  have : (l.map key).Pairwise (· < ·) := List.pairwise_map.2 hr
  rw [h] at this
  exact List.pairwise_map.1 this
theorem set_keys {α : Type} {key : α → List UInt8} {l : List α} {i : Nat} (hi : i < l.length) {z : α} (hz : key z = key l[i]) : (l.set i z).map key = l.map key := by
  apply List.ext_getElem
  · simp
  · intro j h1 h2
    rw [List.getElem_map, List.getElem_map, List.getElem_set]
    by_cases c : i = j
    · subst c; rw [if_pos rfl, hz]
    · rw [if_neg c]

def insAt (l : List ZZ) (p : Nat) (z : ZZ) : List ZZ := l.take p ++ [z] ++ l.drop p
noncomputable def makeR (l : List ZZ) (q : ByteArray) (d o : Int) : ZR :=
  if hereK pk l q.data.toList = true then badZ 6 else if l.length = 20 then badZ 2 else (0, q, insAt l (posK pk l q.data.toList) ⟨q, d, 0, o, 0⟩)
def nextUp (l : List ZZ) (i : Int) : List ZZ := l.set i.toNat (⟨(rd_T32 l i).f0, (rd_T32 l i).f1, (rd_T32 l i).f2, (rd_T32 l i).f3, wrap64 (((rd_T32 l i).f4) + 1)⟩ : ZZ)
theorem nextUp_keys (l : List ZZ) (p : Nat) (hp : p < l.length) : (nextUp l (p : Int)).map pk = l.map pk := by
  unfold nextUp
  rw [Int.toNat_natCast]
  refine set_keys hp ?_
  rw [rd_T32_at hp]
  rfl
theorem nextUp_len (l : List ZZ) (i : Int) : (nextUp l i).length = l.length := by unfold nextUp; rw [List.length_set]
theorem put_l0 {l : List ZZ} (hr : Rises pk l) (hl : l.length ≤ 20) (z : ZZ) (d : Nat) : ∀ (i : Nat), i + d = l.length → i ≤ posK pk l (pk z) → Ev (fun k => spec_l2Put.l0 k l (i : Int) z.f0 z.f1 z.f2 z.f3 z.f4) (insAt l (posK pk l (pk z)) z) := by
  have fin : ∀ i : Nat, i ≤ l.length → (i < l.length → ¬ pk (rd_T32 l (i : Int)) < pk z) → Ev (fun k => spec_l2Put.l0 k l (i : Int) z.f0 z.f1 z.f2 z.f3 z.f4) (insAt l i z) := by
    intro i hi hn
    have ht : (l.take i).length ≤ 20 := by rw [List.length_take]; omega
    have hd : (l.drop i).length ≤ 20 := by rw [List.length_drop]; omega
    refine ev_done fun k => ?_
    simp only [spec_l2Put.l0, Option.bind_some, List.nil_append, List.length_nil, Nat.zero_add, Int.toNat_natCast]
    by_cases c : i < l.length
    · have hb : ¬ Op.bytesLess (((rd_T32 l (i : Int)).f0).toList) z.f0.toList = true := by rw [bl_pk]; exact hn c
      rw [if_pos (by omega), if_pos (by omega), if_neg hb, if_pos (by omega), if_pos (by omega), if_pos (by omega), if_pos (by rw [List.length_append, List.length_singleton]; omega)]
      rfl
    · rw [if_neg (by omega), if_pos (by omega), if_pos (by omega), if_pos (by omega), if_pos (by omega), if_pos (by rw [List.length_append, List.length_singleton]; omega)]
      rfl
  induction d with
  | zero =>
    intro i h hp
    have e : i = posK pk l (pk z) := by have := posK_le pk l (pk z); omega
    rw [← e]
    exact fin i (by omega) (fun c => by omega)
  | succ d ih =>
    intro i h hp
    have hi : i < l.length := by omega
    have hrd := rd_T32_at hi
    by_cases c : pk l[i] < pk z
    · refine ev_step (fun k => spec_l2Put.l0 k l ((i + 1 : Nat) : Int) z.f0 z.f1 z.f2 z.f3 z.f4) (fun k => ?_) (ih (i + 1) (by omega) ((posK_iff hr _ i hi).1 c))
      have hb : Op.bytesLess (((rd_T32 l (i : Int)).f0).toList) z.f0.toList = true := by rw [bl_pk, hrd]; exact c
      simp only [spec_l2Put.l0]; rw [if_pos (by omega), if_pos (by omega), if_pos hb, wrap_up hi (by omega)]
    · have e : i = posK pk l (pk z) := by have := (not_congr (posK_iff hr _ i hi)).1 c; omega
      rw [← e]
      exact fin i (by omega) (fun _ => by rw [hrd]; exact c)
theorem put_is {l : List ZZ} (hr : Rises pk l) (hl : l.length ≤ 20) (z : ZZ) : Ev (fun k => spec_l2Put.f k l z.f0 z.f1 z.f2 z.f3 z.f4) (insAt l (posK pk l (pk z)) z) := put_l0 hr hl z l.length 0 (by omega) (Nat.zero_le _)
theorem make_spec {l m : List ZZ} (hk : l.map pk = m.map pk) (hr : Rises pk l) (hl : l.length ≤ 20) (q : ByteArray) (d o : Int) : Ev (fun k => spec_l2Create.j1 k l q d o m) (makeR m q d o) := by
  have hlm : m.length = l.length := by have := congrArg List.length hk; simpa using this.symm
  obtain ⟨e1, e2⟩ := same_keys hk q.data.toList
  unfold makeR
  refine ev_step _ (fun k => by simp only [spec_l2Create.j1]; rfl) (ev_call (at_is hr (by omega) q) ?_)
  rw [e1, e2]
  cases c : hereK pk m q.data.toList with
  | true =>
    rw [if_pos rfl, if_pos rfl]
    exact ev_is fun k => if_pos (by omega)
  | false =>
    rw [if_neg (by simp), if_neg (by simp)]
    refine ev_cong (fun k => if_neg (by omega)) ?_
    by_cases c2 : m.length = 20
    · rw [if_pos c2]
      exact ev_is fun k => if_pos (by omega)
    · rw [if_neg c2]
      exact ev_cong (fun k => if_neg (by omega)) (ev_call (put_is (same_rise hk hr) (by omega) (⟨q, d, 0, o, 0⟩ : ZZ)) (Ev.now _))
noncomputable def createUp (l : List ZZ) (q : ByteArray) (p : Nat) (d o : Int) (b : Bool) : ZR :=
  if b = true then (if (rd_T32 l (p : Int)).f4 = 100 then badZ 3 else
    (if nameB (seqT (nmR q) (rd_T32 l (p : Int)).f4) = true then
      (if faultR (joinR (upR q) (seqT (nmR q) (rd_T32 l (p : Int)).f4)) = 0 then makeR (nextUp l (p : Int)) (joinR (upR q) (seqT (nmR q) (rd_T32 l (p : Int)).f4)) d o else badZ (faultR (joinR (upR q) (seqT (nmR q) (rd_T32 l (p : Int)).f4))))
      else badZ 5)) else makeR l q d o
noncomputable def createIn (l : List ZZ) (q : ByteArray) (d o : Int) (b : Bool) : ZR :=
  if (0 ≤ d ∧ d ≤ 9999) ∧ (0 ≤ o ∧ o ≤ 9) then (if q.data.toList = [47] then badZ 1 else
    (if hereK pk l (upR q).data.toList = true then
      (if (rd_T32 l (posK pk l (upR q).data.toList : Int)).f3 = 0 then createUp l q (posK pk l (upR q).data.toList) d o b else badZ 8) else badZ 4)) else badZ 3
theorem next_le {l : List ZZ} (hg : ∀ z ∈ l, zOwn z = 0) {p : Nat} (hp : p < l.length) : 0 ≤ (rd_T32 l (p : Int)).f4 ∧ (rd_T32 l (p : Int)).f4 ≤ 100 := by
  rw [rd_T32_at hp]
  have := (zOwn_ok (hg _ (List.getElem_mem hp))).2
  unfold zIn at this
  simp only [Bool.and_eq_true, decide_eq_true_eq] at this
  exact this.2.2.2
set_option maxHeartbeats 1000000 in
theorem create_j0_spec {l : List ZZ} (hg : ∀ z ∈ l, zOwn z = 0) (hr : Rises pk l) (hl : l.length ≤ 20) {q : ByteArray} (hq : faultR q = 0) (d o : Int) (b : Bool) (hdo : (0 ≤ d ∧ d ≤ 9999) ∧ (0 ≤ o ∧ o ≤ 9)) : Ev (fun k => spec_l2Create.j0 k l q d o b false) (createIn l q d o b) := by
  have hsz := upR_size hq
  unfold createIn
  rw [if_pos hdo]
  by_cases h1 : q.data.toList = [47]
  · rw [if_pos h1]
    exact ev_done fun k => by simp only [spec_l2Create.j0]; rw [if_neg (by simp), if_pos (by rw [tl]; exact h1)]; rfl
  · rw [if_neg h1]
    refine ev_step _ (fun k => by simp only [spec_l2Create.j0]; rw [if_neg (by simp), if_neg (by rw [tl]; exact h1)]) (ev_call (parent_is hq) (ev_call (at_is hr (by omega) (upR q)) ?_))
    cases c : hereK pk l (upR q).data.toList with
    | false =>
      rw [if_neg (by simp), if_neg (by simp)]
      exact ev_is fun k => if_pos (by omega)
    | true =>
      have hp := hereK_lt c
      rw [if_pos rfl, if_pos rfl]
      generalize posK pk l (upR q).data.toList = p at hp
      refine ev_cong (fun k => (if_neg (by omega)).trans ((if_pos (by omega)).trans (if_pos (by omega)))) ?_
      by_cases c2 : (rd_T32 l (p : Int)).f3 = 0
      · rw [if_pos c2]
        refine ev_cong (fun k => if_pos c2) (ev_call (ev_is fun _ => copy_spec l (by omega)) ?_)
        unfold createUp
        cases b with
        | false =>
          rw [if_neg (by simp)]
          exact ev_cong (fun k => if_neg (by simp)) (make_spec rfl hr hl q d o)
        | true =>
          rw [if_pos rfl]
          refine ev_cong (fun k => if_pos rfl) ?_
          have hn := next_le hg hp
          by_cases c3 : (rd_T32 l (p : Int)).f4 = 100
          · rw [if_pos c3]
            exact ev_is fun k => if_pos (by omega)
          · rw [if_neg c3]
            obtain ⟨_, m, h6, h7, _, h9⟩ := upN_spec hq
            have hq24 := (path_mark hq).1
            have hseq := seq_spec (nmR q) (rd_T32 l (p : Int)).f4 (by omega) (by omega)
            have hsl := seqT_size (nmR q) (rd_T32 l (p : Int)).f4
            generalize hS : seqT (nmR q) (rd_T32 l (p : Int)).f4 = S at hseq hsl
            refine ev_cong (fun k => if_neg (by omega)) (ev_call h9 ?_)
            rw [h7] at hseq
            refine ev_cong (f := fun k => (spec_l1Seq.f k (q.extract (m + 1) q.size) (rd_T32 l (p : Int)).f4).bind fun t137 => ((spec_l1Name.f k t137).bind fun t138 => (if t138 = true then ((spec_l1Parent.f k q).bind fun t144 => ((spec_l1Seq.f k (q.extract (m + 1) q.size) (rd_T32 l (p : Int)).f4).bind fun t145 => ((spec_l1Join.f t144 t145).bind fun t146 => ((spec_l1Fault.f k t146).bind fun t147 => (if t147 = 0 then (if (p : Int) < (l.length : Int) then (spec_l2Create.j1 k l t146 d o (nextUp l (p : Int))) else (none)) else ((spec_l2Bad.f t147).bind fun bt149 => (some (bt149.1, bt149.2.1, bt149.2.2)))))))) else ((spec_l2Bad.f 5).bind fun bt139 => (some (bt139.1, bt139.2.1, bt139.2.2)))))) (fun k => ?_) ?_
            · have b1 : (0 : Int) ≤ ((m + 1 : Nat) : Int) := by omega
              have b2 : ((m + 1 : Nat) : Int) ≤ (q.size : Int) := by omega
              have wm := w_up m (by omega)
              rw [wm, if_pos b1, if_pos b2, Int.toNat_natCast]; rfl
            · refine ev_call hseq (ev_call (name_spec S (by omega)) ?_)
              by_cases c4 : nameB S = true
              · rw [if_pos c4]
                refine ev_cong (fun k => if_pos c4) (ev_call (parent_is hq) (ev_call hseq (ev_call (ev_is fun _ => join_spec (upR q) S hsz.1 (by omega)) (ev_call (fault_spec _) ?_))))
                by_cases c5 : faultR (joinR (upR q) S) = 0
                · rw [if_pos c5]
                  exact ev_cong (fun k => (if_pos c5).trans (if_pos (by omega))) (make_spec (nextUp_keys l p hp).symm hr hl _ d o)
                · rw [if_neg c5]
                  exact ev_is fun k => if_neg c5
              · rw [if_neg c4]
                exact ev_is fun k => if_neg c4
      · rw [if_neg c2]
        exact ev_is fun k => if_neg c2
theorem create_in_spec {l : List ZZ} (hg : ∀ z ∈ l, zOwn z = 0) (hr : Rises pk l) (hl : l.length ≤ 20) {q : ByteArray} (hq : faultR q = 0) (d o : Int) (b : Bool) : Ev (fun k => spec_l2Create.f k l q d o b) (createIn l q d o b) := by
  unfold spec_l2Create.f spec_l2Data.f spec_l2Owner.f
  rw [spec_l1In_is, spec_l1In_is]
  simp only [Option.bind_some]
  by_cases h1 : 0 ≤ d ∧ d ≤ 9999
  · refine ev_cong (fun k => if_pos (decide_eq_true h1)) ?_
    by_cases h2 : 0 ≤ o ∧ o ≤ 9
    · rw [decide_eq_true h2]
      exact create_j0_spec hg hr hl hq d o b ⟨h1, h2⟩
    · rw [decide_eq_false h2]
      unfold createIn
      rw [if_neg (fun h => h2 h.2)]
      exact ev_done fun k => by simp only [spec_l2Create.j0]; rw [if_pos (by simp)]; rfl
  · refine ev_cong (fun k => if_neg (by simpa using h1)) ?_
    unfold createIn
    rw [if_neg (fun h => h1 h.1)]
    exact ev_done fun k => by simp only [spec_l2Create.j0]; rw [if_pos trivial]; rfl
theorem makeR_len (l : List ZZ) (q : ByteArray) (d o : Int) : (makeR l q d o).2.2.length ≤ l.length + 1 := by
  unfold makeR badZ
  split
  · simp
  · split
    · simp
    · show (insAt l _ _).length ≤ _
      unfold insAt
      rw [List.length_append, List.length_append, List.length_take, List.length_drop, List.length_singleton]
      omega
end Go.Proofs.YtegggpipggniaaaDoor.Pure
