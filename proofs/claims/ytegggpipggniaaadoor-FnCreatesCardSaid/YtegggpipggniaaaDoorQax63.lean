import Derived.Test.YtegggpipggniaaaDoorQax0
import Derived.Test.YtegggpipggniaaaDoorQax7
import Derived.Test.YtegggpipggniaaaDoorQax10
namespace Go.Proofs.YtegggpipggniaaaDoor.Qa
open Go.RowKit Go.Proofs.YtegggpipggniaaaDoorW.PrintWords Go.Proofs.YtegggpipggniaaaDoorW.PrintLast Go.Proofs.YtegggpipggniaaaDoorW.PrintMore
attribute [local go_sem] max2_int min2_int max_two min_two max_three min_three max_four min_four
set_option linter.unusedVariables false
set_option linter.unusedSimpArgs false
set_option maxHeartbeats 8000000
set_option maxRecDepth 100000

/-! ### impl_SeqName: function 23 -/
def impl_SeqName.f (k : Nat) (a0 : ByteArray) (a1 : Int) : Option (Int × ByteArray) := (impl_isName.f k a0).bind fun t102 => (if t102 = true then ((impl_within.f a1 0 99).bind fun t103 => (if t103 = true then ((some (([(wrap64 (48 + (wrap64 (Int.tdiv a1 10)))) % 256, (wrap64 (48 + (Int.tmod a1 10))) % 256] : List Int) : List Int)).bind fun y104 => (if a0.size + (strOfNums y104).size ≤ 9223372036854775807 then ((impl_isName.f k (a0 ++ (strOfNums y104))).bind fun t107 => (if t107 = true then (some (0, a0 ++ (strOfNums y104))) else (some (5, (⟨#[]⟩ : ByteArray))))) else (none))) else (some (3, (⟨#[]⟩ : ByteArray))))) else (some (5, (⟨#[]⟩ : ByteArray))))
theorem impl_SeqName.mono : ∀ a0 a1 k, LeO (impl_SeqName.f k a0 a1) (impl_SeqName.f (k + 1) a0 a1) := by
 intro a0 a1 k
 unfold impl_SeqName.f
 with_reducible repeat' first | exact impl_isName.mono _ _ | exact LeO.refl _ | exact LeO.none _ | refine LeO.ite ?_ ?_ | refine LeO.bind ?_ (fun _ => ?_)
theorem impl_SeqName.calls (k : Nat) (a0 : ByteArray) (a1 : Int) (r1 : Int) (r2 : ByteArray) (w : World) (h : impl_SeqName.f k a0 a1 = some (r1, r2)) :
  Calls Tryd.prog 23 #[.string a0, .int .i64 a1] w fun e w' => e = .returned (.agg #[.int .i64 r1, .string r2]) ∧ Below w.heap.size w w' := by
 have hu46 := Tryd.underlying46
 have HB := aa (Below.refl w.heap.size w)
 have H : ((impl_isName.f k a0).bind fun t102 => (if t102 = true then ((impl_within.f a1 0 99).bind fun t103 => (if t103 = true then ((some (([(wrap64 (48 + (wrap64 (Int.tdiv a1 10)))) % 256, (wrap64 (48 + (Int.tmod a1 10))) % 256] : List Int) : List Int)).bind fun y104 => (if a0.size + (strOfNums y104).size ≤ 9223372036854775807 then ((impl_isName.f k (a0 ++ (strOfNums y104))).bind fun t107 => (if t107 = true then (some (0, a0 ++ (strOfNums y104))) else (some (5, (⟨#[]⟩ : ByteArray))))) else (none))) else (some (3, (⟨#[]⟩ : ByteArray))))) else (some (5, (⟨#[]⟩ : ByteArray))))) = some (r1, r2) := h
 clear h
 revert H
 refine obs_ fun t102 A3 H => ?_
 by_cases c4 : t102 = true
 ·
  subst c4
  rw [if_pos rfl] at H
  revert H
  refine obs_ fun t103 A5 H => ?_
  by_cases c6 : t103 = true
  ·
   subst c6
   rw [if_pos rfl] at H
   revert H
   refine obl_ fun y104 Ny104 H => ?_
   revert H
   refine itG_ fun c7 H => ?_
   have c7b0 := eq_true c7
   have c7b1 := decide_eq_true c7
   try have c7b2 : (9223372036854775807 < a0.size + (strOfNums y104).size) = False := eq_false (Nat.not_lt.2 c7)
   try (have c7b3 := c7b2; simp only [ByteArray.size_append] at c7b3)
   revert H
   refine obs_ fun t107 A8 H => ?_
   by_cases c9 : t107 = true
   ·
    subst c9
    rw [if_pos rfl] at H
    simp only [Option.some.injEq, Prod.mk.injEq] at H
    obtain ⟨rfl, rfl⟩ := H
    go_enter Tryd.func23, Tryd.ntmps23
    go_wp2_with (first | (refine be_ 4 #[.int .i64 0, .string (⟨#[]⟩ : ByteArray)] 46 ?_; intro gb101 hg w10 hbox hb; have n0_ := aa (below_step zjjbob hb); have n1_ := aa (hbox); have n2_ := aa ((zkpfjp : w.heap.size ≤ gb101)); have n3_ := aa ((zkpfjp : w.heap.size ≤ gb101)); clear HB; have HB := n0_; have BK101 := n1_; have GW101 := n2_; have GE101 := n3_; clear n0_ n1_ n2_ n3_; clear hb hbox hg) | (refine gc_ Tryd.func54 (some 8) #[.string a0] ?_; (with_reducible refine (impl_isName.calls k a0 true _ A3.out).mono ?_); rintro e w' ⟨rfl, ⟨nd, rfl⟩⟩; refine ⟨_, rfl, ?_⟩; (try (rw [drewN_self w10]; generalize hq_ : World.drewN w10 _ = w10; have n0_ : Aside0 (w10.heap[gb101]? = some (.cells #[.int .i64 0, .string (⟨#[]⟩ : ByteArray)] 46 (0, 0))) := ⟨by rw [← hq_]; exact (zkjhpm BK101.out)⟩; have n1_ : Aside0 (Below w.heap.size w w10) := ⟨by rw [← hq_]; exact zkmbdh⟩; clear BK101 HB hq_; have BK101 := n0_; have HB := n1_; clear n0_ n1_))) | (refine gc_ Tryd.func55 (some 13) #[.int .i64 a1, .int .i64 0, .int .i64 99] ?_; (with_reducible refine (impl_within.calls a1 0 99 true _ A5.out).mono ?_); rintro e w' ⟨rfl, ⟨nd, rfl⟩⟩; refine ⟨_, rfl, ?_⟩; (try (rw [drewN_self w10]; generalize hq_ : World.drewN w10 _ = w10; have n0_ : Aside0 (w10.heap[gb101]? = some (.cells #[.int .i64 0, .string (⟨#[]⟩ : ByteArray)] 46 (0, 0))) := ⟨by rw [← hq_]; exact (zkjhpm BK101.out)⟩; have n1_ : Aside0 (Below w.heap.size w w10) := ⟨by rw [← hq_]; exact zkmbdh⟩; clear BK101 HB hq_; have BK101 := n0_; have HB := n1_; clear n0_ n1_))) | ((with_reducible refine gate_dst (N := 25) rfl ?_); refine Kd.R_lit (Kd.int .u8) _ 5 ?hg (N := 25) ?hd (xs := ([(wrap64 (48 + (wrap64 (Int.tdiv a1 10)))) % 256, (wrap64 (48 + (Int.tmod a1 10))) % 256] : List Int)) (inner := [.int .u8 ((wrap64 (48 + (wrap64 (Int.tdiv a1 10)))) % 256), .int .u8 ((wrap64 (48 + (Int.tmod a1 10))) % 256)]) (ok := fun _ => True) (okp := fun _ => True) ?hr ?hp (fun _ hk => hk) trivial (Below.refl _ _) (Nat.le_refl _) (by simp) ?_; (case hd => rfl); (case hg => rfl); (case hr => exact zhlgcp); (case hp => exact zdgfco); intro v105 w11 ho12 hb hg_ hnew_; clear hg_ hnew_; (first | rw [← Ny104.out] at ho12 | (simp only [Int.reduceToNat] at ho12; rw [← Ny104.out] at ho12)); have HO106 := aa (Kd.R_lower ho12 (below_size zkmbdh)); replace BK101 := aa (bb_ BK101.out hb); replace HB := aa (below_step zkmbdh hb); clear hb ho12; have hcv13 := own_string (P := Tryd.prog) Tryd.underlying22 Tryd.underlying5 Tryd.underlying9 (Kd.own_of_R HO106.out)) | (refine gc_ Tryd.func54 (some 29) #[.string (a0 ++ (strOfNums y104))] ?_; (with_reducible refine (impl_isName.calls k (a0 ++ (strOfNums y104)) true _ A8.out).mono ?_); rintro e w' ⟨rfl, ⟨nd, rfl⟩⟩; refine ⟨_, rfl, ?_⟩; (try (rw [drewN_self w11]; generalize hq_ : World.drewN w11 _ = w11; have n0_ : Aside0 (Kd.R (Kd.int .u8) 5 w11 w.heap.size (fun _ => True) v105 y104) := ⟨by rw [← hq_]; exact (zcaken HO106.out)⟩; have n1_ : Aside0 (w11.heap[gb101]? = some (.cells #[.int .i64 0, .string (⟨#[]⟩ : ByteArray)] 46 (0, 0))) := ⟨by rw [← hq_]; exact (zkjhpm BK101.out)⟩; have n2_ : Aside0 (Below w.heap.size w w11) := ⟨by rw [← hq_]; exact zkmbdh⟩; clear HO106 BK101 HB hq_; have HO106 := n0_; have BK101 := n1_; have HB := n2_; clear n0_ n1_ n2_)); obtain ⟨hcz14_0, hcz14_1, hfz14_0, hfz14_1⟩ := blk2_ BK101.out))
    refine bodyPost_ret (results_cell_row rfl _ _ gb101 46 #[.int .i64 0, .string (a0 ++ (strOfNums y104))] (0, 0) _ rfl zghkph Tryd.underlying46 rfl (by kernel_rfl)) rfl ?_
    exact ⟨zlhpib, zkmbdh⟩
   replace c9 := Bool.eq_false_iff.mpr c9
   subst c9
   rw [if_neg fT_] at H
   simp only [Option.some.injEq, Prod.mk.injEq] at H
   obtain ⟨rfl, rfl⟩ := H
   go_enter Tryd.func23, Tryd.ntmps23
   go_wp2_with (first | (refine be_ 4 #[.int .i64 0, .string (⟨#[]⟩ : ByteArray)] 46 ?_; intro gb101 hg w15 hbox hb; have n0_ := aa (below_step zjjbob hb); have n1_ := aa (hbox); have n2_ := aa ((zkpfjp : w.heap.size ≤ gb101)); have n3_ := aa ((zkpfjp : w.heap.size ≤ gb101)); clear HB; have HB := n0_; have BK101 := n1_; have GW101 := n2_; have GE101 := n3_; clear n0_ n1_ n2_ n3_; clear hb hbox hg) | (refine gc_ Tryd.func54 (some 8) #[.string a0] ?_; (with_reducible refine (impl_isName.calls k a0 true _ A3.out).mono ?_); rintro e w' ⟨rfl, ⟨nd, rfl⟩⟩; refine ⟨_, rfl, ?_⟩; (try (rw [drewN_self w15]; generalize hq_ : World.drewN w15 _ = w15; have n0_ : Aside0 (w15.heap[gb101]? = some (.cells #[.int .i64 0, .string (⟨#[]⟩ : ByteArray)] 46 (0, 0))) := ⟨by rw [← hq_]; exact (zkjhpm BK101.out)⟩; have n1_ : Aside0 (Below w.heap.size w w15) := ⟨by rw [← hq_]; exact zkmbdh⟩; clear BK101 HB hq_; have BK101 := n0_; have HB := n1_; clear n0_ n1_))) | (refine gc_ Tryd.func55 (some 13) #[.int .i64 a1, .int .i64 0, .int .i64 99] ?_; (with_reducible refine (impl_within.calls a1 0 99 true _ A5.out).mono ?_); rintro e w' ⟨rfl, ⟨nd, rfl⟩⟩; refine ⟨_, rfl, ?_⟩; (try (rw [drewN_self w15]; generalize hq_ : World.drewN w15 _ = w15; have n0_ : Aside0 (w15.heap[gb101]? = some (.cells #[.int .i64 0, .string (⟨#[]⟩ : ByteArray)] 46 (0, 0))) := ⟨by rw [← hq_]; exact (zkjhpm BK101.out)⟩; have n1_ : Aside0 (Below w.heap.size w w15) := ⟨by rw [← hq_]; exact zkmbdh⟩; clear BK101 HB hq_; have BK101 := n0_; have HB := n1_; clear n0_ n1_))) | ((with_reducible refine gate_dst (N := 25) rfl ?_); refine Kd.R_lit (Kd.int .u8) _ 5 ?hg (N := 25) ?hd (xs := ([(wrap64 (48 + (wrap64 (Int.tdiv a1 10)))) % 256, (wrap64 (48 + (Int.tmod a1 10))) % 256] : List Int)) (inner := [.int .u8 ((wrap64 (48 + (wrap64 (Int.tdiv a1 10)))) % 256), .int .u8 ((wrap64 (48 + (Int.tmod a1 10))) % 256)]) (ok := fun _ => True) (okp := fun _ => True) ?hr ?hp (fun _ hk => hk) trivial (Below.refl _ _) (Nat.le_refl _) (by simp) ?_; (case hd => rfl); (case hg => rfl); (case hr => exact zhlgcp); (case hp => exact zdgfco); intro v105 w16 ho17 hb hg_ hnew_; clear hg_ hnew_; (first | rw [← Ny104.out] at ho17 | (simp only [Int.reduceToNat] at ho17; rw [← Ny104.out] at ho17)); have HO106 := aa (Kd.R_lower ho17 (below_size zkmbdh)); replace BK101 := aa (bb_ BK101.out hb); replace HB := aa (below_step zkmbdh hb); clear hb ho17; have hcv18 := own_string (P := Tryd.prog) Tryd.underlying22 Tryd.underlying5 Tryd.underlying9 (Kd.own_of_R HO106.out)) | (refine gc_ Tryd.func54 (some 29) #[.string (a0 ++ (strOfNums y104))] ?_; (with_reducible refine (impl_isName.calls k (a0 ++ (strOfNums y104)) false _ A8.out).mono ?_); rintro e w' ⟨rfl, ⟨nd, rfl⟩⟩; refine ⟨_, rfl, ?_⟩; (try (rw [drewN_self w16]; generalize hq_ : World.drewN w16 _ = w16; have n0_ : Aside0 (Kd.R (Kd.int .u8) 5 w16 w.heap.size (fun _ => True) v105 y104) := ⟨by rw [← hq_]; exact (zcaken HO106.out)⟩; have n1_ : Aside0 (w16.heap[gb101]? = some (.cells #[.int .i64 0, .string (⟨#[]⟩ : ByteArray)] 46 (0, 0))) := ⟨by rw [← hq_]; exact (zkjhpm BK101.out)⟩; have n2_ : Aside0 (Below w.heap.size w w16) := ⟨by rw [← hq_]; exact zkmbdh⟩; clear HO106 BK101 HB hq_; have HO106 := n0_; have BK101 := n1_; have HB := n2_; clear n0_ n1_ n2_)); obtain ⟨hcz19_0, hcz19_1, hfz19_0, hfz19_1⟩ := blk2_ BK101.out))
   refine bodyPost_ret (results_cell_row rfl _ _ gb101 46 #[.int .i64 5, .string (⟨#[]⟩ : ByteArray)] (0, 0) _ rfl zpepea Tryd.underlying46 rfl (by kernel_rfl)) rfl ?_
   exact ⟨zlhpib, zkmbdh⟩
  replace c6 := Bool.eq_false_iff.mpr c6
  subst c6
  rw [if_neg fT_] at H
  simp only [Option.some.injEq, Prod.mk.injEq] at H
  obtain ⟨rfl, rfl⟩ := H
  go_enter Tryd.func23, Tryd.ntmps23
  go_wp2_with (first | (refine be_ 4 #[.int .i64 0, .string (⟨#[]⟩ : ByteArray)] 46 ?_; intro gb101 hg w20 hbox hb; have n0_ := aa (below_step zjjbob hb); have n1_ := aa (hbox); have n2_ := aa ((zkpfjp : w.heap.size ≤ gb101)); have n3_ := aa ((zkpfjp : w.heap.size ≤ gb101)); clear HB; have HB := n0_; have BK101 := n1_; have GW101 := n2_; have GE101 := n3_; clear n0_ n1_ n2_ n3_; clear hb hbox hg) | (refine gc_ Tryd.func54 (some 8) #[.string a0] ?_; (with_reducible refine (impl_isName.calls k a0 true _ A3.out).mono ?_); rintro e w' ⟨rfl, ⟨nd, rfl⟩⟩; refine ⟨_, rfl, ?_⟩; (try (rw [drewN_self w20]; generalize hq_ : World.drewN w20 _ = w20; have n0_ : Aside0 (w20.heap[gb101]? = some (.cells #[.int .i64 0, .string (⟨#[]⟩ : ByteArray)] 46 (0, 0))) := ⟨by rw [← hq_]; exact (zkjhpm BK101.out)⟩; have n1_ : Aside0 (Below w.heap.size w w20) := ⟨by rw [← hq_]; exact zkmbdh⟩; clear BK101 HB hq_; have BK101 := n0_; have HB := n1_; clear n0_ n1_))) | (refine gc_ Tryd.func55 (some 13) #[.int .i64 a1, .int .i64 0, .int .i64 99] ?_; (with_reducible refine (impl_within.calls a1 0 99 false _ A5.out).mono ?_); rintro e w' ⟨rfl, ⟨nd, rfl⟩⟩; refine ⟨_, rfl, ?_⟩; (try (rw [drewN_self w20]; generalize hq_ : World.drewN w20 _ = w20; have n0_ : Aside0 (w20.heap[gb101]? = some (.cells #[.int .i64 0, .string (⟨#[]⟩ : ByteArray)] 46 (0, 0))) := ⟨by rw [← hq_]; exact (zkjhpm BK101.out)⟩; have n1_ : Aside0 (Below w.heap.size w w20) := ⟨by rw [← hq_]; exact zkmbdh⟩; clear BK101 HB hq_; have BK101 := n0_; have HB := n1_; clear n0_ n1_)); obtain ⟨hcz21_0, hcz21_1, hfz21_0, hfz21_1⟩ := blk2_ BK101.out))
  refine bodyPost_ret (results_cell_row rfl _ _ gb101 46 #[.int .i64 3, .string (⟨#[]⟩ : ByteArray)] (0, 0) _ rfl zkijgm Tryd.underlying46 rfl (by kernel_rfl)) rfl ?_
  exact ⟨zlhpib, zkmbdh⟩
 replace c4 := Bool.eq_false_iff.mpr c4
 subst c4
 rw [if_neg fT_] at H
 simp only [Option.some.injEq, Prod.mk.injEq] at H
 obtain ⟨rfl, rfl⟩ := H
 go_enter Tryd.func23, Tryd.ntmps23
 go_wp2_with (first | (refine be_ 4 #[.int .i64 0, .string (⟨#[]⟩ : ByteArray)] 46 ?_; intro gb101 hg w22 hbox hb; have n0_ := aa (below_step zjjbob hb); have n1_ := aa (hbox); have n2_ := aa ((zkpfjp : w.heap.size ≤ gb101)); have n3_ := aa ((zkpfjp : w.heap.size ≤ gb101)); clear HB; have HB := n0_; have BK101 := n1_; have GW101 := n2_; have GE101 := n3_; clear n0_ n1_ n2_ n3_; clear hb hbox hg) | (refine gc_ Tryd.func54 (some 8) #[.string a0] ?_; (with_reducible refine (impl_isName.calls k a0 false _ A3.out).mono ?_); rintro e w' ⟨rfl, ⟨nd, rfl⟩⟩; refine ⟨_, rfl, ?_⟩; (try (rw [drewN_self w22]; generalize hq_ : World.drewN w22 _ = w22; have n0_ : Aside0 (w22.heap[gb101]? = some (.cells #[.int .i64 0, .string (⟨#[]⟩ : ByteArray)] 46 (0, 0))) := ⟨by rw [← hq_]; exact (zkjhpm BK101.out)⟩; have n1_ : Aside0 (Below w.heap.size w w22) := ⟨by rw [← hq_]; exact zkmbdh⟩; clear BK101 HB hq_; have BK101 := n0_; have HB := n1_; clear n0_ n1_)); obtain ⟨hcz23_0, hcz23_1, hfz23_0, hfz23_1⟩ := blk2_ BK101.out))
 refine bodyPost_ret (results_cell_row rfl _ _ gb101 46 #[.int .i64 5, .string (⟨#[]⟩ : ByteArray)] (0, 0) _ rfl zpepea Tryd.underlying46 rfl (by kernel_rfl)) rfl ?_
 exact ⟨zlhpib, zkmbdh⟩

end Go.Proofs.YtegggpipggniaaaDoor.Qa
