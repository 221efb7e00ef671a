import Derived.Test.YtbeghfdlbokhkaaDoorQcx0
namespace Go.Proofs.YtbeghfdlbokhkaaDoor.Qc
open Go.RowKit Go.Proofs.YtbeghfdlbokhkaaDoorW.PrintWords Go.Proofs.YtbeghfdlbokhkaaDoorW.PrintLast Go.Proofs.YtbeghfdlbokhkaaDoorW.PrintMore
attribute [local go_sem] max2_int min2_int max_two min_two max_three min_three max_four min_four
set_option linter.unusedVariables false
set_option linter.unusedSimpArgs false
set_option maxHeartbeats 8000000
set_option maxRecDepth 100000

/-! ### laws_szOp: function 5 -/
def laws_szOp.f (a0_0 : Int) (a0_1 : ByteArray) (a0_2 : Int) (a0_3 : Int) (a0_4 : Bool) (a0_5 : Bool) (a1 : Int) : Option (Int) := if (wrap64 (a1 - (a0_1.size : Int))) < 0 then (some (-1)) else (some (wrap64 (a1 - (a0_1.size : Int))))
theorem laws_szOp.calls (a0_0 : Int) (a0_1 : ByteArray) (a0_2 : Int) (a0_3 : Int) (a0_4 : Bool) (a0_5 : Bool) (a1 : Int) (r : Int) (w : World) (h : laws_szOp.f a0_0 a0_1 a0_2 a0_3 a0_4 a0_5 a1 = some r) :
  Calls Tryd.prog 5 #[.agg #[.int .i64 a0_0, .string a0_1, .int .i64 a0_2, .int .i64 a0_3, .bool a0_4, .bool a0_5], .int .i64 a1] w fun e w' => e = .returned (.int .i64 r) ∧ Below w.heap.size w w' := by
 have hu23 := Tryd.underlying23
 have HB := aa (Below.refl w.heap.size w)
 have H : (if (wrap64 (a1 - (a0_1.size : Int))) < 0 then (some (-1)) else (some (wrap64 (a1 - (a0_1.size : Int))))) = some r := h
 clear h
 revert H
 refine itD_ (fun c3b0 H => ?_) fun c3b0 H => ?_
 ·
  obtain rfl := Option.some.inj H
  go_enter Tryd.func5, Tryd.ntmps5
  go_wp2_with (first | (refine be_ 2 #[.int .i64 a0_0, .string a0_1, .int .i64 a0_2, .int .i64 a0_3, .bool a0_4, .bool a0_5] 23 ?_; intro gb101 hg w4 hbox hb; have n0_ := aa (below_step zjjbob hb); have n1_ := aa (hbox); have n2_ := aa ((zkpfjp : w.heap.size ≤ gb101)); have n3_ := aa ((zkpfjp : w.heap.size ≤ gb101)); clear HB; have HB := n0_; have BK101 := n1_; have GW101 := n2_; have GE101 := n3_; clear n0_ n1_ n2_ n3_; clear hb hbox hg; obtain ⟨hcz5_0, hcz5_1, hcz5_2, hcz5_3, hcz5_4, hcz5_5, hfz5_0, hfz5_1, hfz5_2, hfz5_3, hfz5_4, hfz5_5⟩ := blk6_ BK101.out))
  go_ret
  exact ⟨zlhpib, zkmbdh⟩
 obtain rfl := Option.some.inj H
 go_enter Tryd.func5, Tryd.ntmps5
 go_wp2_with (first | (refine be_ 2 #[.int .i64 a0_0, .string a0_1, .int .i64 a0_2, .int .i64 a0_3, .bool a0_4, .bool a0_5] 23 ?_; intro gb101 hg w6 hbox hb; have n0_ := aa (below_step zjjbob hb); have n1_ := aa (hbox); have n2_ := aa ((zkpfjp : w.heap.size ≤ gb101)); have n3_ := aa ((zkpfjp : w.heap.size ≤ gb101)); clear HB; have HB := n0_; have BK101 := n1_; have GW101 := n2_; have GE101 := n3_; clear n0_ n1_ n2_ n3_; clear hb hbox hg; obtain ⟨hcz7_0, hcz7_1, hcz7_2, hcz7_3, hcz7_4, hcz7_5, hfz7_0, hfz7_1, hfz7_2, hfz7_3, hfz7_4, hfz7_5⟩ := blk6_ BK101.out))
 go_ret
 exact ⟨zlhpib, zkmbdh⟩

end Go.Proofs.YtbeghfdlbokhkaaDoor.Qc
