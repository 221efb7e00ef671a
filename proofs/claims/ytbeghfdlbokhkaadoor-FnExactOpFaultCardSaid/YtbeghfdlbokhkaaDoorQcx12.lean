import Derived.Test.YtbeghfdlbokhkaaDoorQcx0
import Derived.Test.YtbeghfdlbokhkaaDoorQcx11
namespace Go.Proofs.YtbeghfdlbokhkaaDoor.Qc
open Go.RowKit Go.Proofs.YtbeghfdlbokhkaaDoorW.PrintWords Go.Proofs.YtbeghfdlbokhkaaDoorW.PrintLast Go.Proofs.YtbeghfdlbokhkaaDoorW.PrintMore
attribute [local go_sem] max2_int min2_int max_two min_two max_three min_three max_four min_four
set_option linter.unusedVariables false
set_option linter.unusedSimpArgs false
set_option maxHeartbeats 8000000
set_option maxRecDepth 100000

/-! ### spec_OpFault: function 6 -/
def spec_OpFault.f (k : Nat) (a0_0 : Int) (a0_1 : ByteArray) (a0_2 : Int) (a0_3 : Int) (a0_4 : Bool) (a0_5 : Bool) : Option (Int) := (spec_l5OpV.f k a0_0 a0_1 a0_2 a0_3 a0_4 a0_5).bind fun t102 => (some t102)
theorem spec_OpFault.mono : ∀ a0 a1 a2 a3 a4 a5 k, LeO (spec_OpFault.f k a0 a1 a2 a3 a4 a5) (spec_OpFault.f (k + 1) a0 a1 a2 a3 a4 a5) := by
 intro a0 a1 a2 a3 a4 a5 k
 unfold spec_OpFault.f
 with_reducible repeat' first | exact spec_l5OpV.mono _ _ _ _ _ _ _ | exact LeO.refl _ | exact LeO.none _ | refine LeO.ite ?_ ?_ | refine LeO.bind ?_ (fun _ => ?_)
theorem spec_OpFault.calls (k : Nat) (a0_0 : Int) (a0_1 : ByteArray) (a0_2 : Int) (a0_3 : Int) (a0_4 : Bool) (a0_5 : Bool) (r : Int) (w : World) (h : spec_OpFault.f k a0_0 a0_1 a0_2 a0_3 a0_4 a0_5 = some r) :
  Calls Tryd.prog 6 #[.agg #[.int .i64 a0_0, .string a0_1, .int .i64 a0_2, .int .i64 a0_3, .bool a0_4, .bool a0_5]] w fun e w' => e = .returned (.int .i64 r) ∧ Below w.heap.size w w' := by
 have hu26 := Tryd.underlying26
 have HB := aa (Below.refl w.heap.size w)
 have H : ((spec_l5OpV.f k a0_0 a0_1 a0_2 a0_3 a0_4 a0_5).bind fun t102 => (some t102)) = some r := h
 clear h
 revert H
 refine obs_ fun t102 A2 H => ?_
 obtain rfl := Option.some.inj H
 go_enter Tryd.func6, Tryd.ntmps6
 go_wp2_with (first | (refine be_ 1 #[.int .i64 a0_0, .string a0_1, .int .i64 a0_2, .int .i64 a0_3, .bool a0_4, .bool a0_5] 26 ?_; intro gb101 hg w3 hbox hb; have n0_ := aa (below_step zjjbob hb); have n1_ := aa (hbox); have n2_ := aa ((zkpfjp : w.heap.size ≤ gb101)); have n3_ := aa ((zkpfjp : w.heap.size ≤ gb101)); clear HB; have HB := n0_; have BK101 := n1_; have GW101 := n2_; have GE101 := n3_; clear n0_ n1_ n2_ n3_; clear hb hbox hg; obtain ⟨hcz4_0, hcz4_1, hcz4_2, hcz4_3, hcz4_4, hcz4_5, hfz4_0, hfz4_1, hfz4_2, hfz4_3, hfz4_4, hfz4_5⟩ := blk6_ BK101.out) | (go_at_call 14; (with_reducible refine (spec_l5OpV.calls k a0_0 a0_1 a0_2 a0_3 a0_4 a0_5 t102 _ gb101 ?sideb A2.out).mono ?_); (case sideb => exact (zkjhpm BK101.out)); rintro e w5 ⟨rfl, hb⟩; replace BK101 := aa (bb_ BK101.out hb); replace HB := aa (below_step zkmbdh hb); (try clear hb hk hi)))
 go_ret
 exact ⟨zlhpib, zkmbdh⟩

end Go.Proofs.YtbeghfdlbokhkaaDoor.Qc
