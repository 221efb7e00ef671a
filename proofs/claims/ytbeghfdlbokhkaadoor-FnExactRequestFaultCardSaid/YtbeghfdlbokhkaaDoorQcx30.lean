import Derived.Test.YtbeghfdlbokhkaaDoorQcx0
import Derived.Test.YtbeghfdlbokhkaaDoorQcx2
namespace Go.Proofs.YtbeghfdlbokhkaaDoor.Qc
open Go.RowKit Go.Proofs.YtbeghfdlbokhkaaDoorW.PrintWords Go.Proofs.YtbeghfdlbokhkaaDoorW.PrintLast Go.Proofs.YtbeghfdlbokhkaaDoorW.PrintMore
attribute [local go_sem] max2_int min2_int max_two min_two max_three min_three max_four min_four
set_option linter.unusedVariables false
set_option linter.unusedSimpArgs false
set_option maxHeartbeats 8000000
set_option maxRecDepth 100000

/-! ### spec_l4Now: function 40 -/
def spec_l4Now.f (a0 : Int) : Option (Bool) := (spec_l1In.f a0 0 9000).bind fun t101 => (some t101)
theorem spec_l4Now.calls (a0 : Int) (r : Bool) (w : World) (h : spec_l4Now.f a0 = some r) :
  Calls Tryd.prog 40 #[.int .i64 a0] w fun e w' => e = .returned (.bool r) ∧ Drawn0 w w' := by
 have H : ((spec_l1In.f a0 0 9000).bind fun t101 => (some t101)) = some r := h
 clear h
 revert H
 refine obs_ fun t101 A2 H => ?_
 obtain rfl := Option.some.inj H
 go_enter Tryd.func40, Tryd.ntmps40
 go_wp2_with (first | (refine gc_ Tryd.func29 (some 4) #[.int .i64 a0, .int .i64 0, .int .i64 9000] ?_; (with_reducible refine (spec_l1In.calls a0 0 9000 t101 _ A2.out).mono ?_); rintro e w' ⟨rfl, ⟨nd, rfl⟩⟩; refine ⟨_, rfl, ?_⟩))
 go_ret
 exact ⟨zagbkp, ziajdh⟩

end Go.Proofs.YtbeghfdlbokhkaaDoor.Qc
