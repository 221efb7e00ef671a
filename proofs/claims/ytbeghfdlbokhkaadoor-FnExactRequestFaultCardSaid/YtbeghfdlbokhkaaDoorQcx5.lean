import Derived.Test.YtbeghfdlbokhkaaDoorQcx0
namespace Go.Proofs.YtbeghfdlbokhkaaDoor.Qc
open Go.RowKit Go.Proofs.YtbeghfdlbokhkaaDoorW.PrintWords Go.Proofs.YtbeghfdlbokhkaaDoorW.PrintLast Go.Proofs.YtbeghfdlbokhkaaDoorW.PrintMore
attribute [local go_sem] max2_int min2_int max_two min_two max_three min_three max_four min_four
set_option linter.unusedVariables false
set_option linter.unusedSimpArgs false
set_option maxHeartbeats 8000000
set_option maxRecDepth 100000

/-! ### spec_l5Version: function 32 -/
def spec_l5Version.f (a0 : Int) : Option (Bool) := if a0 = 4 then (some true) else (if a0 = 5 then (some true) else (some (a0 == 8)))
theorem spec_l5Version.calls (a0 : Int) (r : Bool) (w : World) (h : spec_l5Version.f a0 = some r) :
  Calls Tryd.prog 32 #[.int .i64 a0] w fun e w' => e = .returned (.bool r) ∧ Drawn0 w w' := by
 have H : (if a0 = 4 then (some true) else (if a0 = 5 then (some true) else (some (a0 == 8)))) = some r := h
 clear h
 revert H
 refine itE_ (fun c2b0 c2b1 H => ?_) fun c2b0 c2b1 H => ?_
 ·
  obtain rfl := Option.some.inj H
  go_enter Tryd.func32, Tryd.ntmps32
  go_wp2
  go_ret
  exact ⟨zagbkp, ziajdh⟩
 revert H
 refine itE_ (fun c3b0 c3b1 H => ?_) fun c3b0 c3b1 H => ?_
 ·
  obtain rfl := Option.some.inj H
  go_enter Tryd.func32, Tryd.ntmps32
  go_wp2
  go_ret
  exact ⟨zagbkp, ziajdh⟩
 obtain rfl := Option.some.inj H
 go_enter Tryd.func32, Tryd.ntmps32
 go_wp2
 go_ret
 exact ⟨zagbkp, ziajdh⟩

end Go.Proofs.YtbeghfdlbokhkaaDoor.Qc
