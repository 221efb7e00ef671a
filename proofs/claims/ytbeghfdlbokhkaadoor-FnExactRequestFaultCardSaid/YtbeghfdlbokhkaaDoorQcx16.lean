import Derived.Test.YtbeghfdlbokhkaaDoorQcx0
import Derived.Test.YtbeghfdlbokhkaaDoorQcx15
namespace Go.Proofs.YtbeghfdlbokhkaaDoor.Qc
open Go.RowKit Go.Proofs.YtbeghfdlbokhkaaDoorW.PrintWords Go.Proofs.YtbeghfdlbokhkaaDoorW.PrintLast Go.Proofs.YtbeghfdlbokhkaaDoorW.PrintMore
attribute [local go_sem] max2_int min2_int max_two min_two max_three min_three max_four min_four
set_option linter.unusedVariables false
set_option linter.unusedSimpArgs false
set_option maxHeartbeats 8000000
set_option maxRecDepth 100000

/-! ### strings_Contains: function 17 -/
def strings_Contains.f (a0 : ByteArray) (a1 : ByteArray) : Option (Bool) := (strings_Index.f a0 a1).bind fun t101 => (some (decide (t101 ≥ 0)))
theorem strings_Contains.calls (a0 : ByteArray) (a1 : ByteArray) (r : Bool) (w : World) (h : strings_Contains.f a0 a1 = some r) :
  Calls Tryd.prog 17 #[.string a0, .string a1] w fun e w' => e = .returned (.bool r) ∧ Drawn0 w w' := by
 have H : ((strings_Index.f a0 a1).bind fun t101 => (some (decide (t101 ≥ 0)))) = some r := h
 clear h
 revert H
 refine obs_ fun t101 A3 H => ?_
 obtain rfl := Option.some.inj H
 go_enter Tryd.func17, Tryd.ntmps17
 go_wp2_with (first | (refine gc_ Tryd.func35 (some 7) #[.string a0, .string a1] ?_; (with_reducible refine (strings_Index.calls a0 a1 t101 _ A3.out).mono ?_); rintro e w' ⟨rfl, ⟨nd, rfl⟩⟩; refine ⟨_, rfl, ?_⟩))
 go_ret
 exact ⟨zagbkp, ziajdh⟩

end Go.Proofs.YtbeghfdlbokhkaaDoor.Qc
