import Derived.Test.YtbeghfdlbokhkaaDoorQcx0
import Derived.Test.YtbeghfdlbokhkaaDoorQcx16
namespace Go.Proofs.YtbeghfdlbokhkaaDoor.Qc
open Go.RowKit Go.Proofs.YtbeghfdlbokhkaaDoorW.PrintWords Go.Proofs.YtbeghfdlbokhkaaDoorW.PrintLast Go.Proofs.YtbeghfdlbokhkaaDoorW.PrintMore
attribute [local go_sem] max2_int min2_int max_two min_two max_three min_three max_four min_four
set_option linter.unusedVariables false
set_option linter.unusedSimpArgs false
set_option maxHeartbeats 8000000
set_option maxRecDepth 100000

/-! ### impl_OpFault_1: function 16 -/
def impl_OpFault_1.f (a0 : ByteArray) (a1 : ByteArray) : Option (Bool) := (strings_Contains.f a1 a0).bind fun t101 => (some (!t101))
theorem impl_OpFault_1.calls (a0 : ByteArray) (a1 : ByteArray) (r : Bool) (w : World) (h : impl_OpFault_1.f a0 a1 = some r) (gx : Nat) (hx : w.heap[gx]? = some (.cells #[.string a1] 9 (0, 0))) :
  Calls Tryd.prog 16 #[.string a0, .pointer (some ⟨gx, 0, none⟩)] w fun e w' => e = .returned (.bool r) ∧ Drawn0 w w' := by
 have hcx : w.cell? ⟨gx, 0, none⟩ = some (.string a1) := (blk_cell hx 0).trans rfl
 have hfx := blk_frozen hx 0
 clear hx
 have H : ((strings_Contains.f a1 a0).bind fun t101 => (some (!t101))) = some r := h
 clear h
 revert H
 refine obs_ fun t101 A3 H => ?_
 obtain rfl := Option.some.inj H
 go_enter Tryd.func16, Tryd.ntmps16
 go_wp2_with (first | (refine gc_ Tryd.func17 (some 6) #[.string a1, .string a0] ?_; (with_reducible refine (strings_Contains.calls a1 a0 t101 _ A3.out).mono ?_); rintro e w' ⟨rfl, ⟨nd, rfl⟩⟩; refine ⟨_, rfl, ?_⟩))
 go_ret
 exact ⟨zagbkp, ziajdh⟩

end Go.Proofs.YtbeghfdlbokhkaaDoor.Qc
