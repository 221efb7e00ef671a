import Derived.Test.YtegggpipggniaaaDoorQax0
import Derived.Test.YtegggpipggniaaaDoorQax15
import Derived.Test.YtegggpipggniaaaDoorQax20
namespace Go.Proofs.YtegggpipggniaaaDoor.Qa
open Go.RowKit Go.Proofs.YtegggpipggniaaaDoorW.PrintWords Go.Proofs.YtegggpipggniaaaDoorW.PrintLast Go.Proofs.YtegggpipggniaaaDoorW.PrintMore
attribute [local go_sem] max2_int min2_int max_two min_two max_three min_three max_four min_four
set_option linter.unusedVariables false
set_option linter.unusedSimpArgs false
set_option maxHeartbeats 8000000
set_option maxRecDepth 100000

/-! ### impl_zCode: function 28 -/
def impl_zCode.f (k : Nat) (l0 : List (S32)) (a1 : ByteArray) : Option (Int) := (impl_TreeFault.f k l0).bind fun t101 => (if t101 = 0 then ((impl_PathFault.f k a1).bind fun t102 => (some t102)) else (some t101))
theorem impl_zCode.mono : ∀ a0 a1 k, LeO (impl_zCode.f k a0 a1) (impl_zCode.f (k + 1) a0 a1) := by
 intro a0 a1 k
 unfold impl_zCode.f
 with_reducible repeat' first | exact impl_PathFault.mono _ _ | exact impl_TreeFault.mono _ _ | exact LeO.refl _ | exact LeO.none _ | refine LeO.ite ?_ ?_ | refine LeO.bind ?_ (fun _ => ?_)
theorem impl_zCode.calls (k : Nat) (A0 : Option Addr) (c0 : Nat) (l0 : List (S32)) (a1 : ByteArray) (r : Int) (w : World) (hr0 : Kd.C k32 w A0 l0.length l0) (hc0 : l0.length ≤ c0) (h : impl_zCode.f k l0 a1 = some r) :
  Calls Tryd.prog 28 #[.slice A0 l0.length c0, .string a1] w fun e w' => e = .returned (.int .i64 r) ∧ Below w.heap.size w w' := by
 have HR0 := aa hr0
 have HC0 := aa hc0
 clear hr0 hc0
 have HB := aa (Below.refl w.heap.size w)
 have H : ((impl_TreeFault.f k l0).bind fun t101 => (if t101 = 0 then ((impl_PathFault.f k a1).bind fun t102 => (some t102)) else (some t101))) = some r := h
 clear h
 revert H
 refine obs_ fun t101 A3 H => ?_
 revert H
 refine itE_ (fun c4b0 c4b1 H => ?_) fun c4b0 c4b1 H => ?_
 ·
  revert H
  refine obs_ fun t102 A5 H => ?_
  obtain rfl := Option.some.inj H
  go_enter Tryd.func28, Tryd.ntmps28
  go_wp2_with (first | (refine gc_ Tryd.func12 (some 7) #[.slice A0 l0.length c0] ?_; (with_reducible refine (impl_TreeFault.calls k _ _ l0 t101 _ zebgon HC0.out A3.out).mono ?_); rintro e w6 ⟨rfl, hb⟩; refine ⟨_, rfl, ?_⟩; replace HB := aa (below_step zjjbob hb); (try clear hb hk hi)) | (refine gc_ Tryd.func44 (some 12) #[.string a1] ?_; (with_reducible refine (impl_PathFault.calls k a1 t102 _ A5.out).mono ?_); rintro e w7 ⟨rfl, hb⟩; refine ⟨_, rfl, ?_⟩; replace HB := aa (below_step zjjbob hb); (try clear hb hk hi)))
  go_ret
  exact ⟨zlhpib, zjjbob⟩
 obtain rfl := Option.some.inj H
 go_enter Tryd.func28, Tryd.ntmps28
 go_wp2_with (first | (refine gc_ Tryd.func12 (some 7) #[.slice A0 l0.length c0] ?_; (with_reducible refine (impl_TreeFault.calls k _ _ l0 t101 _ zebgon HC0.out A3.out).mono ?_); rintro e w8 ⟨rfl, hb⟩; refine ⟨_, rfl, ?_⟩; replace HB := aa (below_step zjjbob hb); (try clear hb hk hi)))
 go_ret
 exact ⟨zlhpib, zjjbob⟩

end Go.Proofs.YtegggpipggniaaaDoor.Qa
