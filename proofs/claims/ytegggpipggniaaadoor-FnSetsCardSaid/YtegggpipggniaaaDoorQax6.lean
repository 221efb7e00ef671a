import Derived.Test.YtegggpipggniaaaDoorQax0
import Derived.Test.YtegggpipggniaaaDoorQax5
namespace Go.Proofs.YtegggpipggniaaaDoor.Qa
open Go.RowKit Go.Proofs.YtegggpipggniaaaDoorW.PrintWords Go.Proofs.YtegggpipggniaaaDoorW.PrintLast Go.Proofs.YtegggpipggniaaaDoorW.PrintMore
attribute [local go_sem] max2_int min2_int max_two min_two max_three min_three max_four min_four
set_option linter.unusedVariables false
set_option linter.unusedSimpArgs false
set_option maxHeartbeats 8000000
set_option maxRecDepth 100000

/-! ### impl_find: function 29 -/
def impl_find.f (k : Nat) (l0 : List (S32)) (a1 : ByteArray) : Option (Int × Bool) := (slices_BinarySearchFunc_impl_Znode_impl_Znode_string.f k l0 a1).bind fun bt101 => (some (bt101.1, bt101.2))
theorem impl_find.mono : ∀ a0 a1 k, LeO (impl_find.f k a0 a1) (impl_find.f (k + 1) a0 a1) := by
 intro a0 a1 k
 unfold impl_find.f
 with_reducible repeat' first | exact slices_BinarySearchFunc_impl_Znode_impl_Znode_string.mono _ _ _ | exact LeO.refl _ | exact LeO.none _ | refine LeO.ite ?_ ?_ | refine LeO.bind ?_ (fun _ => ?_)
theorem impl_find.calls (k : Nat) (A0 : Option Addr) (c0 : Nat) (l0 : List (S32)) (a1 : ByteArray) (r1 : Int) (r2 : Bool) (w : World) (hr0 : Kd.C k32 w A0 l0.length l0) (hc0 : l0.length ≤ c0) (h : impl_find.f k l0 a1 = some (r1, r2)) :
  Calls Tryd.prog 29 #[.slice A0 l0.length c0, .string a1] w fun e w' => e = .returned (.tuple #[.int .i64 r1, .bool r2]) ∧ Below w.heap.size w w' := by
 have HR0 := aa hr0
 have HC0 := aa hc0
 clear hr0 hc0
 have HB := aa (Below.refl w.heap.size w)
 have H : ((slices_BinarySearchFunc_impl_Znode_impl_Znode_string.f k l0 a1).bind fun bt101 => (some (bt101.1, bt101.2))) = some (r1, r2) := h
 clear h
 revert H
 refine ob2_ fun t101 t102 A3 H => ?_
 (try dsimp only at H)
 simp only [Option.some.injEq, Prod.mk.injEq] at H
 obtain ⟨rfl, rfl⟩ := H
 go_enter Tryd.func29, Tryd.ntmps29
 go_wp2_with (first | (refine gc_ Tryd.func59 (some 8) #[.slice A0 l0.length c0, .string a1, .func (.func 60) #[] #[]] ?_; (with_reducible refine (slices_BinarySearchFunc_impl_Znode_impl_Znode_string.calls k _ _ l0 a1  t101 t102 _ zebgon HC0.out A3.out).mono ?_); rintro e w4 ⟨rfl, hb⟩; refine ⟨_, rfl, ?_⟩; replace HB := aa (below_step zjjbob hb); (try clear hb hk hi)))
 go_ret2
 exact ⟨zlhpib, zjjbob⟩

end Go.Proofs.YtegggpipggniaaaDoor.Qa
