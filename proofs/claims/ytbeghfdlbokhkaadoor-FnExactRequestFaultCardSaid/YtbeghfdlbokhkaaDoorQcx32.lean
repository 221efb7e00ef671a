import Derived.Test.YtbeghfdlbokhkaaDoorQcx0
import Derived.Test.YtbeghfdlbokhkaaDoorQcx31
namespace Go.Proofs.YtbeghfdlbokhkaaDoor.Qc
open Go.RowKit Go.Proofs.YtbeghfdlbokhkaaDoorW.PrintWords Go.Proofs.YtbeghfdlbokhkaaDoorW.PrintLast Go.Proofs.YtbeghfdlbokhkaaDoorW.PrintMore
attribute [local go_sem] max2_int min2_int max_two min_two max_three min_three max_four min_four
set_option linter.unusedVariables false
set_option linter.unusedSimpArgs false
set_option maxHeartbeats 8000000
set_option maxRecDepth 100000

/-! ### spec_RequestFault: function 10 -/
def spec_RequestFault.f (k : Nat) (a0_0 : Int) (a0_1 : Int) (a0_2 : Int) (l0_3 : List (S26)) : Option (Int) := (spec_l5Request.f k a0_0 a0_1 a0_2 l0_3).bind fun t => some t.1
theorem spec_RequestFault.mono : ∀ a0 a1 a2 a3 k, LeO (spec_RequestFault.f k a0 a1 a2 a3) (spec_RequestFault.f (k + 1) a0 a1 a2 a3) := by
 intro a0 a1 a2 a3 k
 unfold spec_RequestFault.f
 exact LeO.bind (spec_l5Request.mono _ _ _ _ _) (fun _ => LeO.refl _)
theorem spec_RequestFault.calls (k : Nat) (a0_0 : Int) (a0_1 : Int) (a0_2 : Int) (A0_3 : Option Addr) (c0_3 : Nat) (l0_3 : List (S26)) (r : Int) (w : World) (hr0_3 : Kd.C k26 w A0_3 l0_3.length l0_3) (hc0_3 : l0_3.length ≤ c0_3) (h : spec_RequestFault.f k a0_0 a0_1 a0_2 l0_3 = some r) :
  Calls Tryd.prog 10 #[.agg #[.int .i64 a0_0, .int .i64 a0_1, .int .i64 a0_2, .slice A0_3 l0_3.length c0_3]] w fun e w' => e = .returned (.int .i64 r) ∧ Below w.heap.size w w' := by
 have hu36 := Tryd.underlying36
 have HB := aa (Below.refl w.heap.size w)
 have HR := aa hr0_3
 clear hr0_3
 unfold spec_RequestFault.f at h
 obtain ⟨⟨t1, t2, t3, t4⟩, hN, hu⟩ := Option.bind_eq_some_iff.mp h
 obtain rfl := Option.some.inj hu
 clear h hu
 have A2 := aa hN
 clear hN
 go_enter Tryd.func10, Tryd.ntmps10
 go_wp2_with (first | (refine be_ 1 #[.int .i64 a0_0, .int .i64 a0_1, .int .i64 a0_2, .slice A0_3 l0_3.length c0_3] 36 ?_; intro gb101 hg w3 hbox hb; have n2_ := aa ((zkpfjp : w.heap.size ≤ gb101)); have n0_ := aa (below_step zjjbob hb); have BK101 := aa (hbox); clear HB; have HB := n0_; have GE101 := n2_; clear n0_ n2_ hb hbox hg) | (go_at_call 22; (with_reducible refine (spec_l5Request.calls k gb101 _ _ _ _ _ _ _ _ w _ ?sidea ?sideb A2.out).mono ?_); (case sidea => exact ⟨A0_3, c0_3, (zkjhpm BK101.out), GE101.out, HR.out⟩); (case sideb => exact zjjbob); rintro e w5 ⟨rfl, hI, hB2, hK⟩; clear HB BK101; have HB := aa hB2; clear hI hB2 hK))
 go_ret
 exact ⟨zlhpib, zjjbob⟩

end Go.Proofs.YtbeghfdlbokhkaaDoor.Qc
