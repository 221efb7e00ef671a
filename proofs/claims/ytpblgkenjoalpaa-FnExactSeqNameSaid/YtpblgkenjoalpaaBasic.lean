/- A number within bounds, by the program and by the reference. -/
import Derived.Test.YtpblgkenjoalpaaQax1
import Derived.Test.YtpblgkenjoalpaaAid
namespace Go.Proofs.Ytpblgkenjoalpaa.Pure
open Go.RowKit Go.Proofs.Ytpblgkenjoalpaa.Qa Go.Proofs.YtpblgkenjoalpaaW.PrintWords Go.Proofs.YtpblgkenjoalpaaW.PrintLast Go.Proofs.Ytpblgkenjoalpaa.Aid
theorem spec_l1In_is (a lo hi : Int) : spec_l1In.f a lo hi = some (decide (lo ≤ a ∧ a ≤ hi)) := by
  unfold spec_l1In.f
  by_cases h : lo ≤ a
  · rw [if_pos h]; simp [h]
  · rw [if_neg h]; simp [h]
theorem impl_within_is (a lo hi : Int) : impl_within.f a lo hi = some (decide (lo ≤ a ∧ a ≤ hi)) := by
  unfold impl_within.f
  by_cases h : lo ≤ a
  · rw [if_pos h]; simp [h]
  · rw [if_neg h]; simp [h]
end Go.Proofs.Ytpblgkenjoalpaa.Pure
