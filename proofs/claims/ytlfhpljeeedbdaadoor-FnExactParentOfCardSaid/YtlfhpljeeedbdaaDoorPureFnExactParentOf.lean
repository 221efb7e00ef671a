/- ParentOf: the program's answer is the reference's, for every text. No condition. -/
import Derived.Test.YtlfhpljeeedbdaaDoorQax27
import Derived.Test.YtlfhpljeeedbdaaDoorQax36
import Derived.Test.YtlfhpljeeedbdaaDoorQax37
import Derived.Test.YtlfhpljeeedbdaaDoorQax38
import Derived.Test.YtlfhpljeeedbdaaDoorQax39
import Derived.Test.YtlfhpljeeedbdaaDoorLast
namespace Go.Proofs.YtlfhpljeeedbdaaDoor.Pure
open Go.RowKit Go.Proofs.YtlfhpljeeedbdaaDoor.Qa Go.Proofs.YtlfhpljeeedbdaaDoorW.PrintWords Go.Proofs.YtlfhpljeeedbdaaDoorW.PrintLast Go.Proofs.YtlfhpljeeedbdaaDoor.Aid
theorem parentOf_both (s : ByteArray) : ∃ r : Int × ByteArray, Ev (fun k => spec_ParentOf.f k s) r ∧ Ev (fun k => impl_ParentOf.f k s) r := by
  have hl := size_list s
  unfold spec_ParentOf.f impl_ParentOf.f
  by_cases h : faultR s = 0
  · obtain ⟨hs, h2⟩ := fault_zero h
    rcases h2 with h2 | ⟨h2, h3, h4⟩
    · exact ⟨(4, (⟨#[]⟩ : ByteArray)), ev_call (fault_spec s) (ev_is fun k => (if_pos h).trans (if_pos (by rw [tl]; exact h2))), ev_call (fault_impl s) (ev_is fun k => (if_pos h).trans (if_pos (by rw [tl]; exact h2)))⟩
    · obtain ⟨u, n, h5, p, h6, h7, h8, h9⟩ := parted_both s hs h4
      have hu : Ev (fun k => spec_l1Parent.f k s) u := by
        unfold spec_l1Parent.f
        refine ev_call h9 (ev_is fun k => ?_)
        rw [h8]
        by_cases c : p = 0
        · rw [if_pos (by omega), if_pos c]
        · rw [if_neg (by omega), if_pos (by omega), if_pos (by omega), if_neg c, Int.toNat_natCast]
      exact ⟨(0, u), ev_call (fault_spec s) (ev_cong (fun k => (if_pos h).trans (if_neg (by rw [tl]; exact h2))) (ev_call hu (Ev.now _))), ev_call (fault_impl s) (ev_cong (fun k => (if_pos h).trans (if_neg (by rw [tl]; exact h2))) (ev_call h5 (Ev.now _)))⟩
  · exact ⟨(faultR s, (⟨#[]⟩ : ByteArray)), ev_call (fault_spec s) (ev_is fun k => if_neg h), ev_call (fault_impl s) (ev_is fun k => if_neg h)⟩
theorem FnExactParentOf (s : ByteArray) (_hs : s.size ≤ 9223372036854775807) : ∃ k, laws_FnExactParentOf.f k s = some true := by
  refine Ev.rounds ?_
  unfold laws_FnExactParentOf.f
  by_cases h : (s.size : Int) > 1048576
  · exact ev_is fun k => if_pos h
  · refine ev_cong (fun k => if_neg h) ?_
    refine ev_step _ (fun k => by simp only [laws_FnExactParentOf.j0]; rfl) ?_
    obtain ⟨r, h1, h2⟩ := parentOf_both s
    exact ev_call h1 (ev_call h2 (ev_is fun k => by simp [laws_eqTextResult.f]))
end Go.Proofs.YtlfhpljeeedbdaaDoor.Pure
