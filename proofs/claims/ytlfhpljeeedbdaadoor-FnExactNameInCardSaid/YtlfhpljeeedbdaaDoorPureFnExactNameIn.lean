/- NameIn: the program's answer is the reference's, for every text. No condition. -/
import Derived.Test.YtlfhpljeeedbdaaDoorQax27
import Derived.Test.YtlfhpljeeedbdaaDoorQax30
import Derived.Test.YtlfhpljeeedbdaaDoorQax34
import Derived.Test.YtlfhpljeeedbdaaDoorQax35
import Derived.Test.YtlfhpljeeedbdaaDoorLast
namespace Go.Proofs.YtlfhpljeeedbdaaDoor.Pure
open Go.RowKit Go.Proofs.YtlfhpljeeedbdaaDoor.Qa Go.Proofs.YtlfhpljeeedbdaaDoorW.PrintWords Go.Proofs.YtlfhpljeeedbdaaDoorW.PrintLast Go.Proofs.YtlfhpljeeedbdaaDoor.Aid
theorem nameIn_both (s : ByteArray) : ∃ r : Int × ByteArray, Ev (fun k => spec_NameIn.f k s) r ∧ Ev (fun k => impl_NameIn.f k s) r := by
  have hl := size_list s
  unfold spec_NameIn.f impl_NameIn.f
  by_cases h : faultR s = 0
  · obtain ⟨hs, h2⟩ := fault_zero h
    rcases h2 with h2 | ⟨h2, h3, h4⟩
    · exact ⟨(4, (⟨#[]⟩ : ByteArray)), ev_call (fault_spec s) (ev_is fun k => (if_pos h).trans (if_pos (by rw [tl]; exact h2))), ev_call (fault_impl s) (ev_is fun k => (if_pos h).trans (if_pos (by rw [tl]; exact h2)))⟩
    · obtain ⟨u, n, h5, p, h6, h7, h8, h9⟩ := parted_both s hs h4
      have wi := w_up p (by omega)
      have q3 : (0 : Int) ≤ ((p + 1 : Nat) : Int) := by omega
      have q4 : ((p + 1 : Nat) : Int) ≤ (s.size : Int) := by omega
      refine ⟨(0, n), ev_call (fault_spec s) (ev_cong (fun k => (if_pos h).trans (if_neg (by rw [tl]; exact h2))) (ev_call h9 (ev_is fun k => ?_))), ev_call (fault_impl s) (ev_cong (fun k => (if_pos h).trans (if_neg (by rw [tl]; exact h2))) (ev_call h5 (Ev.now _)))⟩
      rw [wi, if_pos q3, if_pos q4, h7, Int.toNat_natCast]
  · exact ⟨(faultR s, (⟨#[]⟩ : ByteArray)), ev_call (fault_spec s) (ev_is fun k => if_neg h), ev_call (fault_impl s) (ev_is fun k => if_neg h)⟩
theorem FnExactNameIn (s : ByteArray) (_hs : s.size ≤ 9223372036854775807) : ∃ k, laws_FnExactNameIn.f k s = some true := by
  refine Ev.rounds ?_
  unfold laws_FnExactNameIn.f
  by_cases h : (s.size : Int) > 1048576
  · exact ev_is fun k => if_pos h
  · refine ev_cong (fun k => if_neg h) ?_
    refine ev_step _ (fun k => by simp only [laws_FnExactNameIn.j0]; rfl) ?_
    obtain ⟨r, h1, h2⟩ := nameIn_both s
    exact ev_call h1 (ev_call h2 (ev_is fun k => by simp [laws_eqTextResult.f]))
end Go.Proofs.YtlfhpljeeedbdaaDoor.Pure
