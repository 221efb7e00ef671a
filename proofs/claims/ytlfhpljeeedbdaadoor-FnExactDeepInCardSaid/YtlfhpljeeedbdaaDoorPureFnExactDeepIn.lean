/- DeepIn: the program's answer is the reference's, for every text. No condition. -/
import Derived.Test.YtlfhpljeeedbdaaDoorQax19
import Derived.Test.YtlfhpljeeedbdaaDoorQax20
import Derived.Test.YtlfhpljeeedbdaaDoorQax21
import Derived.Test.YtlfhpljeeedbdaaDoorQax22
import Derived.Test.YtlfhpljeeedbdaaDoorQax8
import Derived.Test.YtlfhpljeeedbdaaDoorPath2
namespace Go.Proofs.YtlfhpljeeedbdaaDoor.Pure
open Go.RowKit Go.Proofs.YtlfhpljeeedbdaaDoor.Qa Go.Proofs.YtlfhpljeeedbdaaDoorW.PrintWords Go.Proofs.YtlfhpljeeedbdaaDoorW.PrintLast Go.Proofs.YtlfhpljeeedbdaaDoor.Aid
def deepR (s : ByteArray) : Int × Int := if faultR s = 0 then (0, (((namesR s).1.length : Nat) : Int)) else (faultR s, 0)
theorem deep_spec (s : ByteArray) : Ev (fun k => spec_DeepIn.f k s) (deepR s) := by
  unfold spec_DeepIn.f
  refine ev_call (fault_spec s) ?_
  by_cases h : faultR s = 0
  · have e0 : deepR s = (0, (((namesR s).1.length : Nat) : Int)) := if_pos h
    rw [e0]
    exact ev_cong (fun k => if_pos h) (ev_call (names_spec s (fault_zero h).1) (Ev.now _))
  · have e0 : deepR s = (faultR s, 0) := if_neg h
    rw [e0]
    exact ev_is fun k => if_neg h
theorem deep_impl (s : ByteArray) : Ev (fun k => impl_DeepIn.f k s) (deepR s) := by
  unfold impl_DeepIn.f
  refine ev_call (fault_impl s) ?_
  by_cases h : faultR s = 0
  · have e0 : deepR s = (0, (((namesR s).1.length : Nat) : Int)) := if_pos h
    rw [e0]
    refine ev_cong (fun k => if_pos h) ?_
    rcases (fault_zero h).2 with h2 | ⟨h2, h3, h4⟩
    · have e : (namesR s).1.length = 0 := by unfold namesR; rw [if_pos h2]; rfl
      rw [e]
      exact ev_is fun k => if_pos (by rw [tl]; exact h2)
    · have e : (namesR s).1.length = s.data.toList.count 47 := by
        rw [h3]
        show ((pieces s).drop 1).length = _
        rw [List.length_drop, pieces_len]
        omega
      have ct : strings_Count.f s (⟨#[47]⟩ : ByteArray) = some ((s.data.toList.count 47 : Nat) : Int) := if_pos rfl
      rw [e]
      exact ev_is fun k => by rw [if_neg (by rw [tl]; exact h2), ct]; rfl
  · have e0 : deepR s = (faultR s, 0) := if_neg h
    rw [e0]
    exact ev_is fun k => if_neg h
theorem FnExactDeepIn (s : ByteArray) (_hs : s.size ≤ 9223372036854775807) : ∃ k, laws_FnExactDeepIn.f k s = some true := by
  refine Ev.rounds ?_
  unfold laws_FnExactDeepIn.f
  by_cases h : (s.size : Int) > 1048576
  · exact ev_is fun k => if_pos h
  · refine ev_cong (fun k => if_neg h) ?_
    refine ev_step _ (fun k => by simp only [laws_FnExactDeepIn.j0]; rfl) ?_
    exact ev_call (deep_spec s) (ev_call (deep_impl s) (ev_is fun k => by simp [laws_eqIntResult.f]))
end Go.Proofs.YtlfhpljeeedbdaaDoor.Pure
