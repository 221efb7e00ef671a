/- JoinPath: the program's answer is the reference's, for all two texts. No condition. -/
import Derived.Test.YtlfhpljeeedbdaaDoorQax23
import Derived.Test.YtlfhpljeeedbdaaDoorQax24
import Derived.Test.YtlfhpljeeedbdaaDoorQax25
import Derived.Test.YtlfhpljeeedbdaaDoorQax26
import Derived.Test.YtlfhpljeeedbdaaDoorQax27
import Derived.Test.YtlfhpljeeedbdaaDoorQax28
import Derived.Test.YtlfhpljeeedbdaaDoorPath2
namespace Go.Proofs.YtlfhpljeeedbdaaDoor.Pure
open Go.RowKit Go.Proofs.YtlfhpljeeedbdaaDoor.Qa Go.Proofs.YtlfhpljeeedbdaaDoorW.PrintWords Go.Proofs.YtlfhpljeeedbdaaDoorW.PrintLast Go.Proofs.YtlfhpljeeedbdaaDoor.Aid
def joinR (s n : ByteArray) : ByteArray := if s.data.toList = [47] then s ++ n else (s ++ (⟨#[47]⟩ : ByteArray)) ++ n
def joinPathR (s n : ByteArray) : Int × ByteArray := if faultR s = 0 then (if nameB n = true then (if faultR (joinR s n) = 0 then (0, joinR s n) else (faultR (joinR s n), (⟨#[]⟩ : ByteArray))) else (5, (⟨#[]⟩ : ByteArray))) else (faultR s, (⟨#[]⟩ : ByteArray))
theorem cat_size (s n : ByteArray) : (s ++ n).size = s.size + n.size := ByteArray.size_append
theorem join_spec (s n : ByteArray) (hs : s.size ≤ 24) (hn : n.size ≤ 1048576) : spec_l1Join.f s n = some (joinR s n) := by
  unfold spec_l1Join.f joinR
  rw [tl, cat_size]
  have e1 : (⟨#[47]⟩ : ByteArray).size = 1 := rfl
  by_cases h : s.data.toList = [47]
  · have e : s = (⟨#[47]⟩ : ByteArray) := eq_mk h
    rw [if_pos h, if_pos h, if_pos (by omega), e]
  · rw [if_neg h, if_neg h, if_pos (by omega), if_pos (by omega)]
theorem join_impl (s n : ByteArray) (hs : s.size ≤ 24) (hn : n.size ≤ 1048576) : impl_joined.f s n = some (joinR s n) := by
  unfold impl_joined.f joinR
  rw [tl, cat_size]
  have e1 : (⟨#[47]⟩ : ByteArray).size = 1 := rfl
  by_cases h : s.data.toList = [47]
  · rw [if_pos h, if_pos h, if_pos (by omega)]
  · rw [if_neg h, if_neg h, if_pos (by omega), if_pos (by omega)]
theorem joinPath_spec (s n : ByteArray) (hn : n.size ≤ 1048576) : Ev (fun k => spec_JoinPath.f k s n) (joinPathR s n) := by
  unfold spec_JoinPath.f
  refine ev_call (fault_spec s) ?_
  by_cases h : faultR s = 0
  · refine ev_cong (fun k => if_pos h) (ev_call (name_spec n (by omega)) ?_)
    rw [join_spec s n (fault_zero h).1 hn]
    by_cases h2 : nameB n = true
    · refine ev_cong (fun k => if_pos h2) (ev_call (g := fun k => some (joinR s n)) (Ev.now _) (ev_call (fault_spec (joinR s n)) ?_))
      by_cases h3 : faultR (joinR s n) = 0
      · rw [show joinPathR s n = (0, joinR s n) by unfold joinPathR; rw [if_pos h, if_pos h2, if_pos h3]]; exact ev_is fun k => if_pos h3
      · rw [show joinPathR s n = (faultR (joinR s n), (⟨#[]⟩ : ByteArray)) by unfold joinPathR; rw [if_pos h, if_pos h2, if_neg h3]]; exact ev_is fun k => if_neg h3
    · rw [show joinPathR s n = (5, (⟨#[]⟩ : ByteArray)) by unfold joinPathR; rw [if_pos h, if_neg h2]]
      exact ev_is fun k => if_neg h2
  · rw [show joinPathR s n = (faultR s, (⟨#[]⟩ : ByteArray)) by unfold joinPathR; rw [if_neg h]]
    exact ev_is fun k => if_neg h
theorem joinPath_impl (s n : ByteArray) (hn : n.size ≤ 1048576) : Ev (fun k => impl_JoinPath.f k s n) (joinPathR s n) := by
  unfold impl_JoinPath.f
  refine ev_call (fault_impl s) ?_
  by_cases h : faultR s = 0
  · refine ev_cong (fun k => if_pos h) (ev_call (name_impl n (by omega)) ?_)
    rw [join_impl s n (fault_zero h).1 hn]
    by_cases h2 : nameB n = true
    · refine ev_cong (fun k => if_pos h2) (ev_call (g := fun k => some (joinR s n)) (Ev.now _) (ev_call (fault_impl (joinR s n)) ?_))
      by_cases h3 : faultR (joinR s n) = 0
      · rw [show joinPathR s n = (0, joinR s n) by unfold joinPathR; rw [if_pos h, if_pos h2, if_pos h3]]; exact ev_is fun k => if_pos h3
      · rw [show joinPathR s n = (faultR (joinR s n), (⟨#[]⟩ : ByteArray)) by unfold joinPathR; rw [if_pos h, if_pos h2, if_neg h3]]; exact ev_is fun k => if_neg h3
    · rw [show joinPathR s n = (5, (⟨#[]⟩ : ByteArray)) by unfold joinPathR; rw [if_pos h, if_neg h2]]
      exact ev_is fun k => if_neg h2
  · rw [show joinPathR s n = (faultR s, (⟨#[]⟩ : ByteArray)) by unfold joinPathR; rw [if_neg h]]
    exact ev_is fun k => if_neg h
theorem FnExactJoinPath (s n : ByteArray) (_hs : s.size ≤ 9223372036854775807) (_hn : n.size ≤ 9223372036854775807) : ∃ k, laws_FnExactJoinPath.f k s n = some true := by
  refine Ev.rounds ?_
  unfold laws_FnExactJoinPath.f
  by_cases h : (s.size : Int) > 1048576
  · exact ev_is fun k => if_pos h
  · refine ev_cong (fun k => if_neg h) ?_
    by_cases h' : (n.size : Int) > 1048576
    · exact ev_done fun k => by simp only [laws_FnExactJoinPath.j0]; exact if_pos h'
    · refine ev_step (fun k => laws_FnExactJoinPath.j1 k s n) (fun k => by simp only [laws_FnExactJoinPath.j0]; exact if_neg h') ?_
      refine ev_step _ (fun k => by simp only [laws_FnExactJoinPath.j1]; rfl) ?_
      exact ev_call (joinPath_spec s n (by omega)) (ev_call (joinPath_impl s n (by omega)) (ev_is fun k => by simp [laws_eqTextResult.f]))
end Go.Proofs.YtlfhpljeeedbdaaDoor.Pure
