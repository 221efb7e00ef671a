/- SessionsFault: the program's answer is the reference's, for all lists; it writes into no argument. No condition. -/
import Derived.Test.YtpblgkenjoalpaaQax3
import Derived.Test.YtpblgkenjoalpaaQax5
import Derived.Test.YtpblgkenjoalpaaQaxf
import Derived.Test.YtpblgkenjoalpaaQaxr
import Derived.Test.YtpblgkenjoalpaaSess
namespace Go.Proofs.Ytpblgkenjoalpaa.Pure
open Go.RowKit Go.Proofs.Ytpblgkenjoalpaa.Qa Go.Proofs.YtpblgkenjoalpaaW.PrintWords Go.Proofs.YtpblgkenjoalpaaW.PrintLast Go.Proofs.Ytpblgkenjoalpaa.Aid
theorem FnExactSessionsFault (l : List S52) (hl : l.length ≤ 9223372036854775807 ∧ ∀ y_ ∈ l, g52 y_) : ∃ k, laws_FnExactSessionsFault.f k l = some true := by
  refine Ev.rounds ?_
  unfold laws_FnExactSessionsFault.f
  obtain ⟨r, hr, hq⟩ := laws_szSessionS.ev l 1048576 hl.1 (by omega) (by omega)
  refine ev_call (ev_is fun _ => hr) ?_
  by_cases h : r < 0
  · exact ev_is fun k => if_pos h
  · refine ev_cong (fun k => if_neg h) ?_
    have hn := (hq (by omega)).2
    have h1 : l.length ≤ 1048576 := by omega
    have ht := laws_toSessionS.ev l h1
    have h2 : (l.map cvSession).length ≤ 4611686018427387904 := by rw [List.length_map]; omega
    unfold spec_SessionsFault.f
    refine ev_call ht (ev_call (ev_call (specFault _ h2) (Ev.now _)) (ev_call ht (ev_call (implFault _ h2) (ev_cong (fun k => if_pos rfl) ?_))))
    exact ev_call ht (ev_call (laws_eqSessionS.ev _ h2) (ev_is fun k => if_pos rfl))
end Go.Proofs.Ytpblgkenjoalpaa.Pure
