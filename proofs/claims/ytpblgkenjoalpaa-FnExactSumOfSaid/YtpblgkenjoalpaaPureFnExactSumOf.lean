/- SumOf: the program's answer is the reference's, for all lists of numbers; it writes into no argument. No condition. -/
import Derived.Test.YtpblgkenjoalpaaQax5
import Derived.Test.YtpblgkenjoalpaaQaxf
import Derived.Test.YtpblgkenjoalpaaPureFnExactPairSum
namespace Go.Proofs.Ytpblgkenjoalpaa.Pure
open Go.RowKit Go.Proofs.Ytpblgkenjoalpaa.Qa Go.Proofs.YtpblgkenjoalpaaW.PrintWords Go.Proofs.YtpblgkenjoalpaaW.PrintLast Go.Proofs.Ytpblgkenjoalpaa.Aid

theorem FnExactSumOf (l : List Int) (_ : l.length ≤ 9223372036854775807 ∧ ∀ y ∈ l, (Lit.int .i64 y).wf = true) : ∃ k, laws_FnExactSumOf.f k l = some true := by
  refine Ev.rounds ?_
  unfold laws_FnExactSumOf.f
  by_cases h : (l.length : Int) > 1048576
  · exact ev_is fun k => if_pos h
  · refine ev_cong (fun k => if_neg h) ?_
    have h1 : l.length ≤ 1048576 := by omega
    have h2 : l.length ≤ 4611686018427387904 := by omega
    have ht := laws_toInt64S.ev l h1
    refine ev_call ht (ev_call (specOf l h2) (ev_call ht (ev_call (implOf l h2) ?_)))
    refine ev_call (a := true) (ev_is fun k => by rw [eq_int]; simp) (ev_cong (fun k => if_pos rfl) ?_)
    exact ev_call ht (ev_call (laws_eqInt64S.ev l h2) (ev_is fun k => if_pos rfl))
end Go.Proofs.Ytpblgkenjoalpaa.Pure
