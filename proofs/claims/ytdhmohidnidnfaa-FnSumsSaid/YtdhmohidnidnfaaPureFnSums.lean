/- FnSums: a sum is what the document tells, within its bounds, for every code. No condition. -/
import Derived.Test.YtdhmohidnidnfaaQbx18
import Derived.Test.YtdhmohidnidnfaaQbx19
import Derived.Test.YtdhmohidnidnfaaQbx2
import Derived.Test.YtdhmohidnidnfaaQbx20
import Derived.Test.YtdhmohidnidnfaaQbx21
import Derived.Test.YtdhmohidnidnfaaQbx3
import Derived.Test.YtdhmohidnidnfaaQbx6
import Derived.Test.YtdhmohidnidnfaaSum
import Derived.Test.YtdhmohidnidnfaaNext
namespace Go.Proofs.Ytdhmohidnidnfaa.Pure
open Go.RowKit Go.Proofs.Ytdhmohidnidnfaa.Qb Go.Proofs.YtdhmohidnidnfaaW.PrintWords Go.Proofs.YtdhmohidnidnfaaW.PrintLast Go.Proofs.Ytdhmohidnidnfaa.Aid
theorem drawSum_l0 {c : List Int} (hc : CodeT c) (d : Nat) : ∀ (out : List Int) (a : Int), out.length + d ≤ 8 → 0 ≤ a → a + d ≤ 1000 → ∃ x : List Int, Ev (fun k => spec_DrawSumOf.l0 k out (d : Int) c a) x ∧ x.length ≤ 1000 := by
  induction d with
  | zero =>
    intro out a ho h0 h1
    obtain ⟨r, hr, r0, r1⟩ := next_is hc a 12 h0 (by omega) (by omega) (by omega)
    obtain ⟨q, hq, hm⟩ := pick_is hc (a + 1) [(-1), 1000002, 1000003] (by omega) (by omega) (by simp) (by simp)
    by_cases c0 : r = 0
    · refine ⟨out ++ [q], ev_done fun k => ?_, by simp; omega⟩
      simp only [spec_DrawSumOf.l0]
      rw [if_neg (by omega), hr, Option.bind_some, if_pos c0, hq, Option.bind_some, if_pos (by omega)]
    · by_cases c1 : r = 1
      · refine ⟨List.replicate 201 0, ev_done fun k => ?_, by rw [List.length_replicate]; omega⟩
        simp only [spec_DrawSumOf.l0]
        rw [if_neg (by omega), hr, Option.bind_some, if_neg c0, if_pos c1, if_pos (by omega)]
      · refine ⟨out, ev_done fun k => ?_, by omega⟩
        simp only [spec_DrawSumOf.l0]
        rw [if_neg (by omega), hr, Option.bind_some, if_neg c0, if_neg c1]
  | succ d ih =>
    intro out a ho h0 h1
    obtain ⟨r, hr, r0, r1⟩ := next_is hc a 300 h0 (by omega) (by omega) (by omega)
    obtain ⟨x, hx, hl⟩ := ih (out ++ [r]) (a + 1) (by simp; omega) (by omega) (by omega)
    refine ⟨x, ev_step _ (fun k => ?_) hx, hl⟩
    have wd : wrap64 (((d + 1 : Nat) : Int) - 1) = (d : Int) := by rw [wrap_id (by omega) (by omega)]; omega
    simp only [spec_DrawSumOf.l0]
    rw [if_pos (by omega), hr, Option.bind_some, if_pos (by omega), wd]
theorem drawSum_ev {c : List Int} (hc : CodeT c) : ∃ x : List Int, Ev (fun k => spec_DrawSumOf.f k c) x ∧ x.length ≤ 1000 := by
  obtain ⟨r, hr, r0, r1⟩ := next_is hc 0 9 (by omega) (by omega) (by omega) (by omega)
  obtain ⟨d, rfl⟩ : ∃ d : Nat, r = (d : Int) := ⟨r.toNat, by omega⟩
  obtain ⟨x, hx, hl⟩ := drawSum_l0 hc d [] (0 + 1) (by simp; omega) (by omega) (by omega)
  refine ⟨x, ?_, hl⟩
  unfold spec_DrawSumOf.f spec_l1Source.f
  exact ev_cong (fun k => by rw [Option.bind_some, hr, Option.bind_some]) hx
theorem drawPair_is {c : List Int} (hc : CodeT c) : ∃ p : Int × Int, spec_DrawPairSum.f c = some p := by
  obtain ⟨r, hr, r0, r1⟩ := next_is hc 0 999 (by omega) (by omega) (by omega) (by omega)
  obtain ⟨q, hq, _⟩ := pick_is hc (0 + 1) [r, 1000002, 1000003, (-1)] (by omega) (by omega) (by simp) (by simp)
  obtain ⟨s, hs, s0, s1⟩ := next_is hc (0 + 1 + 1) 999 (by omega) (by omega) (by omega) (by omega)
  refine ⟨(q, s), ?_⟩
  unfold spec_DrawPairSum.f spec_l1Source.f
  rw [Option.bind_some, hr, Option.bind_some, hq, Option.bind_some, hs, Option.bind_some]
theorem st_is {x n : Int} (h0 : 0 ≤ x) (h1 : x < 1000003) (n0 : 0 ≤ n) (n1 : n ≤ 1000002) : st x n = Int.tmod (x * 31 + n + 1) 1000003 := by
  unfold st
  have w1 : wrap64 (x * 31) = x * 31 := wrap_id (by omega) (by omega)
  have w2 : wrap64 (x * 31 + n) = x * 31 + n := wrap_id (by omega) (by omega)
  have w3 : wrap64 (x * 31 + n + 1) = x * 31 + n + 1 := wrap_id (by omega) (by omega)
  rw [w1, w2, w3]
theorem fold_in : ∀ (l : List Int) (a : Int), l.all isSum = true → 0 ≤ a → a < 1000003 → 0 ≤ l.foldl st a ∧ l.foldl st a < 1000003
  | [], a, _, h0, h1 => ⟨h0, h1⟩
  | n :: l, a, h, h0, h1 => by
    rw [List.all_cons, Bool.and_eq_true] at h
    have hn := of_decide_eq_true h.1
    have e := st_is h0 h1 hn.1 hn.2
    refine fold_in l (st a n) h.2 ?_ ?_
    · rw [e]; exact Int.tmod_nonneg _ (by omega)
    · rw [e]; exact Int.tmod_lt_of_pos _ (by omega)
theorem FnSums (l0 : List Int) (h : l0.length ≤ 9223372036854775807 ∧ ∀ y_ ∈ l0, (Lit.int .u8 y_).wf = true) : ∃ k, laws_FnSums.f k l0 = some true := by
  refine Ev.rounds ?_
  unfold laws_FnSums.f laws_lwBig.f
  by_cases hb : (l0.length : Int) > 1048576
  · exact ev_is fun k => by rw [Option.bind_some, if_pos (decide_eq_true hb)]
  · refine ev_cong (fun k => by rw [Option.bind_some, if_neg (by simpa using hb)]) ?_
    have hc := code_of h hb
    obtain ⟨x, hx, hl⟩ := drawSum_ev hc
    obtain ⟨⟨a, b⟩, hp⟩ := drawPair_is hc
    have hl' : x.length ≤ 4611686018427387904 := by omega
    refine ev_step _ (fun k => by simp only [laws_FnSums.j0]; rfl) (ev_call hx (ev_call (implOf x hl') ?_))
    by_cases g : (sumR x).1 = 0
    · refine ev_cong (fun k => if_pos g) ?_
      have h2 : x.length ≤ 200 := by
        by_cases q : x.length > 200
        · rw [show sumR x = (2, 0) by unfold sumR; exact if_pos q] at g
          exact absurd g (by decide)
        · omega
      have h3 : x.all isSum = true := by
        cases q : x.all isSum with
        | true => rfl
        | false =>
          rw [show sumR x = (3, 0) by unfold sumR; rw [if_neg (by omega), if_neg (by rw [q]; decide)]] at g
          exact absurd g (by decide)
      have e : sumR x = (0, x.foldl st 7) := by unfold sumR; rw [if_neg (by omega), if_pos h3]
      obtain ⟨v0, v1⟩ := fold_in x 7 h3 (by omega) (by omega)
      have hs := specOf x hl'
      rw [e] at hs ⊢
      have hm := implOf ((([] : List Int) ++ x) ++ [3]) (by simp; omega)
      have pI := implOf [1, a, b] (by simp)
      have pS := specOf [1, a, b] (by simp)
      have qI : Ev (fun k => impl_PairSum.f k a b) ((sumR [1, a, b]).1, (sumR [1, a, b]).2) := by
        unfold impl_PairSum.f
        exact ev_call pI (Ev.now _)
      have qS : Ev (fun k => spec_PairSum.f k a b) ((sumR [1, a, b]).1, (sumR [1, a, b]).2) := by
        unfold spec_PairSum.f
        exact ev_call pS (Ev.now _)
      have last : Ev (fun k => (spec_PairSum.f k a b).bind fun bt => some ((sumR [1, a, b]).1 == bt.1 && ((sumR [1, a, b]).2 == bt.2))) true := ev_call qS (ev_is fun k => by simp)
      refine ev_step _ (fun k => by simp only [laws_FnSums.j1]; rw [hp, Option.bind_some]) (ev_call qI ?_)
      refine ev_cong (fun k => by rw [Option.bind_some, if_pos (by simp; omega), Option.bind_some, if_pos (by simp; omega)]) (ev_call hm ?_)
      refine ev_cong (fun k => (if_pos v0).trans (if_pos v1)) (ev_call hs (ev_cong (fun k => if_pos rfl) ?_))
      by_cases g2 : (sumR ((([] : List Int) ++ x) ++ [3])).1 = 0
      · refine ev_cong (fun k => if_pos g2) ?_
        have h4 : ¬ ((([] : List Int) ++ x) ++ [3]).length > 200 := by
          intro q
          rw [show sumR ((([] : List Int) ++ x) ++ [3]) = (2, 0) by unfold sumR; exact if_pos q] at g2
          exact absurd g2 (by decide)
        have e2 : sumR ((([] : List Int) ++ x) ++ [3]) = (0, st (x.foldl st 7) 3) := by
          unfold sumR
          rw [if_neg h4, if_pos (by rw [List.nil_append, List.all_append, h3]; decide), List.nil_append, List.foldl_append]
          rfl
        rw [e2]
        refine ev_cong (fun k => if_pos ?_) last
        have w1 : wrap64 (x.foldl st 7 * 31) = x.foldl st 7 * 31 := wrap_id (by omega) (by omega)
        have w2 : wrap64 (x.foldl st 7 * 31 + 4) = x.foldl st 7 * 31 + 4 := wrap_id (by omega) (by omega)
        show st (x.foldl st 7) 3 = Int.tmod (wrap64 (wrap64 (x.foldl st 7 * 31) + 4)) 1000003
        rw [st_is v0 v1 (by omega) (by omega), w1, w2]
        congr 1
        omega
      · exact ev_cong (fun k => if_neg g2) last
    · exact ev_cong (fun k => if_neg g) (ev_call (specOf x hl') (ev_is fun k => by simp))
end Go.Proofs.Ytdhmohidnidnfaa.Pure
