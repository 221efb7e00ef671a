/- Sums of lists: the program's answer is the reference's. -/
import Derived.Test.YtdhmohidnidnfaaQbx10
import Derived.Test.YtdhmohidnidnfaaQbx11
import Derived.Test.YtdhmohidnidnfaaQbx12
import Derived.Test.YtdhmohidnidnfaaQbx13
import Derived.Test.YtdhmohidnidnfaaQbx14
import Derived.Test.YtdhmohidnidnfaaQbx15
import Derived.Test.YtdhmohidnidnfaaQbx16
import Derived.Test.YtdhmohidnidnfaaQbx17
import Derived.Test.YtdhmohidnidnfaaQbx7
import Derived.Test.YtdhmohidnidnfaaQbx8
import Derived.Test.YtdhmohidnidnfaaQbx9
import Derived.Test.YtdhmohidnidnfaaAid
namespace Go.Proofs.Ytdhmohidnidnfaa.Pure
open Go.RowKit Go.Proofs.Ytdhmohidnidnfaa.Qb Go.Proofs.YtdhmohidnidnfaaW.PrintWords Go.Proofs.YtdhmohidnidnfaaW.PrintLast Go.Proofs.Ytdhmohidnidnfaa.Aid

def st (x n : Int) : Int := Int.tmod (wrap64 ((wrap64 ((wrap64 (x * 31)) + n)) + 1)) 1000003
def isSum (a : Int) : Bool := decide (0 ≤ a ∧ a ≤ 1000002)
theorem in_spec (a lo hi : Int) : spec_l1In.f a lo hi = some (decide (lo ≤ a ∧ a ≤ hi)) := by
  unfold spec_l1In.f
  by_cases h : lo ≤ a
  · rw [if_pos h]; simp [h]
  · rw [if_neg h]; simp [h]
theorem in_impl (a lo hi : Int) : impl_within.f a lo hi = some (decide (lo ≤ a ∧ a ≤ hi)) := by
  unfold impl_within.f
  by_cases h : lo ≤ a
  · rw [if_pos h]; simp [h]
  · rw [if_neg h]; simp [h]
theorem is_spec (a : Int) : spec_l3Is.f a = some (isSum a) := by unfold spec_l3Is.f; rw [in_spec]; rfl
theorem is_impl (a : Int) : impl_isSum.f a = some (isSum a) := by unfold impl_isSum.f; rw [in_impl]; rfl
theorem not_impl (a : Int) : impl_SumOf_1.f a = some (!isSum a) := by unfold impl_SumOf_1.f; rw [is_impl]; rfl

theorem specSum_l0 (l : List Int) (hl : l.length ≤ 4611686018427387904) (d : Nat) : ∀ (i : Nat) (acc : Int), i + d = l.length → Ev (fun k => spec_l3Sum.l0 k l acc (i : Int)) ((l.drop i).foldl st acc) := by
  induction d with
  | zero =>
    intro i acc h
    rw [drop_end (by omega)]
    exact ev_done fun k => by simp only [spec_l3Sum.l0]; rw [if_neg (by omega)]; rfl
  | succ d ih =>
    intro i acc h
    have hi : i < l.length := by omega
    rw [drop_at hi]
    refine ev_step (fun k => spec_l3Sum.l0 k l (st acc l[i]) ((i + 1 : Nat) : Int)) (fun k => ?_) (ih (i + 1) _ (by omega))
    simp only [spec_l3Sum.l0]; rw [if_pos (by omega), if_pos (by omega), wrap_up hi hl, rd_at hi]; rfl
theorem specSum (l : List Int) (hl : l.length ≤ 4611686018427387904) : Ev (fun k => spec_l3Sum.f k l) (l.foldl st 7) := by
  have h := specSum_l0 l hl l.length 0 7 (by omega)
  rw [List.drop_zero] at h
  exact h
theorem implSum_l0 (l : List Int) (hl : l.length ≤ 4611686018427387904) (d : Nat) : ∀ (i : Nat) (acc : Int), i + d = l.length → Ev (fun k => impl_sumOf.l0 k acc l (l.length : Int) (i : Int)) ((l.drop i).foldl st acc) := by
  induction d with
  | zero =>
    intro i acc h
    rw [drop_end (by omega)]
    exact ev_done fun k => by simp only [impl_sumOf.l0]; rw [if_neg (by omega)]; rfl
  | succ d ih =>
    intro i acc h
    have hi : i < l.length := by omega
    rw [drop_at hi]
    refine ev_step (fun k => impl_sumOf.l0 k (st acc l[i]) l (l.length : Int) ((i + 1 : Nat) : Int)) (fun k => ?_) (ih (i + 1) _ (by omega))
    simp only [impl_sumOf.l0]; rw [if_pos (by omega), if_pos (by omega), if_pos (by omega), wrap_up hi hl, rd_at hi]; rfl
theorem implSum (l : List Int) (hl : l.length ≤ 4611686018427387904) : Ev (fun k => impl_sumOf.f k l) (l.foldl st 7) := by
  have h := implSum_l0 l hl l.length 0 7 (by omega)
  rw [List.drop_zero] at h
  exact h
def sumR (l : List Int) : Int × Int := if l.length > 200 then (2, 0) else if l.all isSum then (0, l.foldl st 7) else (3, 0)
theorem specOf_l0 (l : List Int) (hl : l.length ≤ 4611686018427387904) (d : Nat) : ∀ (i : Nat), i + d = l.length → Ev (fun k => spec_SumOf.l0 k l (i : Int)) (if (l.drop i).all isSum then (0, l.foldl st 7) else (3, 0)) := by
  induction d with
  | zero =>
    intro i h
    rw [drop_end (by omega)]
    refine ev_step (fun k => (spec_l3Sum.f k l).bind fun t => some (0, t)) (fun k => ?_) (ev_call (specSum l hl) (Ev.now _))
    simp only [spec_SumOf.l0]; rw [if_neg (by omega)]
  | succ d ih =>
    intro i h
    have hi : i < l.length := by omega
    rw [drop_at hi]
    cases hs : isSum l[i] with
    | true =>
      have := ih (i + 1) (by omega)
      refine ev_step (fun k => spec_SumOf.l0 k l ((i + 1 : Nat) : Int)) (fun k => ?_) (by rw [List.all_cons, hs, Bool.true_and]; exact this)
      simp only [spec_SumOf.l0]; rw [if_pos (by omega), if_pos (by omega), wrap_up hi hl, rd_at hi, is_spec, hs]; rfl
    | false =>
      refine ev_done fun k => ?_
      simp only [spec_SumOf.l0]; rw [if_pos (by omega), if_pos (by omega), wrap_up hi hl, rd_at hi, is_spec, List.all_cons, hs]; rfl
theorem specOf (l : List Int) (hl : l.length ≤ 4611686018427387904) : Ev (fun k => spec_SumOf.f k l) (sumR l) := by
  unfold spec_SumOf.f sumR
  by_cases h : l.length > 200
  · exact ev_is fun k => by rw [if_pos (by omega), if_pos h]
  · rw [if_neg h]
    refine ev_cong (f := fun k => spec_SumOf.l0 k l 0) (fun k => by rw [if_neg (by omega)]) ?_
    have h := specOf_l0 l hl l.length 0 (by omega)
    rw [List.drop_zero] at h
    exact h
theorem idx_l0 (l : List Int) (hl : l.length ≤ 4611686018427387904) (d : Nat) : ∀ (i : Nat), i + d = l.length → ∃ r : Int, Ev (fun k => slices_IndexFunc_int64_int64.l0 k l (l.length : Int) (i : Int)) r ∧ (decide (r ≥ 0) = !(l.drop i).all isSum) := by
  induction d with
  | zero =>
    intro i h
    rw [drop_end (by omega)]
    exact ⟨-1, ev_done fun k => by simp only [slices_IndexFunc_int64_int64.l0]; rw [if_neg (by omega)], by decide⟩
  | succ d ih =>
    intro i h
    have hi : i < l.length := by omega
    rw [drop_at hi]
    cases hs : isSum l[i] with
    | true =>
      obtain ⟨r, hr, e⟩ := ih (i + 1) (by omega)
      refine ⟨r, ev_step (fun k => slices_IndexFunc_int64_int64.l0 k l (l.length : Int) ((i + 1 : Nat) : Int)) (fun k => ?_) hr, by rw [List.all_cons, hs, Bool.true_and]; exact e⟩
      simp only [slices_IndexFunc_int64_int64.l0]; rw [if_pos (by omega), if_pos (by omega), if_pos (by omega), wrap_up hi hl, rd_at hi, not_impl, hs]; rfl
    | false =>
      refine ⟨i, ev_done fun k => ?_, by rw [List.all_cons, hs, Bool.false_and]; simp⟩
      simp only [slices_IndexFunc_int64_int64.l0]; rw [if_pos (by omega), if_pos (by omega), if_pos (by omega), wrap_up hi hl, rd_at hi, not_impl, hs]; rfl
theorem has_impl (l : List Int) (hl : l.length ≤ 4611686018427387904) : Ev (fun k => slices_ContainsFunc_int64_int64.f k l) (!l.all isSum) := by
  obtain ⟨r, hr, e⟩ := idx_l0 l hl l.length 0 (by omega)
  rw [List.drop_zero] at e
  unfold slices_ContainsFunc_int64_int64.f slices_IndexFunc_int64_int64.f
  rw [← e]
  exact ev_call hr (Ev.now _)
theorem implOf (l : List Int) (hl : l.length ≤ 4611686018427387904) : Ev (fun k => impl_SumOf.f k l) (sumR l) := by
  unfold impl_SumOf.f sumR
  by_cases h : l.length > 200
  · exact ev_is fun k => by rw [if_pos (by omega), if_pos h]
  · rw [if_neg h]
    refine ev_cong (f := fun k => (slices_ContainsFunc_int64_int64.f k l).bind fun t120 => (if t120 = true then (some (3, 0)) else ((impl_sumOf.f k l).bind fun t121 => (some (0, t121))))) (fun k => by rw [if_neg (by omega)]) ?_
    refine ev_call (has_impl l hl) ?_
    cases hs : l.all isSum with
    | true => exact ev_cong (fun k => if_neg (by simp)) (ev_call (implSum l hl) (Ev.now _))
    | false => exact ev_is fun k => by simp
end Go.Proofs.Ytdhmohidnidnfaa.Pure
