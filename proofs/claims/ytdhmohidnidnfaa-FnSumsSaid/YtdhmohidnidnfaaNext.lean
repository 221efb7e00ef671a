/- The draws' numbers: they answer, whatever the code, within what is asked. -/
import Derived.Test.YtdhmohidnidnfaaQbx4
import Derived.Test.YtdhmohidnidnfaaQbx5
import Derived.Test.YtdhmohidnidnfaaAid
namespace Go.Proofs.Ytdhmohidnidnfaa.Pure
open Go.RowKit Go.Proofs.Ytdhmohidnidnfaa.Qb Go.Proofs.YtdhmohidnidnfaaW.PrintWords Go.Proofs.YtdhmohidnidnfaaW.PrintLast Go.Proofs.Ytdhmohidnidnfaa.Aid
/-- A code that is drawn from. -/
structure CodeT (c : List Int) : Prop where
  byte : ∀ y ∈ c, 0 ≤ y ∧ y ≤ 255
  len : c.length ≤ 1048576
theorem next_is {c : List Int} (hc : CodeT c) (a n : Int) (h0 : 0 ≤ a) (h1 : a ≤ 1000000) (n0 : 1 ≤ n) (n1 : n ≤ 1000000) : ∃ r : Int, spec_l1Next.f c a n = some (r, a + 1) ∧ 0 ≤ r ∧ r < n := by
  have w1 : wrap64 (a + 1) = a + 1 := wrap_id (by omega) (by omega)
  have w2 : wrap64 (a + 1 - 1) = a := by rw [wrap_id (by omega) (by omega)]; omega
  have a1 : ¬ n < 1 := by omega
  have a2 : ¬ n = 0 := by omega
  have hl := hc.len
  unfold spec_l1Next.f
  rw [if_neg a1, w1, w2]
  by_cases hk : (c.length : Int) = 0
  · have w3 : wrap64 (a * 7) = a * 7 := wrap_id (by omega) (by omega)
    rw [if_pos hk, if_neg a2, w3]
    exact ⟨_, rfl, Int.tmod_nonneg _ (by omega), Int.tmod_lt_of_pos _ (by omega)⟩
  · have hp : (0 : Int) < (c.length : Int) := by omega
    have t0 : 0 ≤ Int.tmod a (c.length : Int) := Int.tmod_nonneg _ h0
    have t1 : Int.tmod a (c.length : Int) < (c.length : Int) := Int.tmod_lt_of_pos _ hp
    have u0 : 0 ≤ Int.tmod (a + 1) (c.length : Int) := Int.tmod_nonneg _ (by omega)
    have u1 : Int.tmod (a + 1) (c.length : Int) < (c.length : Int) := Int.tmod_lt_of_pos _ hp
    have t2 : Int.tdiv a (c.length : Int) = a / (c.length : Int) := Int.tdiv_eq_ediv_of_nonneg h0
    have t3 : 0 ≤ a / (c.length : Int) := Int.ediv_nonneg h0 (by omega)
    have t4 : a / (c.length : Int) ≤ a := Int.ediv_le_self _ h0
    rw [if_neg hk, if_pos t0, if_pos t1, t2]
    obtain ⟨j, hj⟩ : ∃ j : Nat, Int.tmod a (c.length : Int) = (j : Int) := ⟨(Int.tmod a (c.length : Int)).toNat, by omega⟩
    obtain ⟨j2, hj2⟩ : ∃ j2 : Nat, Int.tmod (a + 1) (c.length : Int) = (j2 : Int) := ⟨(Int.tmod (a + 1) (c.length : Int)).toNat, by omega⟩
    rw [hj2] at u0 u1
    rw [hj] at t1
    rw [w1, hj2, hj]
    have hjl : j < c.length := by omega
    have hjl2 : j2 < c.length := by omega
    rw [rd_at hjl, rd_at hjl2, if_pos u0, if_pos u1, if_neg a2, if_neg a2]
    obtain ⟨b0, b1⟩ := hc.byte c[j] (List.getElem_mem hjl)
    obtain ⟨d0, d1⟩ := hc.byte c[j2] (List.getElem_mem hjl2)
    generalize c[j] = v at b0 b1 ⊢
    generalize c[j2] = x at d0 d1 ⊢
    generalize a / (c.length : Int) = q at t3 t4 ⊢
    have w3 : wrap64 q = q := wrap_id (by omega) (by omega)
    have w4 : wrap64 (q * 37) = q * 37 := wrap_id (by omega) (by omega)
    have w5 : wrap64 v = v := wrap_id (by omega) (by omega)
    have w6 : wrap64 (v + q * 37) = v + q * 37 := wrap_id (by omega) (by omega)
    have w7 : wrap64 ((v + q * 37) * 251) = (v + q * 37) * 251 := wrap_id (by omega) (by omega)
    have w8 : wrap64 x = x := wrap_id (by omega) (by omega)
    have w9 : wrap64 (x * 13) = x * 13 := wrap_id (by omega) (by omega)
    have w10 : wrap64 ((v + q * 37) * 251 + x * 13) = (v + q * 37) * 251 + x * 13 := wrap_id (by omega) (by omega)
    have w11 : wrap64 ((v + q * 37) * 251 + x * 13 + a) = (v + q * 37) * 251 + x * 13 + a := wrap_id (by omega) (by omega)
    rw [w3, w4, w5, w6, w7, w8, w9, w10, w11]
    by_cases a3 : n > 200
    · rw [if_pos a3]
      exact ⟨_, rfl, Int.tmod_nonneg _ (by omega), Int.tmod_lt_of_pos _ (by omega)⟩
    · rw [if_neg a3]
      exact ⟨_, rfl, Int.tmod_nonneg _ (by omega), Int.tmod_lt_of_pos _ (by omega)⟩
theorem pick_is {c : List Int} (hc : CodeT c) (a : Int) (l : List Int) (h0 : 0 ≤ a) (h1 : a ≤ 1000000) (n0 : 1 ≤ l.length) (n1 : l.length ≤ 1000) : ∃ r : Int, spec_l1Pick.f c a l = some (r, a + 1) ∧ r ∈ l := by
  obtain ⟨r, hr, r0, r1⟩ := next_is hc a (l.length : Int) h0 h1 (by omega) (by omega)
  obtain ⟨j, rfl⟩ : ∃ j : Nat, r = (j : Int) := ⟨r.toNat, by omega⟩
  have hj : j < l.length := by omega
  refine ⟨l[j], ?_, List.getElem_mem hj⟩
  unfold spec_l1Pick.f
  rw [hr, Option.bind_some, if_pos r0, if_pos r1, rd_at hj]
theorem code_of {c : List Int} (h : c.length ≤ 9223372036854775807 ∧ ∀ y_ ∈ c, (Lit.int .u8 y_).wf = true) (hb : ¬ (c.length : Int) > 1048576) : CodeT c := by
  refine ⟨fun y hy => ?_, by omega⟩
  have h' : (decide (IntKind.u8.min ≤ y) && decide (y ≤ IntKind.u8.max)) = true := h.2 y hy
  simp only [Bool.and_eq_true, decide_eq_true_eq] at h'
  exact h'
end Go.Proofs.Ytdhmohidnidnfaa.Pure
