/- What is wrong with a path: by the program and by the reference the same, for every text. -/
import Derived.Test.YtlfhpljeeedbdaaDoorQax14
import Derived.Test.YtlfhpljeeedbdaaDoorQax4
import Derived.Test.YtlfhpljeeedbdaaDoorQax5
import Derived.Test.YtlfhpljeeedbdaaDoorQax8
import Derived.Test.YtlfhpljeeedbdaaDoorPath
namespace Go.Proofs.YtlfhpljeeedbdaaDoor.Pure
open Go.RowKit Go.Proofs.YtlfhpljeeedbdaaDoor.Qa Go.Proofs.YtlfhpljeeedbdaaDoorW.PrintWords Go.Proofs.YtlfhpljeeedbdaaDoorW.PrintLast Go.Proofs.YtlfhpljeeedbdaaDoor.Aid

theorem splF_size (l : List UInt8) : ∀ P, ∀ x ∈ splF P l, x.length ≤ P.length + l.length := by
  induction l with
  | nil => intro P x hx; rw [splF, List.mem_singleton] at hx; subst hx; omega
  | cons c l ih =>
    intro P x hx
    unfold splF at hx
    by_cases h : c = 47
    · rw [if_pos h] at hx
      rcases List.mem_cons.1 hx with rfl | hx
      · omega
      · have := ih [] x hx; simp at this ⊢; omega
    · rw [if_neg h] at hx
      have := ih _ x hx
      simp at this ⊢
      omega
theorem pieces_size (s : ByteArray) : ∀ x ∈ pieces s, x.size ≤ s.size := by
  intro x hx
  obtain ⟨l, hl, rfl⟩ := List.mem_map.1 hx
  have := splF_size s.data.toList [] l hl
  have e : (mkB l).size = l.length := rfl
  rw [List.length_nil] at this
  rw [e, size_list s]
  omega
def headR (s : ByteArray) : ByteArray := rdOf ByteArray.empty (pieces s) 0
def namesR (s : ByteArray) : List ByteArray × Bool :=
  if s.data.toList = [47] then ([], true) else if (pieces s).length < 2 then ([], false) else if (headR s).data.toList = [] then (if ((pieces s).drop 1).all nameB = true then ((pieces s).drop 1, true) else ([], false)) else ([], false)
def faultR (s : ByteArray) : Int :=
  if 24 < s.size then 2 else if s.data.toList = [47] then 0 else if 5 < (pieces s).length then 2 else if (namesR s).2 = true then 0 else 5
theorem head_bne (s : ByteArray) : ((rdOf ByteArray.empty (pieces s) 0).toList != ([] : List UInt8)) = !decide ((headR s).data.toList = []) := by
  unfold headR
  rw [tl]
  by_cases h : (rdOf ByteArray.empty (pieces s) 0).data.toList = []
  · rw [h]; rfl
  · rw [decide_eq_false h]
    exact bne_iff_ne.2 h
theorem fault_l0 (W : List ByteArray) (hW : ∀ x ∈ W, x.size ≤ 1048576) (hl : W.length ≤ 1048576) (d : Nat) : ∀ (i : Nat), i + d = W.length → Ev (fun k => impl_PathFault.l0 k W (W.length : Int) (i : Int)) (if (W.drop i).all nameB = true then 0 else 5) := by
  induction d with
  | zero =>
    intro i h
    rw [drop_end (by omega)]
    exact ev_done fun k => by simp only [impl_PathFault.l0]; rw [if_neg (by omega)]; rfl
  | succ d ih =>
    intro i h
    have hi : i < W.length := by omega
    have hx := hW W[i] (List.getElem_mem hi)
    rw [drop_at hi, List.all_cons]
    refine ev_step _ (fun k => by simp only [impl_PathFault.l0]; rw [if_pos (by omega), if_pos (by omega), if_pos (by omega), rdOf_at hi, wrap_up hi (by omega)]) (ev_call (name_impl W[i] (by omega)) ?_)
    cases c : nameB W[i] with
    | true => exact ev_cong (fun k => if_pos rfl) (by rw [Bool.true_and]; exact ih (i + 1) (by omega))
    | false => exact ev_is fun k => if_neg (by simp)
theorem names_l0 (W : List ByteArray) (hW : ∀ x ∈ W, x.size ≤ 1048576) (hl : W.length ≤ 1048576) (h1 : 1 ≤ W.length) (d : Nat) : ∀ (i : Nat), i + d = W.length → Ev (fun k => spec_l1Names.l0 k W (i : Int)) (if (W.drop i).all nameB = true then (W.drop 1, true) else ([], false)) := by
  induction d with
  | zero =>
    intro i h
    rw [drop_end (by omega)]
    exact ev_done fun k => by simp only [spec_l1Names.l0]; rw [if_neg (by omega), if_pos (by omega)]; rfl
  | succ d ih =>
    intro i h
    have hi : i < W.length := by omega
    have hx := hW W[i] (List.getElem_mem hi)
    rw [drop_at hi, List.all_cons]
    refine ev_step _ (fun k => by simp only [spec_l1Names.l0]; rw [if_pos (by omega), if_pos (by omega), rdOf_at hi, wrap_up hi (by omega)]) (ev_call (name_spec W[i] (by omega)) ?_)
    cases c : nameB W[i] with
    | true => exact ev_cong (fun k => if_pos rfl) (by rw [Bool.true_and]; exact ih (i + 1) (by omega))
    | false => exact ev_is fun k => if_neg (by simp)
theorem pieces_le (s : ByteArray) : (pieces s).length ≤ s.size + 1 := by
  have : s.data.toList.count 47 ≤ s.data.toList.length := List.count_le_length
  rw [pieces_len, size_list]
  omega
theorem names_spec (s : ByteArray) (hs : s.size ≤ 24) : Ev (fun k => spec_l1Names.f k s) (namesR s) := by
  have hl := pieces_le s
  unfold spec_l1Names.f namesR
  by_cases h : s.data.toList = [47]
  · rw [if_pos h]
    exact ev_is fun k => if_pos (by rw [tl]; exact h)
  · rw [if_neg h]
    refine ev_cong (fun k => if_neg (by rw [tl]; exact h)) (ev_call (cut_spec s (by omega)) ?_)
    by_cases h2 : (pieces s).length < 2
    · rw [if_pos h2]
      exact ev_cong (fun k => if_pos (by omega)) (ev_done fun k => by simp only [spec_l1Names.j0]; exact if_pos trivial)
    · rw [if_neg h2]
      refine ev_cong (fun k => (if_neg (by omega)).trans (if_pos (by omega))) ?_
      rw [head_bne]
      by_cases h3 : (headR s).data.toList = []
      · rw [if_pos h3]
        refine ev_step _ (fun k => by simp only [spec_l1Names.j0]; rw [if_neg (by simp [h3])]) ?_
        exact names_l0 (pieces s) (fun x hx => by have := pieces_size s x hx; omega) (by omega) (by omega) ((pieces s).length - 1) 1 (by omega)
      · rw [if_neg h3]
        exact ev_done fun k => by simp only [spec_l1Names.j0]; exact if_pos (by simp [h3])
theorem fault_spec (s : ByteArray) : Ev (fun k => spec_l1Fault.f k s) (faultR s) := by
  unfold spec_l1Fault.f faultR
  by_cases h : 24 < s.size
  · rw [if_pos h]
    exact ev_cong (fun k => if_pos (by omega)) (ev_done fun k => by simp only [spec_l1Fault.j0]; exact if_pos trivial)
  · rw [if_neg h]
    have tail : Ev (fun k => spec_l1Fault.j0 k s false) (if (namesR s).2 = true then 0 else 5) := by
      refine ev_step _ (fun k => by simp only [spec_l1Fault.j0]; rw [if_neg (by simp)]) (ev_call (names_spec s (by omega)) ?_)
      exact ev_is fun k => by by_cases h4 : (namesR s).2 = true <;> simp [h4]
    refine ev_cong (fun k => if_neg (by omega)) ?_
    by_cases h47 : s.data.toList = [47]
    · rw [if_pos h47]
      refine ev_cong (fun k => if_pos (by rw [tl]; exact h47)) ?_
      have e : (namesR s).2 = true := by unfold namesR; rw [if_pos h47]
      rw [if_pos e] at tail
      exact tail
    · rw [if_neg h47]
      refine ev_cong (fun k => if_neg (by rw [tl]; exact h47)) (ev_call (cut_spec s (by omega)) ?_)
      by_cases h5 : 5 < (pieces s).length
      · rw [if_pos h5, show decide (((pieces s).length : Int) > 5) = true from decide_eq_true (by omega)]
        exact ev_done fun k => by simp only [spec_l1Fault.j0]; exact if_pos trivial
      · rw [if_neg h5, show decide (((pieces s).length : Int) > 5) = false from decide_eq_false (by omega)]
        exact tail
theorem fault_impl (s : ByteArray) : Ev (fun k => impl_PathFault.f k s) (faultR s) := by
  unfold impl_PathFault.f faultR
  by_cases h : 24 < s.size
  · rw [if_pos h]
    exact ev_cong (fun k => if_pos (by omega)) (ev_done fun k => by simp only [impl_PathFault.j0]; exact if_pos trivial)
  · rw [if_neg h]
    have ct : strings_Count.f s (⟨#[47]⟩ : ByteArray) = some ((s.data.toList.count 47 : Nat) : Int) := if_pos rfl
    have pl := pieces_len s
    have hl := pieces_le s
    refine ev_cong (fun k => (if_neg (by omega)).trans (by rw [ct, Option.bind_some])) ?_
    by_cases h47 : s.data.toList = [47]
    · rw [if_pos h47, h47]
      refine ev_done fun k => ?_
      simp only [impl_PathFault.j0]; rw [if_neg (by decide), if_pos (by rw [tl]; exact h47)]
    · rw [if_neg h47]
      by_cases h5 : 5 < (pieces s).length
      · rw [if_pos h5, show decide (((s.data.toList.count 47 : Nat) : Int) > 4) = true from decide_eq_true (by omega)]
        exact ev_done fun k => by simp only [impl_PathFault.j0]; exact if_pos trivial
      · rw [if_neg h5, show decide (((s.data.toList.count 47 : Nat) : Int) > 4) = false from decide_eq_false (by omega)]
        refine ev_step _ (fun k => by simp only [impl_PathFault.j0]; rw [if_neg (by simp), if_neg (by rw [tl]; exact h47)]) (ev_call (split_impl s (by omega)) ?_)
        unfold namesR
        rw [if_neg h47]
        by_cases h2 : (pieces s).length < 2
        · rw [if_pos h2, if_neg (by simp)]
          exact ev_cong (fun k => if_pos (by omega)) (ev_done fun k => by simp only [impl_PathFault.j1]; exact if_pos trivial)
        · rw [if_neg h2]
          refine ev_cong (fun k => (if_neg (by omega)).trans (if_pos (by omega))) ?_
          rw [head_bne]
          by_cases h3 : (headR s).data.toList = []
          · rw [if_pos h3]
            refine ev_step _ (fun k => by simp only [impl_PathFault.j1]; rw [if_neg (by simp [h3]), if_pos (by omega), Option.bind_some]) ?_
            have := fault_l0 ((pieces s).drop 1) (fun x hx => by have := pieces_size s x (List.mem_of_mem_drop hx); omega) (by rw [List.length_drop]; omega) ((pieces s).drop 1).length 0 (by omega)
            rw [List.drop_zero] at this
            by_cases h6 : ((pieces s).drop 1).all nameB = true
            · rw [if_pos h6] at this ⊢; exact this
            · rw [if_neg h6] at this ⊢; exact this
          · rw [if_neg h3, if_neg (by simp)]
            exact ev_done fun k => by simp only [impl_PathFault.j1]; exact if_pos (by simp [h3])
/-- What is known of a path that has no fault. -/
theorem fault_zero {s : ByteArray} (h : faultR s = 0) : s.size ≤ 24 ∧ (s.data.toList = [47] ∨ s.data.toList ≠ [47] ∧ namesR s = ((pieces s).drop 1, true) ∧ 0 < s.data.toList.count 47) := by
  unfold faultR at h
  by_cases h1 : 24 < s.size
  · rw [if_pos h1] at h; omega
  · rw [if_neg h1] at h
    refine ⟨by omega, ?_⟩
    by_cases h2 : s.data.toList = [47]
    · exact .inl h2
    · rw [if_neg h2] at h
      refine .inr ⟨h2, ?_⟩
      by_cases h5 : 5 < (pieces s).length
      · rw [if_pos h5] at h; omega
      · rw [if_neg h5] at h
        have pl := pieces_len s
        by_cases h6 : (namesR s).2 = true
        · have h7 := h6
          unfold namesR at h6 ⊢
          rw [if_neg h2] at h6 ⊢
          by_cases h8 : (pieces s).length < 2
          · rw [if_pos h8] at h6; cases h6
          · rw [if_neg h8] at h6 ⊢
            by_cases h9 : (headR s).data.toList = []
            · rw [if_pos h9] at h6 ⊢
              by_cases h10 : ((pieces s).drop 1).all nameB = true
              · rw [if_pos h10]; exact ⟨rfl, by omega⟩
              · rw [if_neg h10] at h6; cases h6
            · rw [if_neg h9] at h6; cases h6
        · rw [if_neg h6] at h; omega
end Go.Proofs.YtlfhpljeeedbdaaDoor.Pure
