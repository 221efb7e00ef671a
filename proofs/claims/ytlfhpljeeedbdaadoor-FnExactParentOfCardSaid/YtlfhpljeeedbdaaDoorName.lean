/- Names: what is one, by the program and by the reference: the same, for every text. -/
import Derived.Test.YtlfhpljeeedbdaaDoorQax10
import Derived.Test.YtlfhpljeeedbdaaDoorQax2
import Derived.Test.YtlfhpljeeedbdaaDoorBasic
namespace Go.Proofs.YtlfhpljeeedbdaaDoor.Pure
open Go.RowKit Go.Proofs.YtlfhpljeeedbdaaDoor.Qa Go.Proofs.YtlfhpljeeedbdaaDoorW.PrintWords Go.Proofs.YtlfhpljeeedbdaaDoorW.PrintLast Go.Proofs.YtlfhpljeeedbdaaDoor.Aid

theorem bt_at {s : ByteArray} {i : Nat} (h : i < s.data.toList.length) : bt s (i : Int) = ((s.data.toList[i]).toNat : Int) := by
  have h' : (i : Int).toNat < s.size := by rw [Int.toNat_natCast]; exact h
  unfold bt
  rw [dif_pos h']
  rfl
theorem size_list (s : ByteArray) : s.size = s.data.toList.length := rfl
/-- A sign of a name. -/
def okU (c : UInt8) : Bool := (decide (97 ≤ c.toNat) && decide (c.toNat ≤ 122)) || (decide (48 ≤ c.toNat) && decide (c.toNat ≤ 57))
def nameB (s : ByteArray) : Bool := s.data.toList.all okU && decide (1 ≤ (s.size : Int) ∧ (s.size : Int) ≤ 8)
theorem okU_true {c : UInt8} (h : okU c = true) : (97 ≤ (c.toNat : Int) ∧ (c.toNat : Int) ≤ 122) ∨ (48 ≤ (c.toNat : Int) ∧ (c.toNat : Int) ≤ 57) := by
  unfold okU at h
  simp only [Bool.or_eq_true, Bool.and_eq_true, decide_eq_true_eq] at h
  omega
theorem okU_false {c : UInt8} (h : okU c = false) : ¬ ((97 ≤ (c.toNat : Int) ∧ (c.toNat : Int) ≤ 122) ∨ (48 ≤ (c.toNat : Int) ∧ (c.toNat : Int) ≤ 57)) := by
  intro g
  have : okU c = true := by
    unfold okU
    simp only [Bool.or_eq_true, Bool.and_eq_true, decide_eq_true_eq]
    omega
  rw [h] at this
  cases this
theorem name_spec_l0 (s : ByteArray) (hl : s.size ≤ 4611686018427387904) (d : Nat) : ∀ (i : Nat), i + d = s.size → Ev (fun k => spec_l1Name.l0 k s (i : Int)) ((s.data.toList.drop i).all okU && decide (1 ≤ (s.size : Int) ∧ (s.size : Int) ≤ 8)) := by
  have hs := size_list s
  induction d with
  | zero =>
    intro i h
    rw [drop_end (by omega)]
    exact ev_done fun k => by simp only [spec_l1Name.l0]; rw [if_neg (by omega), spec_l1In_is]; rfl
  | succ d ih =>
    intro i h
    have hi : i < s.data.toList.length := by omega
    rw [drop_at hi, List.all_cons]
    cases c : okU s.data.toList[i] with
    | true =>
      have hc := okU_true c
      rw [Bool.true_and]
      refine ev_step (fun k => spec_l1Name.l0 k s ((i + 1 : Nat) : Int)) (fun k => ?_) (ih (i + 1) (by omega))
      simp only [spec_l1Name.l0]; rw [if_pos (by omega), if_pos (by omega), bt_at hi, wrap_up hi (by omega)]
      by_cases h1 : ((s.data.toList[i]).toNat : Int) < 97
      · rw [if_pos h1, if_neg (by omega), if_neg (by omega)]
      · rw [if_neg h1, if_neg (by omega)]
    | false =>
      have hc := okU_false c
      rw [Bool.false_and, Bool.false_and]
      refine ev_done fun k => ?_
      simp only [spec_l1Name.l0]; rw [if_pos (by omega), if_pos (by omega), bt_at hi]
      by_cases h1 : ((s.data.toList[i]).toNat : Int) < 97
      · rw [if_pos h1]
        by_cases h2 : ((s.data.toList[i]).toNat : Int) < 48
        · rw [if_pos h2]
        · rw [if_neg h2, if_pos (by omega)]
      · rw [if_neg h1, if_pos (by omega), if_neg (by omega), if_pos (by omega)]
theorem name_spec (s : ByteArray) (hl : s.size ≤ 4611686018427387904) : Ev (fun k => spec_l1Name.f k s) (nameB s) := by
  have h := name_spec_l0 s hl s.size 0 (by omega)
  rw [List.drop_zero] at h
  exact h
theorem name_impl_l0 (s : ByteArray) (hl : s.size ≤ 4611686018427387904) (d : Nat) : ∀ (i : Nat), i + d = s.size → Ev (fun k => impl_isName.l0 k s (s.size : Int) (i : Int)) ((s.data.toList.drop i).all okU && decide (1 ≤ (s.size : Int) ∧ (s.size : Int) ≤ 8)) := by
  have hs := size_list s
  induction d with
  | zero =>
    intro i h
    rw [drop_end (by omega)]
    exact ev_done fun k => by simp only [impl_isName.l0]; rw [if_neg (by omega), impl_within_is]; rfl
  | succ d ih =>
    intro i h
    have hi : i < s.data.toList.length := by omega
    rw [drop_at hi, List.all_cons]
    cases c : okU s.data.toList[i] with
    | true =>
      have hc := okU_true c
      rw [Bool.true_and]
      refine ev_step (fun k => impl_isName.l0 k s (s.size : Int) ((i + 1 : Nat) : Int)) (fun k => ?_) (ih (i + 1) (by omega))
      simp only [impl_isName.l0]; rw [if_pos (by omega), if_pos (by omega), if_pos (by omega), bt_at hi, wrap_up hi (by omega)]
      by_cases h1 : ((s.data.toList[i]).toNat : Int) < 97
      · rw [if_pos h1, if_neg (by omega), if_neg (by omega)]
      · rw [if_neg h1, if_neg (by omega)]
    | false =>
      have hc := okU_false c
      rw [Bool.false_and, Bool.false_and]
      refine ev_done fun k => ?_
      simp only [impl_isName.l0]; rw [if_pos (by omega), if_pos (by omega), if_pos (by omega), bt_at hi]
      by_cases h1 : ((s.data.toList[i]).toNat : Int) < 97
      · rw [if_pos h1]
        by_cases h2 : ((s.data.toList[i]).toNat : Int) < 48
        · rw [if_pos h2]
        · rw [if_neg h2, if_pos (by omega)]
      · rw [if_neg h1, if_pos (by omega), if_neg (by omega), if_pos (by omega)]
theorem name_impl (s : ByteArray) (hl : s.size ≤ 4611686018427387904) : Ev (fun k => impl_isName.f k s) (nameB s) := by
  have h := name_impl_l0 s hl s.size 0 (by omega)
  rw [List.drop_zero] at h
  exact h
end Go.Proofs.YtlfhpljeeedbdaaDoor.Pure
