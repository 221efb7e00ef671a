-- By gp.py (wip/gen of the work's repo), a program of this workplace over the kit's print: Lean checks it.
import Derived.Test.YtpblgkenjoalpaaQax0
import Derived.Test.YtpblgkenjoalpaaQax3
import Derived.Test.YtpblgkenjoalpaaQax4
import Derived.Test.YtpblgkenjoalpaaQax5
import Derived.Test.YtpblgkenjoalpaaAid
namespace Go.Proofs.Ytpblgkenjoalpaa.Qa
open Go.RowKit Go.Proofs.YtpblgkenjoalpaaW.PrintWords Go.Proofs.YtpblgkenjoalpaaW.PrintLast Go.Proofs.Ytpblgkenjoalpaa.Aid
set_option linter.unusedVariables false
set_option linter.unusedSimpArgs false

def cvSession (x : S52) : S50 := (⟨x.f0, x.f1⟩ : S50)
theorem laws_toSession.is (x : S52) : laws_toSession.f x.f0 x.f1 = some (x.f0, x.f1) := by
  rfl
theorem laws_eqSession.is (x : S50) : laws_eqSession.f x.f0 x.f1 x.f0 x.f1 = some true := by
  simp [laws_eqSession.f]
theorem rd_T52_at {l : List (S52)} {i : Nat} (h : i < l.length) : rd_T52 l (i : Int) = l[i] := by
  unfold rd_T52
  rw [Int.toNat_natCast, List.getD_eq_getElem?_getD, List.getElem?_eq_getElem h]
  rfl
theorem rd_T52_set {l : List (S52)} {i : Nat} {v : S52} (h : i < l.length) : rd_T52 (l.set i v) (i : Int) = v := by
  rw [rd_T52_at (by simpa using h)]
  simp
theorem laws_szSessionS.ev (l : List (S52)) (a : Int) (hl : l.length ≤ 9223372036854775807) (h0 : 0 ≤ a) (h1 : a ≤ 1048576) : ∃ r : Int, (laws_szSessionS.f l a = some r) ∧ (0 ≤ r → r ≤ a ∧ (l.length : Int) ≤ a) := by
  unfold laws_szSessionS.f
  rw [wrap_id (by omega) (by omega)]
  by_cases h : a - (l.length : Int) < 0
  · exact ⟨-1, if_pos h, by omega⟩
  · exact ⟨_, if_neg h, by omega⟩
theorem laws_toSessionS.l0_ev (l : List (S52)) (hl : l.length ≤ 4611686018427387904) (d : Nat) : ∀ (i : Nat) (m : List (S50)), i + d = l.length → m.length = l.length → m.take i = (l.map cvSession).take i → Ev (fun k => laws_toSessionS.l0 k l m (i : Int)) (l.map cvSession) := by
  induction d with
  | zero =>
    intro i m h hm ht
    have e : m = (l.map cvSession) := by rw [List.take_of_length_le (by omega), List.take_of_length_le (by rw [List.length_map]; omega)] at ht; exact ht
    exact ev_done fun k => by simp only [laws_toSessionS.l0]; rw [if_neg (by omega), e]
  | succ d ih =>
    intro i m h hm ht
    have hi : i < l.length := by omega
    have hi' : i < (l.map cvSession).length := by rw [List.length_map]; omega
    have hv : (l.map cvSession)[i] = (cvSession l[i]) := by rw [List.getElem_map]
    refine ev_step (fun k => laws_toSessionS.l0 k l (m.set i (cvSession l[i])) ((i + 1 : Nat) : Int)) (fun k => ?_) (ih (i + 1) (m.set i (cvSession l[i])) (by omega) (by rw [List.length_set]; exact hm) ?_)
    · simp only [laws_toSessionS.l0]; rw [if_pos (by omega), if_pos (by omega), rd_T52_at hi, laws_toSession.is]; simp only [Option.bind_some]; rw [if_pos (by omega), wrap_up hi hl, Int.toNat_natCast]; rfl
    · exact take_set_next (by omega) hi' ht hv
theorem laws_toSessionS.ev (l : List (S52)) (hl : l.length ≤ 1048576) : Ev (fun k => laws_toSessionS.f k l) (l.map cvSession) := by
  unfold laws_toSessionS.f
  refine ev_cong (f := fun k => laws_toSessionS.l0 k l (List.replicate l.length z50) ((0 : Nat) : Int)) (fun k => ?_) (laws_toSessionS.l0_ev l (by omega) l.length 0 _ (by omega) (by simp) (by simp))
  rw [if_pos (by omega), if_pos (by rw [Int.toNat_natCast]; omega), Int.toNat_natCast]; rfl
theorem rd_T50_at {l : List (S50)} {i : Nat} (h : i < l.length) : rd_T50 l (i : Int) = l[i] := by
  unfold rd_T50
  rw [Int.toNat_natCast, List.getD_eq_getElem?_getD, List.getElem?_eq_getElem h]
  rfl
theorem rd_T50_set {l : List (S50)} {i : Nat} {v : S50} (h : i < l.length) : rd_T50 (l.set i v) (i : Int) = v := by
  rw [rd_T50_at (by simpa using h)]
  simp
theorem laws_eqSessionS.l0_ev (l : List (S50)) (hl : l.length ≤ 4611686018427387904) (d : Nat) : ∀ (i : Nat), i + d = l.length → Ev (fun k => laws_eqSessionS.l0 k l l (i : Int)) true := by
  induction d with
  | zero => exact fun i h => ev_done fun k => by simp only [laws_eqSessionS.l0]; rw [if_neg (by omega)]
  | succ d ih =>
    intro i h
    have hi : i < l.length := by omega
    refine ev_step (fun k => laws_eqSessionS.l0 k l l ((i + 1 : Nat) : Int)) (fun k => ?_) (ih (i + 1) (by omega))
    simp only [laws_eqSessionS.l0]; rw [if_pos (by omega), if_pos (by omega), if_pos (by omega), laws_eqSession.is, Option.bind_some, if_pos rfl, wrap_up hi hl]
theorem laws_eqSessionS.ev (l : List (S50)) (hl : l.length ≤ 4611686018427387904) : Ev (fun k => laws_eqSessionS.f k l l) true := by
  unfold laws_eqSessionS.f
  exact ev_cong (fun k => if_pos rfl) (laws_eqSessionS.l0_ev l hl l.length 0 (by omega))
theorem laws_toInt64S.l0_ev (l : List Int) (hl : l.length ≤ 4611686018427387904) (d : Nat) : ∀ (i : Nat) (m : List Int), i + d = l.length → m.length = l.length → m.take i = l.take i → Ev (fun k => laws_toInt64S.l0 k l m (i : Int)) l := by
  induction d with
  | zero =>
    intro i m h hm ht
    have e : m = l := by rw [List.take_of_length_le (by omega), List.take_of_length_le (by omega)] at ht; exact ht
    exact ev_done fun k => by simp only [laws_toInt64S.l0]; rw [if_neg (by omega), e]
  | succ d ih =>
    intro i m h hm ht
    have hi : i < l.length := by omega
    have hi' : i < l.length := by omega
    have hv : l[i] = l[i] := by rfl
    refine ev_step (fun k => laws_toInt64S.l0 k l (m.set i l[i]) ((i + 1 : Nat) : Int)) (fun k => ?_) (ih (i + 1) (m.set i l[i]) (by omega) (by rw [List.length_set]; exact hm) ?_)
    · simp only [laws_toInt64S.l0]; rw [if_pos (by omega), if_pos (by omega), rd_at hi]; rw [if_pos (by omega), wrap_up hi hl, Int.toNat_natCast]
    · exact take_set_next (by omega) hi' ht hv
theorem laws_toInt64S.ev (l : List Int) (hl : l.length ≤ 1048576) : Ev (fun k => laws_toInt64S.f k l) l := by
  unfold laws_toInt64S.f
  refine ev_cong (f := fun k => laws_toInt64S.l0 k l (List.replicate l.length 0) ((0 : Nat) : Int)) (fun k => ?_) (laws_toInt64S.l0_ev l (by omega) l.length 0 _ (by omega) (by simp) (by simp))
  rw [if_pos (by omega), if_pos (by rw [Int.toNat_natCast]; omega), Int.toNat_natCast]; rfl
theorem laws_eqInt64S.l0_ev (l : List Int) (hl : l.length ≤ 4611686018427387904) (d : Nat) : ∀ (i : Nat), i + d = l.length → Ev (fun k => laws_eqInt64S.l0 k l l (i : Int)) true := by
  induction d with
  | zero => exact fun i h => ev_done fun k => by simp only [laws_eqInt64S.l0]; rw [if_neg (by omega)]
  | succ d ih =>
    intro i h
    have hi : i < l.length := by omega
    refine ev_step (fun k => laws_eqInt64S.l0 k l l ((i + 1 : Nat) : Int)) (fun k => ?_) (ih (i + 1) (by omega))
    simp only [laws_eqInt64S.l0]; rw [if_pos (by omega), if_pos (by omega), if_pos (by omega), if_pos trivial, wrap_up hi hl]
theorem laws_eqInt64S.ev (l : List Int) (hl : l.length ≤ 4611686018427387904) : Ev (fun k => laws_eqInt64S.f k l l) true := by
  unfold laws_eqInt64S.f
  exact ev_cong (fun k => if_pos rfl) (laws_eqInt64S.l0_ev l hl l.length 0 (by omega))
end Go.Proofs.Ytpblgkenjoalpaa.Qa
