/- The last mark of a path: by the program (strings.LastIndex) and by the reference the same. -/
import Derived.Test.YtlfhpljeeedbdaaDoorQax29
import Derived.Test.YtlfhpljeeedbdaaDoorQax31
import Derived.Test.YtlfhpljeeedbdaaDoorQax32
import Derived.Test.YtlfhpljeeedbdaaDoorQax33
import Derived.Test.YtlfhpljeeedbdaaDoorPath2
namespace Go.Proofs.YtlfhpljeeedbdaaDoor.Pure
open Go.RowKit Go.Proofs.YtlfhpljeeedbdaaDoor.Qa Go.Proofs.YtlfhpljeeedbdaaDoorW.PrintWords Go.Proofs.YtlfhpljeeedbdaaDoorW.PrintLast Go.Proofs.YtlfhpljeeedbdaaDoor.Aid
theorem last_exists (l : List UInt8) (h : 0 < l.count 47) : ∃ (p : Nat) (hp : p < l.length), l[p] = 47 ∧ ∀ (j : Nat) (hj : j < l.length), p < j → l[j] ≠ 47 := by
  induction l with
  | nil => simp at h
  | cons c l ih =>
    by_cases h0 : 0 < l.count 47
    · obtain ⟨p, hp, h1, h2⟩ := ih h0
      refine ⟨p + 1, by simpa using hp, by simpa using h1, fun j hj hlt => ?_⟩
      cases j with
      | zero => omega
      | succ j => simpa using h2 j (by simpa using hj) (by omega)
    · have hc : c = 47 := by
        by_cases hc : c = 47
        · exact hc
        · rw [List.count_cons_of_ne (by simpa using hc)] at h
          exact absurd h h0
      refine ⟨0, by simp, by simpa using hc, fun j hj hlt => ?_⟩
      cases j with
      | zero => omega
      | succ j =>
        intro e
        have e' : l[j]'(by simpa using hj) = 47 := by simpa using e
        exact h0 (List.count_pos_iff.2 (e' ▸ List.getElem_mem _))
theorem ne_int {c : UInt8} (h : c ≠ 47) : ¬ ((c.toNat : Int) = 47) := fun e => h (by
  have e2 : c.toNat = 47 := by omega
  exact UInt8.toNat_inj.1 e2)
theorem last_spec_l0 (s : ByteArray) (hs : s.size ≤ 24) (p : Nat) (hp : p < s.data.toList.length) (h1 : s.data.toList[p] = 47) (h2 : ∀ (j : Nat) (hj : j < s.data.toList.length), p < j → s.data.toList[j] ≠ 47) (d : Nat) : ∀ (i : Nat) (x : Int), i + d = s.size → (p < i → x = (p : Int)) → Ev (fun k => spec_l1Last.l0 k s x (i : Int)) (p : Int) := by
  have hl := size_list s
  induction d with
  | zero =>
    intro i x h hx
    rw [hx (by omega)]
    exact ev_done fun k => by simp only [spec_l1Last.l0]; rw [if_neg (by omega)]
  | succ d ih =>
    intro i x h hx
    have hi : i < s.data.toList.length := by omega
    have q0 : (i : Int) < (s.size : Int) := by omega
    have q1 : (0 : Int) ≤ (i : Int) := by omega
    have wi := w_up i (by omega)
    by_cases c : s.data.toList[i] = 47
    · have hip : ¬ p < i := fun hlt => h2 i hi hlt c
      refine ev_step (fun k => spec_l1Last.l0 k s (i : Int) ((i + 1 : Nat) : Int)) (fun k => ?_) (ih (i + 1) (i : Int) (by omega) (fun hlt => by omega))
      simp only [spec_l1Last.l0]; rw [if_pos q0, if_pos q1, bt_at hi, c, if_pos (show ((UInt8.toNat 47 : Nat) : Int) = 47 from rfl), wi]
    · have hip : i ≠ p := fun e => c (by subst e; exact h1)
      refine ev_step (fun k => spec_l1Last.l0 k s x ((i + 1 : Nat) : Int)) (fun k => ?_) (ih (i + 1) x (by omega) (fun hlt => hx (by omega)))
      simp only [spec_l1Last.l0]; rw [if_pos q0, if_pos q1, bt_at hi, if_neg (ne_int c), wi]
theorem last_impl_l0 (s : ByteArray) (hs : s.size ≤ 24) (p : Nat) (hp : p < s.data.toList.length) (h1 : s.data.toList[p] = 47) (h2 : ∀ (j : Nat) (hj : j < s.data.toList.length), p < j → s.data.toList[j] ≠ 47) (d : Nat) : p + d < s.data.toList.length → Ev (fun k => bytealg_LastIndexByteString.l0 k s 47 ((p + d : Nat) : Int)) (p : Int) := by
  have hl := size_list s
  induction d with
  | zero =>
    intro _
    have q0 : ((p + 0 : Nat) : Int) < (s.size : Int) := by omega
    have q1 : (0 : Int) ≤ ((p + 0 : Nat) : Int) := by omega
    refine ev_done fun k => ?_
    simp only [bytealg_LastIndexByteString.l0]; rw [if_pos q1, if_pos q1, if_pos q0, bt_at (show p + 0 < s.data.toList.length from hp), if_pos (by simp only [Nat.add_zero, h1]; rfl)]
    rfl
  | succ d ih =>
    intro hd
    have q0 : ((p + (d + 1) : Nat) : Int) < (s.size : Int) := by omega
    have q1 : (0 : Int) ≤ ((p + (d + 1) : Nat) : Int) := by omega
    have wi : wrap64 (((p + (d + 1) : Nat) : Int) - 1) = ((p + d : Nat) : Int) := by rw [wrap_id (by omega) (by omega)]; omega
    refine ev_step (fun k => bytealg_LastIndexByteString.l0 k s 47 ((p + d : Nat) : Int)) (fun k => ?_) (ih (by omega))
    simp only [bytealg_LastIndexByteString.l0]; rw [if_pos q1, if_pos q1, if_pos q0, bt_at hd, if_neg (ne_int (h2 _ hd (by omega))), wi]
/-- Where the last mark is. -/
theorem last_both (s : ByteArray) (hs : s.size ≤ 24) (h : 0 < s.data.toList.count 47) : ∃ (p : Nat) (hp : p < s.data.toList.length), s.data.toList[p] = 47 ∧ Ev (fun k => spec_l1Last.f k s) (p : Int) ∧ Ev (fun k => strings_LastIndex.f k s (⟨#[47]⟩ : ByteArray)) (p : Int) := by
  have hl := size_list s
  obtain ⟨p, hp, h1, h2⟩ := last_exists _ h
  refine ⟨p, hp, h1, last_spec_l0 s hs p hp h1 h2 s.size 0 0 (by omega) (fun h => by omega), ?_⟩
  have hd := last_impl_l0 s hs p hp h1 h2 (s.data.toList.length - 1 - p) (by omega)
  have e : wrap64 ((s.size : Int) - 1) = ((p + (s.data.toList.length - 1 - p) : Nat) : Int) := by rw [wrap_id (by omega) (by omega)]; omega
  have e1 : ((⟨#[47]⟩ : ByteArray).size : Int) = 1 := rfl
  have e2 : bt (⟨#[47]⟩ : ByteArray) 0 = 47 := rfl
  unfold strings_LastIndex.f
  rw [e1, e2]
  refine ev_cong (fun k => (if_neg (by omega)).trans ((if_pos rfl).trans (if_pos (by omega)))) (ev_call (a := (p : Int)) ?_ (Ev.now _))
  unfold bytealg_LastIndexByteString.f
  rw [e]
  exact hd
theorem parted_both (s : ByteArray) (hs : s.size ≤ 24) (h : 0 < s.data.toList.count 47) : ∃ (u n : ByteArray), Ev (fun k => impl_parted.f k s) (u, n) ∧ (∃ p : Nat, p < s.size ∧ n = s.extract (p + 1) s.size ∧ u = (if p = 0 then (⟨#[47]⟩ : ByteArray) else s.extract 0 p) ∧ Ev (fun k => spec_l1Last.f k s) (p : Int)) := by
  have hl := size_list s
  obtain ⟨p, hp, h1, h2, h3⟩ := last_both s hs h
  have hz : s.extract 0 1 = mkB [s.data.toList[0]] := by
    rw [ext_mk]
    congr 1
    rw [show (1 : Nat) - 0 = 0 + 1 from rfl, List.drop_zero, List.take_succ_eq_append_getElem (by omega)]
    rfl
  refine ⟨if p = 0 then (⟨#[47]⟩ : ByteArray) else s.extract 0 p, s.extract (p + 1) s.size, ?_, p, by omega, rfl, rfl, h2⟩
  unfold impl_parted.f
  refine ev_call h3 (ev_is fun k => ?_)
  have wi := w_up p (by omega)
  have q3 : (0 : Int) ≤ ((p + 1 : Nat) : Int) := by omega
  have q4 : ((p + 1 : Nat) : Int) ≤ (s.size : Int) := by omega
  by_cases c : p = 0
  · subst c
    have m : mx ((0 : Nat) : Int) 1 = 1 := rfl
    rw [m, if_pos (by omega), if_pos (by omega), wi, if_pos q3, if_pos q4, if_pos rfl, show ((1 : Int).toNat) = 1 from rfl, hz, h1, Int.toNat_natCast]
    rfl
  · have m : mx (p : Int) 1 = (p : Int) := by unfold mx; rw [if_neg (by omega)]
    rw [m, if_pos (by omega), if_pos (by omega), wi, if_pos q3, if_pos q4, if_neg c, Int.toNat_natCast, Int.toNat_natCast]
end Go.Proofs.YtlfhpljeeedbdaaDoor.Pure
