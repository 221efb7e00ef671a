/- Sessions: what is wrong with a list of them, by the program and by the reference: the same, for every list. -/
import Derived.Test.YtpblgkenjoalpaaQax1
import Derived.Test.YtpblgkenjoalpaaQax3
import Derived.Test.YtpblgkenjoalpaaQax4
import Derived.Test.YtpblgkenjoalpaaQaxf
import Derived.Test.YtpblgkenjoalpaaAid
namespace Go.Proofs.Ytpblgkenjoalpaa.Pure
open Go.RowKit Go.Proofs.Ytpblgkenjoalpaa.Qa Go.Proofs.YtpblgkenjoalpaaW.PrintWords Go.Proofs.YtpblgkenjoalpaaW.PrintLast Go.Proofs.Ytpblgkenjoalpaa.Aid

theorem in_spec (a lo hi : Int) : spec_l1In.f a lo hi = some (decide (lo ≤ a ∧ a ≤ hi)) := by
  unfold spec_l1In.f
  by_cases h : lo ≤ a
  · rw [if_pos h]; simp [h]
  · rw [if_neg h]; simp [h]
theorem in_impl (a lo hi : Int) : impl_within.f a lo hi = some (decide (lo ≤ a ∧ a ≤ hi)) := by
  unfold impl_within.f
  by_cases h : lo ≤ a
  · rw [if_pos h]; simp [h]
  · rw [if_neg h]; simp [h]
theorem id_spec (a : Int) : spec_l4Id.f a = some (decide (1 ≤ a ∧ a ≤ 9)) := by unfold spec_l4Id.f; rw [in_spec]; rfl
theorem id_impl (a : Int) : impl_isClient.f a = some (decide (1 ≤ a ∧ a ≤ 9)) := by unfold impl_isClient.f; rw [in_impl]; rfl

abbrev SS := S50
def sBad (s : SS) : Bool := !(decide (1 ≤ s.f0 ∧ s.f0 ≤ 9) && decide (0 ≤ s.f1 ∧ s.f1 ≤ 9999))
def sOne (prev : Option Int) (s : SS) : Int := if sBad s then 3 else match prev with
  | some p => if s.f0 ≤ p then 1 else 0
  | none => 0
def sFrom : Option Int → List SS → Int
  | _, [] => 0
  | prev, s :: r => if sOne prev s = 0 then sFrom (some s.f0) r else sOne prev s
def sFault (l : List SS) : Int := if l.length > 6 then 2 else sFrom none l
def prevOf (l : List SS) : Nat → Option Int
  | 0 => none
  | i + 1 => some (rd_T50 l (i : Int)).f0
theorem sFrom_cons {prev : Option Int} {s : SS} {r : List SS} : sFrom prev (s :: r) = if sOne prev s = 0 then sFrom (some s.f0) r else sOne prev s := rfl
theorem wrap_down {i : Nat} (h : i < 4611686018427387904) : wrap64 (((i + 1 : Nat) : Int) - 1) = (i : Int) := by
  rw [wrap_id (by omega) (by omega)]
  omega

theorem specFault_l0 (l : List SS) (hl : l.length ≤ 4611686018427387904) (d : Nat) : ∀ (i : Nat), i + d = l.length → Ev (fun k => spec_l4Fault.l0 k l (i : Int)) (sFrom (prevOf l i) (l.drop i)) := by
  induction d with
  | zero =>
    intro i h
    rw [drop_end (by omega)]
    exact ev_done fun k => by simp only [spec_l4Fault.l0]; rw [if_neg (by omega)]; rfl
  | succ d ih =>
    intro i h
    have hi : i < l.length := by omega
    have hr := rd_T50_at hi
    have IH := ih (i + 1) (by omega)
    have hp : prevOf l (i + 1) = some (l[i]).f0 := by rw [prevOf, hr]
    rw [hp] at IH
    rw [drop_at hi, sFrom_cons]
    refine ev_step (fun k => spec_l4Fault.j1 k l (i : Int) (sBad l[i])) (fun k => ?_) ?_
    · simp only [spec_l4Fault.l0]
      rw [if_pos (by omega), if_pos (by omega), hr, id_spec, in_spec]
      unfold sBad
      by_cases c1 : 1 ≤ (l[i]).f0 ∧ (l[i]).f0 ≤ 9 <;> simp [c1]
    · cases hb : sBad l[i] with
      | true =>
        have e : sOne (prevOf l i) l[i] = 3 := by unfold sOne; rw [if_pos hb]
        rw [e]
        exact ev_done fun k => by simp only [spec_l4Fault.j1]; simp
      | false =>
        have e : sOne (prevOf l i) l[i] = match prevOf l i with
            | some p => if (l[i]).f0 ≤ p then 1 else 0
            | none => 0 := by unfold sOne; rw [if_neg (by simp [hb])]
        rw [e]
        cases i with
        | zero =>
          refine ev_step (fun k => spec_l4Fault.l0 k l ((0 + 1 : Nat) : Int)) (fun k => ?_) (by simpa [prevOf] using IH)
          simp only [spec_l4Fault.j1]; rw [if_neg (by simp), if_neg (by omega), wrap_up hi hl]
        | succ j =>
          have hj : j < l.length := by omega
          by_cases c : (l[j + 1]).f0 ≤ (rd_T50 l (j : Int)).f0
          · have e2 : (match prevOf l (j + 1) with | some p => if (l[j + 1]).f0 ≤ p then (1 : Int) else 0 | none => 0) = 1 := by simp [prevOf, c]
            rw [e2]
            refine ev_done fun k => ?_
            simp only [spec_l4Fault.j1]; rw [if_neg (by simp), if_pos (by omega), if_pos (by omega), if_pos (by omega), wrap_down (by omega), if_pos (by omega), if_pos (by omega), hr, if_pos c]; rfl
          · have e2 : (match prevOf l (j + 1) with | some p => if (l[j + 1]).f0 ≤ p then (1 : Int) else 0 | none => 0) = 0 := by simp [prevOf, c]
            rw [e2]
            refine ev_step (fun k => spec_l4Fault.l0 k l ((j + 1 + 1 : Nat) : Int)) (fun k => ?_) (by simpa using IH)
            simp only [spec_l4Fault.j1]; rw [if_neg (by simp), if_pos (by omega), if_pos (by omega), if_pos (by omega), wrap_down (by omega), if_pos (by omega), if_pos (by omega), hr, if_neg c, wrap_up hi hl]
theorem specFault (l : List SS) (hl : l.length ≤ 4611686018427387904) : Ev (fun k => spec_l4Fault.f k l) (sFault l) := by
  unfold spec_l4Fault.f sFault
  by_cases h : l.length > 6
  · exact ev_is fun k => by rw [if_pos (by omega), if_pos h]
  · rw [if_neg h]
    exact ev_cong (fun k => if_neg (by omega)) (specFault_l0 l hl l.length 0 (by omega))
theorem implFault_l0 (l : List SS) (hl : l.length ≤ 4611686018427387904) (d : Nat) : ∀ (i : Nat), i + d = l.length → Ev (fun k => impl_SessionsFault.l0 k l l (l.length : Int) (i : Int)) (sFrom (prevOf l i) (l.drop i)) := by
  induction d with
  | zero =>
    intro i h
    rw [drop_end (by omega)]
    exact ev_done fun k => by simp only [impl_SessionsFault.l0]; rw [if_neg (by omega)]; rfl
  | succ d ih =>
    intro i h
    have hi : i < l.length := by omega
    have hr := rd_T50_at hi
    have IH := ih (i + 1) (by omega)
    have hp : prevOf l (i + 1) = some (l[i]).f0 := by rw [prevOf, hr]
    rw [hp] at IH
    rw [drop_at hi, sFrom_cons]
    refine ev_step (fun k => impl_SessionsFault.j1 k l (i : Int) l (l.length : Int) (i : Int) (sBad l[i]) (l[i]).f0 (l[i]).f1) (fun k => ?_) ?_
    · simp only [impl_SessionsFault.l0]
      rw [if_pos (by omega), if_pos (by omega), if_pos (by omega), hr, id_impl, in_impl]
      unfold sBad
      by_cases c1 : 1 ≤ (l[i]).f0 ∧ (l[i]).f0 ≤ 9 <;> simp [c1]
    · cases hb : sBad l[i] with
      | true =>
        have e : sOne (prevOf l i) l[i] = 3 := by unfold sOne; rw [if_pos hb]
        rw [e]
        exact ev_done fun k => by simp only [impl_SessionsFault.j1]; simp
      | false =>
        have e : sOne (prevOf l i) l[i] = match prevOf l i with
            | some p => if (l[i]).f0 ≤ p then 1 else 0
            | none => 0 := by unfold sOne; rw [if_neg (by simp [hb])]
        rw [e]
        cases i with
        | zero =>
          refine ev_step (fun k => impl_SessionsFault.l0 k l l (l.length : Int) ((0 + 1 : Nat) : Int)) (fun k => ?_) (by simpa [prevOf] using IH)
          simp only [impl_SessionsFault.j1]; rw [if_neg (by simp), if_neg (by omega), wrap_up hi hl]
        | succ j =>
          have hj : j < l.length := by omega
          by_cases c : (l[j + 1]).f0 ≤ (rd_T50 l (j : Int)).f0
          · have e2 : (match prevOf l (j + 1) with | some p => if (l[j + 1]).f0 ≤ p then (1 : Int) else 0 | none => 0) = 1 := by simp [prevOf, c]
            rw [e2]
            refine ev_done fun k => ?_
            simp only [impl_SessionsFault.j1]; rw [if_neg (by simp), if_pos (by omega), wrap_down (by omega), if_pos (by omega), if_pos (by omega), if_pos c]; rfl
          · have e2 : (match prevOf l (j + 1) with | some p => if (l[j + 1]).f0 ≤ p then (1 : Int) else 0 | none => 0) = 0 := by simp [prevOf, c]
            rw [e2]
            refine ev_step (fun k => impl_SessionsFault.l0 k l l (l.length : Int) ((j + 1 + 1 : Nat) : Int)) (fun k => ?_) (by simpa using IH)
            simp only [impl_SessionsFault.j1]; rw [if_neg (by simp), if_pos (by omega), wrap_down (by omega), if_pos (by omega), if_pos (by omega), if_neg c, wrap_up hi hl]
theorem implFault (l : List SS) (hl : l.length ≤ 4611686018427387904) : Ev (fun k => impl_SessionsFault.f k l) (sFault l) := by
  unfold impl_SessionsFault.f sFault
  by_cases h : l.length > 6
  · exact ev_is fun k => by rw [if_pos (by omega), if_pos h]
  · rw [if_neg h]
    exact ev_cong (fun k => if_neg (by omega)) (implFault_l0 l hl l.length 0 (by omega))
end Go.Proofs.Ytpblgkenjoalpaa.Pure
