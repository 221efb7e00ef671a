/- For every input the law FnExactNewState returns true, and every argument reads behind the call as it read before: no condition. Here: the last part, the theorem in it. -/
import Derived.Test.YtmoponhdjcinjaaQax0
import Derived.Test.YtmoponhdjcinjaaAid
import Derived.Test.YtmoponhdjcinjaaQax14
import Derived.Test.YtmoponhdjcinjaaQax15
import Derived.Test.YtmoponhdjcinjaaQax9
import Derived.Test.YtmoponhdjcinjaaQax12
import Derived.Test.YtmoponhdjcinjaaQax13
import Derived.Test.YtmoponhdjcinjaaQax10
import Derived.Test.YtmoponhdjcinjaaQax11
import Derived.Test.YtmoponhdjcinjaaQax18
import Derived.Test.YtmoponhdjcinjaaQax21
import Derived.Test.YtmoponhdjcinjaaQax26
import Derived.Test.YtmoponhdjcinjaaQax20
import Derived.Test.YtmoponhdjcinjaaQax25
import Derived.Test.YtmoponhdjcinjaaQax19
import Derived.Test.YtmoponhdjcinjaaQax24
import Derived.Test.YtmoponhdjcinjaaQax1
import Derived.Test.YtmoponhdjcinjaaQax5
import Derived.Test.YtmoponhdjcinjaaQax16
import Derived.Test.YtmoponhdjcinjaaQax17
import Derived.Test.YtmoponhdjcinjaaQax2
import Derived.Test.YtmoponhdjcinjaaQax22
import Derived.Test.YtmoponhdjcinjaaQax23
import Derived.Test.YtmoponhdjcinjaaQax27
import Derived.Test.YtmoponhdjcinjaaQax28
import Derived.Test.YtmoponhdjcinjaaQax29
import Derived.Test.YtmoponhdjcinjaaQax3
import Derived.Test.YtmoponhdjcinjaaQax4
import Derived.Test.YtmoponhdjcinjaaQax6
import Derived.Test.YtmoponhdjcinjaaQax7
import Derived.Test.YtmoponhdjcinjaaQax8
import Derived.Test.YtmoponhdjcinjaaRows
import Derived.Test.YtmoponhdjcinjaaQaxr
import Derived.WalkKit
import Derived.ProofKit
import Derived.OpenShut
import Derived.ShutString
import Derived.ChangeOld
import Derived.Below
import Derived.SizedLaws
-- By gp.py (wip/gen of the work's repo), a program of this workplace over the kit's print: Lean checks it.
namespace Go.Proofs.Ytmoponhdjcinjaa.Qa
open Go.RowKit Go.Proofs.YtmoponhdjcinjaaW.PrintWords Go.Proofs.YtmoponhdjcinjaaW.PrintLast Go.Proofs.Ytmoponhdjcinjaa.Aid
set_option linter.unusedVariables false
set_option linter.unusedSimpArgs false

theorem rd_T42_at {l : List (S42)} {i : Nat} (h : i < l.length) : rd_T42 l (i : Int) = l[i] := by
  unfold rd_T42
  rw [Int.toNat_natCast, List.getD_eq_getElem?_getD, List.getElem?_eq_getElem h]
  rfl
theorem rd_T42_set {l : List (S42)} {i : Nat} {v : S42} (h : i < l.length) : rd_T42 (l.set i v) (i : Int) = v := by
  rw [rd_T42_at (by simpa using h)]
  simp
theorem rd_T52_at {l : List (S52)} {i : Nat} (h : i < l.length) : rd_T52 l (i : Int) = l[i] := by
  unfold rd_T52
  rw [Int.toNat_natCast, List.getD_eq_getElem?_getD, List.getElem?_eq_getElem h]
  rfl
theorem rd_T52_set {l : List (S52)} {i : Nat} {v : S52} (h : i < l.length) : rd_T52 (l.set i v) (i : Int) = v := by
  rw [rd_T52_at (by simpa using h)]
  simp
theorem rd_T55_at {l : List (S55)} {i : Nat} (h : i < l.length) : rd_T55 l (i : Int) = l[i] := by
  unfold rd_T55
  rw [Int.toNat_natCast, List.getD_eq_getElem?_getD, List.getElem?_eq_getElem h]
  rfl
theorem rd_T55_set {l : List (S55)} {i : Nat} {v : S55} (h : i < l.length) : rd_T55 (l.set i v) (i : Int) = v := by
  rw [rd_T55_at (by simpa using h)]
  simp
end Go.Proofs.Ytmoponhdjcinjaa.Qa

-- By gp.py (wip/gen of the work's repo), a program of this workplace over the kit's print: Lean checks it.
namespace Go.Proofs.Ytmoponhdjcinjaa.Qa
open Go.RowKit Go.Proofs.YtmoponhdjcinjaaW.PrintWords Go.Proofs.YtmoponhdjcinjaaW.PrintLast Go.Proofs.Ytmoponhdjcinjaa.Aid
set_option linter.unusedVariables false
set_option linter.unusedSimpArgs false

theorem laws_eqMark.is (x : S55) : laws_eqMark.f x.f0 x.f1 x.f2.f0 x.f2.f1 x.f2.f2 x.f0 x.f1 x.f2.f0 x.f2.f1 x.f2.f2 = some true := by
  simp [laws_eqMark.f, laws_eqReply.f]
theorem laws_eqMarkS.l0_ev (l : List (S55)) (hl : l.length ≤ 4611686018427387904) (d : Nat) : ∀ (i : Nat), i + d = l.length → Ev (fun k => laws_eqMarkS.l0 k l l (i : Int)) true := by
  induction d with
  | zero => exact fun i h => ev_done fun k => by simp only [laws_eqMarkS.l0]; rw [if_neg (by omega)]
  | succ d ih =>
    intro i h
    have hi : i < l.length := by omega
    refine ev_step (fun k => laws_eqMarkS.l0 k l l ((i + 1 : Nat) : Int)) (fun k => ?_) (ih (i + 1) (by omega))
    simp only [laws_eqMarkS.l0]; rw [if_pos (by omega), if_pos (by omega), if_pos (by omega), laws_eqMark.is, Option.bind_some, if_pos rfl, wrap_up hi hl]
theorem laws_eqMarkS.ev (l : List (S55)) (hl : l.length ≤ 4611686018427387904) : Ev (fun k => laws_eqMarkS.f k l l) true := by
  unfold laws_eqMarkS.f
  exact ev_cong (fun k => if_pos rfl) (laws_eqMarkS.l0_ev l hl l.length 0 (by omega))
end Go.Proofs.Ytmoponhdjcinjaa.Qa

-- By gp.py (wip/gen of the work's repo), a program of this workplace over the kit's print: Lean checks it.
namespace Go.Proofs.Ytmoponhdjcinjaa.Qa
open Go.RowKit Go.Proofs.YtmoponhdjcinjaaW.PrintWords Go.Proofs.YtmoponhdjcinjaaW.PrintLast Go.Proofs.Ytmoponhdjcinjaa.Aid
set_option linter.unusedVariables false
set_option linter.unusedSimpArgs false

theorem laws_eqSession.is (x : S52) : laws_eqSession.f x.f0 x.f1 x.f0 x.f1 = some true := by
  simp [laws_eqSession.f]
theorem laws_eqSessionS.l0_ev (l : List (S52)) (hl : l.length ≤ 4611686018427387904) (d : Nat) : ∀ (i : Nat), i + d = l.length → Ev (fun k => laws_eqSessionS.l0 k l l (i : Int)) true := by
  induction d with
  | zero => exact fun i h => ev_done fun k => by simp only [laws_eqSessionS.l0]; rw [if_neg (by omega)]
  | succ d ih =>
    intro i h
    have hi : i < l.length := by omega
    refine ev_step (fun k => laws_eqSessionS.l0 k l l ((i + 1 : Nat) : Int)) (fun k => ?_) (ih (i + 1) (by omega))
    simp only [laws_eqSessionS.l0]; rw [if_pos (by omega), if_pos (by omega), if_pos (by omega), laws_eqSession.is, Option.bind_some, if_pos rfl, wrap_up hi hl]
theorem laws_eqSessionS.ev (l : List (S52)) (hl : l.length ≤ 4611686018427387904) : Ev (fun k => laws_eqSessionS.f k l l) true := by
  unfold laws_eqSessionS.f
  exact ev_cong (fun k => if_pos rfl) (laws_eqSessionS.l0_ev l hl l.length 0 (by omega))
end Go.Proofs.Ytmoponhdjcinjaa.Qa

-- By gp.py (wip/gen of the work's repo), a program of this workplace over the kit's print: Lean checks it.
namespace Go.Proofs.Ytmoponhdjcinjaa.Qa
open Go.RowKit Go.Proofs.YtmoponhdjcinjaaW.PrintWords Go.Proofs.YtmoponhdjcinjaaW.PrintLast Go.Proofs.Ytmoponhdjcinjaa.Aid
set_option linter.unusedVariables false
set_option linter.unusedSimpArgs false

theorem laws_eqZnode.is (x : S42) : laws_eqZnode.f x.f0 x.f1 x.f2 x.f3 x.f4 x.f0 x.f1 x.f2 x.f3 x.f4 = some true := by
  simp [laws_eqZnode.f]
theorem laws_eqZnodeS.l0_ev (l : List (S42)) (hl : l.length ≤ 4611686018427387904) (d : Nat) : ∀ (i : Nat), i + d = l.length → Ev (fun k => laws_eqZnodeS.l0 k l l (i : Int)) true := by
  induction d with
  | zero => exact fun i h => ev_done fun k => by simp only [laws_eqZnodeS.l0]; rw [if_neg (by omega)]
  | succ d ih =>
    intro i h
    have hi : i < l.length := by omega
    refine ev_step (fun k => laws_eqZnodeS.l0 k l l ((i + 1 : Nat) : Int)) (fun k => ?_) (ih (i + 1) (by omega))
    simp only [laws_eqZnodeS.l0]; rw [if_pos (by omega), if_pos (by omega), if_pos (by omega), laws_eqZnode.is, Option.bind_some, if_pos rfl, wrap_up hi hl]
theorem laws_eqZnodeS.ev (l : List (S42)) (hl : l.length ≤ 4611686018427387904) : Ev (fun k => laws_eqZnodeS.f k l l) true := by
  unfold laws_eqZnodeS.f
  exact ev_cong (fun k => if_pos rfl) (laws_eqZnodeS.l0_ev l hl l.length 0 (by omega))
end Go.Proofs.Ytmoponhdjcinjaa.Qa

-- By gp.py (wip/gen of the work's repo), a program of this workplace over the kit's print: Lean checks it.
namespace Go.Proofs.Ytmoponhdjcinjaa.Qa
open Go.RowKit Go.Proofs.YtmoponhdjcinjaaW.PrintWords Go.Proofs.YtmoponhdjcinjaaW.PrintLast Go.Proofs.Ytmoponhdjcinjaa.Aid
set_option linter.unusedVariables false
set_option linter.unusedSimpArgs false

theorem markText_l0 (d : Nat) : ∀ (x : Int) (s : ByteArray), 0 ≤ x → x ≤ d → (s.size : Int) + x ≤ 1152921504606846976 → ∃ t, Ev (fun k => laws_markText.l0 k x s) t := by
  induction d with
  | zero =>
    intro x s h0 h1 hs
    refine ⟨(⟨#[109]⟩ : ByteArray) ++ s, ev_done fun k => ?_⟩
    simp only [laws_markText.l0]; rw [if_neg (by omega), if_pos (by omega)]
  | succ d ih =>
    intro x s h0 h1 hs
    by_cases hx : x > 0
    · have hd := tdiv_lt hx
      obtain ⟨t, ht⟩ := ih (Int.tdiv x 10) (strOfNums [(wrap64 (48 + (Int.tmod x 10))) % 256] ++ s) hd.1 (by omega) (by rw [ByteArray.size_append, size_strOfNums]; simp; omega)
      refine ⟨t, ev_step (fun k => laws_markText.l0 k (Int.tdiv x 10) (strOfNums [(wrap64 (48 + (Int.tmod x 10))) % 256] ++ s)) (fun k => ?_) ht⟩
      simp only [laws_markText.l0]; rw [if_pos hx]; simp only [Option.bind_some]; rw [if_pos (by rw [size_strOfNums]; simp; omega), wrap_id (by omega) (by omega)]
    · refine ⟨(⟨#[109]⟩ : ByteArray) ++ s, ev_done fun k => ?_⟩
      simp only [laws_markText.l0]; rw [if_neg hx, if_pos (by omega)]
theorem markText_ex (m : Int) (h0 : 0 ≤ m) (h1 : m ≤ 1152921504606846976) : ∃ t, Ev (fun k => laws_markText.f k m) t := by
  unfold laws_markText.f
  by_cases h : m ≤ 0
  · exact ⟨_, ev_is fun k => if_pos h⟩
  · obtain ⟨t, ht⟩ := markText_l0 m.toNat m (⟨#[]⟩ : ByteArray) h0 (by omega) (by simp [ByteArray.size]; omega)
    exact ⟨t, ev_cong (fun k => if_neg h) ht⟩
open Classical in
/-- The text of a count. -/
noncomputable def mkText (m : Int) : ByteArray := if h : ∃ t, Ev (fun k => laws_markText.f k m) t then h.choose else ⟨#[]⟩
theorem mkText_ev (m : Int) (h0 : 0 ≤ m) (h1 : m ≤ 1152921504606846976) : Ev (fun k => laws_markText.f k m) (mkText m) := by
  have h := markText_ex m h0 h1
  unfold mkText
  rw [dif_pos h]
  exact h.choose_spec
end Go.Proofs.Ytmoponhdjcinjaa.Qa

-- By gp.py (wip/gen of the work's repo), a program of this workplace over the kit's print: Lean checks it.
namespace Go.Proofs.Ytmoponhdjcinjaa.Qa
open Go.RowKit Go.Proofs.YtmoponhdjcinjaaW.PrintWords Go.Proofs.YtmoponhdjcinjaaW.PrintLast Go.Proofs.Ytmoponhdjcinjaa.Aid
set_option linter.unusedVariables false
set_option linter.unusedSimpArgs false

noncomputable def mkMarkS (m : Int) : S55 := (⟨m, (m + 1), (⟨(m + 2), (m + 3), (mkText (m + 4))⟩ : S23)⟩ : S55)
noncomputable def rowMarkS : Nat → Int → List (S55)
  | 0, _ => []
  | d + 1, m => mkMarkS m :: rowMarkS d (m + 5)
theorem laws_markMarkS.l0_ev (d : Nat) : ∀ (i : Nat) (l : List (S55)) (m : Int), i + d = l.length → l.length ≤ 1048576000 → 0 ≤ m → m + 5 * d ≤ 1152921504606846976 → Ev (fun k => laws_markMarkS.l0 k l m (i : Int)) (m + 5 * d, l.take i ++ rowMarkS d m) := by
  induction d with
  | zero =>
    intro i l m h hl h0 hb
    refine ev_done fun k => ?_
    simp only [laws_markMarkS.l0]; rw [if_neg (by omega), List.take_of_length_le (by omega)]; simp [rowMarkS]
  | succ d ih =>
    intro i l m h hl h0 hb
    have hi : i < l.length := by omega
    have e1 : m + 5 * ((d + 1 : Nat) : Int) = (m + 5) + 5 * (d : Int) := by omega
    have e2 : l.take i ++ rowMarkS (d + 1) m = (l.set i (mkMarkS m)).take (i + 1) ++ rowMarkS d (m + 5) := by
      rw [take_set_snoc hi, List.append_assoc]; rfl
    rw [e1, e2]
    have IH := ih (i + 1) (l.set i (mkMarkS m)) (m + 5) (by rw [List.length_set]; omega) (by rw [List.length_set]; exact hl) (by omega) (by omega)
    have hil : (i : Int) < (l.length : Int) := by omega
    have h0i : 0 ≤ (i : Int) := Int.natCast_nonneg i
    refine ev_step (fun k => (laws_markText.f k (m + 4)).bind fun t => laws_markMarkS.l0 k (l.set i ((⟨m, (m + 1), (⟨(m + 2), (m + 3), t⟩ : S23)⟩ : S55))) (m + 5) ((i + 1 : Nat) : Int)) (fun k => ?_) (ev_call (mkText_ev (m + 4) (by omega) (by omega)) IH)
    simp only [laws_markMarkS.l0, wr1_ m (by omega) (by omega), wrn_ m 1 2 rfl (by omega) (by omega), wrn_ m 2 3 rfl (by omega) (by omega), wrn_ m 3 4 rfl (by omega) (by omega), wrn_ m 4 5 rfl (by omega) (by omega), Int.toNat_natCast, Option.bind_some, if_pos hil, if_pos h0i, wrap_up hi (show l.length ≤ 4611686018427387904 by omega), List.set_set, rd_T55_set hi]
theorem laws_markMarkS.ev (l : List (S55)) (m : Int) (hl : l.length ≤ 1048576000) (h0 : 0 ≤ m) (hb : m ≤ 1000000000000) : Ev (fun k => laws_markMarkS.f k l m) (m + 5 * l.length, rowMarkS l.length m) := by
  have h := laws_markMarkS.l0_ev l.length 0 l m (by omega) hl h0 (by omega)
  rw [List.take_zero, List.nil_append] at h
  exact h
theorem laws_heldMarkS.l0_ev (d : Nat) : ∀ (i : Nat) (l : List (S55)) (m : Int), i + d = l.length → l.length ≤ 1048576000 → l.drop i = rowMarkS d m → 0 ≤ m → m + 5 * d ≤ 1152921504606846976 → Ev (fun k => laws_heldMarkS.l0 k l m (i : Int)) (m + 5 * d) := by
  induction d with
  | zero =>
    intro i l m h hl hr h0 hb
    refine ev_done fun k => ?_
    simp only [laws_heldMarkS.l0]; rw [if_neg (by omega)]; simp
  | succ d ih =>
    intro i l m h hl hr h0 hb
    have hi : i < l.length := by omega
    have e1 : m + 5 * ((d + 1 : Nat) : Int) = (m + 5) + 5 * (d : Int) := by omega
    rw [drop_at hi] at hr
    obtain ⟨hx, hr⟩ := List.cons.inj hr
    rw [e1]
    have IH := ih (i + 1) l (m + 5) (by omega) hl hr (by omega) (by omega)
    have hil : (i : Int) < (l.length : Int) := by omega
    have h0i : 0 ≤ (i : Int) := Int.natCast_nonneg i
    refine ev_step (fun k => (laws_markText.f k (m + 4)).bind fun t => if (mkText (m + 4)).toList = t.toList then laws_heldMarkS.l0 k l (m + 5) ((i + 1 : Nat) : Int) else some (-1)) (fun k => ?_) (ev_call (mkText_ev (m + 4) (by omega) (by omega)) (ev_cong (fun k => if_pos rfl) IH))
    simp only [laws_heldMarkS.l0, wr1_ m (by omega) (by omega), wrn_ m 1 2 rfl (by omega) (by omega), wrn_ m 2 3 rfl (by omega) (by omega), wrn_ m 3 4 rfl (by omega) (by omega), wrn_ m 4 5 rfl (by omega) (by omega), Int.toNat_natCast, Option.bind_some, if_pos hil, if_pos h0i, wrap_up hi (show l.length ≤ 4611686018427387904 by omega), rd_T55_at hi, hx, mkMarkS]; simp
theorem laws_heldMarkS.ev (n : Nat) (m : Int) (hl : n ≤ 1048576000) (h0 : 0 ≤ m) (hb : m ≤ 1000000000000) : Ev (fun k => laws_heldMarkS.f k (rowMarkS n m) m) (m + 5 * n) := by
  have hn : ∀ (n : Nat) (m : Int), (rowMarkS n m).length = n := by
    intro n
    induction n with
    | zero => intro m; rfl
    | succ n ih => intro m; simp [rowMarkS, ih]
  exact laws_heldMarkS.l0_ev n 0 (rowMarkS n m) m (by rw [hn]; omega) (by rw [hn]; exact hl) (by rw [List.drop_zero]) h0 (by omega)
end Go.Proofs.Ytmoponhdjcinjaa.Qa

-- By gp.py (wip/gen of the work's repo), a program of this workplace over the kit's print: Lean checks it.
namespace Go.Proofs.Ytmoponhdjcinjaa.Qa
open Go.RowKit Go.Proofs.YtmoponhdjcinjaaW.PrintWords Go.Proofs.YtmoponhdjcinjaaW.PrintLast Go.Proofs.Ytmoponhdjcinjaa.Aid
set_option linter.unusedVariables false
set_option linter.unusedSimpArgs false

noncomputable def mkSessionS (m : Int) : S52 := (⟨m, (m + 1)⟩ : S52)
noncomputable def rowSessionS : Nat → Int → List (S52)
  | 0, _ => []
  | d + 1, m => mkSessionS m :: rowSessionS d (m + 2)
theorem laws_markSessionS.l0_ev (d : Nat) : ∀ (i : Nat) (l : List (S52)) (m : Int), i + d = l.length → l.length ≤ 1048576000 → 0 ≤ m → m + 2 * d ≤ 1152921504606846976 → Ev (fun k => laws_markSessionS.l0 k l m (i : Int)) (m + 2 * d, l.take i ++ rowSessionS d m) := by
  induction d with
  | zero =>
    intro i l m h hl h0 hb
    refine ev_done fun k => ?_
    simp only [laws_markSessionS.l0]; rw [if_neg (by omega), List.take_of_length_le (by omega)]; simp [rowSessionS]
  | succ d ih =>
    intro i l m h hl h0 hb
    have hi : i < l.length := by omega
    have e1 : m + 2 * ((d + 1 : Nat) : Int) = (m + 2) + 2 * (d : Int) := by omega
    have e2 : l.take i ++ rowSessionS (d + 1) m = (l.set i (mkSessionS m)).take (i + 1) ++ rowSessionS d (m + 2) := by
      rw [take_set_snoc hi, List.append_assoc]; rfl
    rw [e1, e2]
    have IH := ih (i + 1) (l.set i (mkSessionS m)) (m + 2) (by rw [List.length_set]; omega) (by rw [List.length_set]; exact hl) (by omega) (by omega)
    have hil : (i : Int) < (l.length : Int) := by omega
    have h0i : 0 ≤ (i : Int) := Int.natCast_nonneg i
    refine ev_step (fun k => laws_markSessionS.l0 k (l.set i (mkSessionS m)) (m + 2) ((i + 1 : Nat) : Int)) (fun k => ?_) IH
    simp only [laws_markSessionS.l0, wr1_ m (by omega) (by omega), wrn_ m 1 2 rfl (by omega) (by omega), Int.toNat_natCast, Option.bind_some, if_pos hil, if_pos h0i, wrap_up hi (show l.length ≤ 4611686018427387904 by omega), List.set_set, rd_T52_set hi]; rfl
theorem laws_markSessionS.ev (l : List (S52)) (m : Int) (hl : l.length ≤ 1048576000) (h0 : 0 ≤ m) (hb : m ≤ 1000000000000) : Ev (fun k => laws_markSessionS.f k l m) (m + 2 * l.length, rowSessionS l.length m) := by
  have h := laws_markSessionS.l0_ev l.length 0 l m (by omega) hl h0 (by omega)
  rw [List.take_zero, List.nil_append] at h
  exact h
theorem laws_heldSessionS.l0_ev (d : Nat) : ∀ (i : Nat) (l : List (S52)) (m : Int), i + d = l.length → l.length ≤ 1048576000 → l.drop i = rowSessionS d m → 0 ≤ m → m + 2 * d ≤ 1152921504606846976 → Ev (fun k => laws_heldSessionS.l0 k l m (i : Int)) (m + 2 * d) := by
  induction d with
  | zero =>
    intro i l m h hl hr h0 hb
    refine ev_done fun k => ?_
    simp only [laws_heldSessionS.l0]; rw [if_neg (by omega)]; simp
  | succ d ih =>
    intro i l m h hl hr h0 hb
    have hi : i < l.length := by omega
    have e1 : m + 2 * ((d + 1 : Nat) : Int) = (m + 2) + 2 * (d : Int) := by omega
    rw [drop_at hi] at hr
    obtain ⟨hx, hr⟩ := List.cons.inj hr
    rw [e1]
    have IH := ih (i + 1) l (m + 2) (by omega) hl hr (by omega) (by omega)
    have hil : (i : Int) < (l.length : Int) := by omega
    have h0i : 0 ≤ (i : Int) := Int.natCast_nonneg i
    refine ev_step (fun k => laws_heldSessionS.l0 k l (m + 2) ((i + 1 : Nat) : Int)) (fun k => ?_) IH
    simp only [laws_heldSessionS.l0, wr1_ m (by omega) (by omega), wrn_ m 1 2 rfl (by omega) (by omega), Int.toNat_natCast, Option.bind_some, if_pos hil, if_pos h0i, wrap_up hi (show l.length ≤ 4611686018427387904 by omega), rd_T52_at hi, hx, mkSessionS]; simp
theorem laws_heldSessionS.ev (n : Nat) (m : Int) (hl : n ≤ 1048576000) (h0 : 0 ≤ m) (hb : m ≤ 1000000000000) : Ev (fun k => laws_heldSessionS.f k (rowSessionS n m) m) (m + 2 * n) := by
  have hn : ∀ (n : Nat) (m : Int), (rowSessionS n m).length = n := by
    intro n
    induction n with
    | zero => intro m; rfl
    | succ n ih => intro m; simp [rowSessionS, ih]
  exact laws_heldSessionS.l0_ev n 0 (rowSessionS n m) m (by rw [hn]; omega) (by rw [hn]; exact hl) (by rw [List.drop_zero]) h0 (by omega)
end Go.Proofs.Ytmoponhdjcinjaa.Qa

-- By gp.py (wip/gen of the work's repo), a program of this workplace over the kit's print: Lean checks it.
namespace Go.Proofs.Ytmoponhdjcinjaa.Qa
open Go.RowKit Go.Proofs.YtmoponhdjcinjaaW.PrintWords Go.Proofs.YtmoponhdjcinjaaW.PrintLast Go.Proofs.Ytmoponhdjcinjaa.Aid
set_option linter.unusedVariables false
set_option linter.unusedSimpArgs false

noncomputable def mkZnodeS (m : Int) : S42 := (⟨(mkText m), (m + 1), (m + 2), (m + 3), (m + 4)⟩ : S42)
noncomputable def rowZnodeS : Nat → Int → List (S42)
  | 0, _ => []
  | d + 1, m => mkZnodeS m :: rowZnodeS d (m + 5)
theorem laws_markZnodeS.l0_ev (d : Nat) : ∀ (i : Nat) (l : List (S42)) (m : Int), i + d = l.length → l.length ≤ 1048576000 → 0 ≤ m → m + 5 * d ≤ 1152921504606846976 → Ev (fun k => laws_markZnodeS.l0 k l m (i : Int)) (m + 5 * d, l.take i ++ rowZnodeS d m) := by
  induction d with
  | zero =>
    intro i l m h hl h0 hb
    refine ev_done fun k => ?_
    simp only [laws_markZnodeS.l0]; rw [if_neg (by omega), List.take_of_length_le (by omega)]; simp [rowZnodeS]
  | succ d ih =>
    intro i l m h hl h0 hb
    have hi : i < l.length := by omega
    have e1 : m + 5 * ((d + 1 : Nat) : Int) = (m + 5) + 5 * (d : Int) := by omega
    have e2 : l.take i ++ rowZnodeS (d + 1) m = (l.set i (mkZnodeS m)).take (i + 1) ++ rowZnodeS d (m + 5) := by
      rw [take_set_snoc hi, List.append_assoc]; rfl
    rw [e1, e2]
    have IH := ih (i + 1) (l.set i (mkZnodeS m)) (m + 5) (by rw [List.length_set]; omega) (by rw [List.length_set]; exact hl) (by omega) (by omega)
    have hil : (i : Int) < (l.length : Int) := by omega
    have h0i : 0 ≤ (i : Int) := Int.natCast_nonneg i
    refine ev_step (fun k => (laws_markText.f k m).bind fun t => laws_markZnodeS.l0 k (l.set i ((⟨t, (m + 1), (m + 2), (m + 3), (m + 4)⟩ : S42))) (m + 5) ((i + 1 : Nat) : Int)) (fun k => ?_) (ev_call (mkText_ev m (by omega) (by omega)) IH)
    simp only [laws_markZnodeS.l0, wr1_ m (by omega) (by omega), wrn_ m 1 2 rfl (by omega) (by omega), wrn_ m 2 3 rfl (by omega) (by omega), wrn_ m 3 4 rfl (by omega) (by omega), wrn_ m 4 5 rfl (by omega) (by omega), Int.toNat_natCast, Option.bind_some, if_pos hil, if_pos h0i, wrap_up hi (show l.length ≤ 4611686018427387904 by omega), List.set_set, rd_T42_set hi]
theorem laws_markZnodeS.ev (l : List (S42)) (m : Int) (hl : l.length ≤ 1048576000) (h0 : 0 ≤ m) (hb : m ≤ 1000000000000) : Ev (fun k => laws_markZnodeS.f k l m) (m + 5 * l.length, rowZnodeS l.length m) := by
  have h := laws_markZnodeS.l0_ev l.length 0 l m (by omega) hl h0 (by omega)
  rw [List.take_zero, List.nil_append] at h
  exact h
theorem laws_heldZnodeS.l0_ev (d : Nat) : ∀ (i : Nat) (l : List (S42)) (m : Int), i + d = l.length → l.length ≤ 1048576000 → l.drop i = rowZnodeS d m → 0 ≤ m → m + 5 * d ≤ 1152921504606846976 → Ev (fun k => laws_heldZnodeS.l0 k l m (i : Int)) (m + 5 * d) := by
  induction d with
  | zero =>
    intro i l m h hl hr h0 hb
    refine ev_done fun k => ?_
    simp only [laws_heldZnodeS.l0]; rw [if_neg (by omega)]; simp
  | succ d ih =>
    intro i l m h hl hr h0 hb
    have hi : i < l.length := by omega
    have e1 : m + 5 * ((d + 1 : Nat) : Int) = (m + 5) + 5 * (d : Int) := by omega
    rw [drop_at hi] at hr
    obtain ⟨hx, hr⟩ := List.cons.inj hr
    rw [e1]
    have IH := ih (i + 1) l (m + 5) (by omega) hl hr (by omega) (by omega)
    have hil : (i : Int) < (l.length : Int) := by omega
    have h0i : 0 ≤ (i : Int) := Int.natCast_nonneg i
    refine ev_step (fun k => (laws_markText.f k m).bind fun t => if (mkText m).toList = t.toList then laws_heldZnodeS.l0 k l (m + 5) ((i + 1 : Nat) : Int) else some (-1)) (fun k => ?_) (ev_call (mkText_ev m (by omega) (by omega)) (ev_cong (fun k => if_pos rfl) IH))
    simp only [laws_heldZnodeS.l0, wr1_ m (by omega) (by omega), wrn_ m 1 2 rfl (by omega) (by omega), wrn_ m 2 3 rfl (by omega) (by omega), wrn_ m 3 4 rfl (by omega) (by omega), wrn_ m 4 5 rfl (by omega) (by omega), Int.toNat_natCast, Option.bind_some, if_pos hil, if_pos h0i, wrap_up hi (show l.length ≤ 4611686018427387904 by omega), rd_T42_at hi, hx, mkZnodeS]; simp
theorem laws_heldZnodeS.ev (n : Nat) (m : Int) (hl : n ≤ 1048576000) (h0 : 0 ≤ m) (hb : m ≤ 1000000000000) : Ev (fun k => laws_heldZnodeS.f k (rowZnodeS n m) m) (m + 5 * n) := by
  have hn : ∀ (n : Nat) (m : Int), (rowZnodeS n m).length = n := by
    intro n
    induction n with
    | zero => intro m; rfl
    | succ n ih => intro m; simp [rowZnodeS, ih]
  exact laws_heldZnodeS.l0_ev n 0 (rowZnodeS n m) m (by rw [hn]; omega) (by rw [hn]; exact hl) (by rw [List.drop_zero]) h0 (by omega)
end Go.Proofs.Ytmoponhdjcinjaa.Qa

/- A number within bounds, by the program and by the reference. -/
namespace Go.Proofs.Ytmoponhdjcinjaa.Pure
open Go.RowKit Go.Proofs.Ytmoponhdjcinjaa.Qa Go.Proofs.YtmoponhdjcinjaaW.PrintWords Go.Proofs.YtmoponhdjcinjaaW.PrintLast Go.Proofs.Ytmoponhdjcinjaa.Aid
theorem spec_l1In_is (a lo hi : Int) : spec_l1In.f a lo hi = some (decide (lo ≤ a ∧ a ≤ hi)) := by
  unfold spec_l1In.f
  by_cases h : lo ≤ a
  · rw [if_pos h]; simp [h]
  · rw [if_neg h]; simp [h]
theorem impl_within_is (a lo hi : Int) : impl_within.f a lo hi = some (decide (lo ≤ a ∧ a ≤ hi)) := by
  unfold impl_within.f
  by_cases h : lo ≤ a
  · rw [if_pos h]; simp [h]
  · rw [if_neg h]; simp [h]
end Go.Proofs.Ytmoponhdjcinjaa.Pure

/- FnExactNewState: the program's NewState is the reference's, for every number. No condition. -/
namespace Go.Proofs.Ytmoponhdjcinjaa.Pure
open Go.RowKit Go.Proofs.Ytmoponhdjcinjaa.Qa Go.Proofs.YtmoponhdjcinjaaW.PrintWords Go.Proofs.YtmoponhdjcinjaaW.PrintLast Go.Proofs.Ytmoponhdjcinjaa.Aid
abbrev ZZ := S42
abbrev SS := S52
abbrev MM := S55
def nodes0 (a : Int) : List ZZ := if 0 ≤ a ∧ a ≤ 9000 then [(⟨(⟨#[47]⟩ : ByteArray), 0, 0, 0, 0⟩ : ZZ)] else []
def code0 (a : Int) : Int := if 0 ≤ a ∧ a ≤ 9000 then 0 else 3
def now0 (a : Int) : Int := if 0 ≤ a ∧ a ≤ 9000 then a else 0
theorem new_spec (a : Int) : spec_NewState.f a = some (code0 a, 0, 0, (⟨#[]⟩ : ByteArray), nodes0 a, ([] : List SS), now0 a, ([] : List MM)) := by
  unfold spec_NewState.f spec_l4Now.f spec_l6New.f nodes0 code0 now0
  rw [spec_l1In_is, Option.bind_some, Option.bind_some]
  by_cases h : 0 ≤ a ∧ a ≤ 9000
  · rw [if_pos (decide_eq_true h), if_pos h, if_pos h, if_pos h]; rfl
  · rw [if_neg (by rw [decide_eq_false h]; decide), if_neg h, if_neg h, if_neg h]
theorem new_impl (a : Int) : impl_NewState.f a = some (code0 a, 0, 0, (⟨#[]⟩ : ByteArray), nodes0 a, ([] : List SS), now0 a, ([] : List MM)) := by
  unfold impl_NewState.f impl_isTime.f impl_newState.f nodes0 code0 now0
  rw [impl_within_is, Option.bind_some, Option.bind_some]
  by_cases h : 0 ≤ a ∧ a ≤ 9000
  · rw [if_pos (decide_eq_true h), if_pos h, if_pos h, if_pos h]; rfl
  · rw [if_neg (by rw [decide_eq_false h]; decide), if_neg h, if_neg h, if_neg h]
theorem nodes_len (a : Int) : (nodes0 a).length ≤ 1 := by unfold nodes0; split <;> simp
theorem eqSR (c : Int) (l : List ZZ) (n : Int) (hl : l.length ≤ 1) : Ev (fun k => laws_eqStateResult.f k c 0 0 (⟨#[]⟩ : ByteArray) l ([] : List SS) n ([] : List MM) c 0 0 (⟨#[]⟩ : ByteArray) l ([] : List SS) n ([] : List MM)) true := by
  unfold laws_eqStateResult.f laws_eqReply.f laws_eqState.f
  refine ev_cong (f := fun k => (laws_eqZnodeS.f k l l).bind fun t => if t = true then ((laws_eqSessionS.f k ([] : List SS) ([] : List SS)).bind fun t => if t = true then ((laws_eqMarkS.f k ([] : List MM) ([] : List MM)).bind fun t => if t = true then some true else some false) else some false) else some false) (fun k => ?_) ?_
  · rw [if_pos rfl, if_pos rfl, if_pos rfl, if_pos rfl, Option.bind_some, if_pos rfl]
    cases laws_eqZnodeS.f k l l with
    | none => rfl
    | some t =>
      cases t with
      | false => rfl
      | true =>
        cases laws_eqSessionS.f k ([] : List SS) ([] : List SS) with
        | none => rfl
        | some t =>
          cases t with
          | false => rfl
          | true =>
            simp only [Option.bind_some, if_true]
            cases laws_eqMarkS.f k ([] : List MM) ([] : List MM) with
            | none => rfl
            | some t => cases t <;> rfl
  · exact ev_call (laws_eqZnodeS.ev l (by omega)) (ev_cong (fun k => if_pos rfl) (ev_call (laws_eqSessionS.ev [] (by simp)) (ev_cong (fun k => if_pos rfl) (ev_call (laws_eqMarkS.ev [] (by simp)) (ev_is fun k => if_pos rfl)))))
theorem markSR (c : Int) (l : List ZZ) (n : Int) (hl : l.length ≤ 1) : Ev (fun k => laws_markStateResult.f k c 0 0 (⟨#[]⟩ : ByteArray) l ([] : List SS) n ([] : List MM) 1) (1 + 5 * (l.length : Int), rowZnodeS l.length 1, [], []) := by
  unfold laws_markStateResult.f laws_markState.f
  have h1 := laws_markZnodeS.ev l 1 (by omega) (by omega) (by omega)
  have h2 := laws_markSessionS.ev [] (1 + 5 * (l.length : Int)) (by simp) (by omega) (by omega)
  have h3 := laws_markMarkS.ev [] (1 + 5 * (l.length : Int) + 2 * (([] : List SS).length : Int)) (by simp) (by simp; omega) (by simp; omega)
  refine ev_call (ev_call h1 (ev_call h2 (ev_call h3 (Ev.now _)))) (ev_is fun k => ?_)
  simp [rowSessionS, rowMarkS]
theorem heldSR (c : Int) (m : Nat) (n : Int) (hm : m ≤ 1) : Ev (fun k => laws_heldStateResult.f k c 0 0 (⟨#[]⟩ : ByteArray) (rowZnodeS m 1) ([] : List SS) n ([] : List MM) 1) (1 + 5 * (m : Int)) := by
  unfold laws_heldStateResult.f laws_heldState.f
  have h1 := laws_heldZnodeS.ev m 1 (by omega) (by omega) (by omega)
  have h2 := laws_heldSessionS.ev 0 (1 + 5 * (m : Int)) (by omega) (by omega) (by omega)
  have h3 := laws_heldMarkS.ev 0 (1 + 5 * (m : Int) + 2 * ((0 : Nat) : Int)) (by omega) (by omega) (by omega)
  refine ev_call (ev_call h1 (ev_cong (fun k => if_neg (by omega)) (ev_call h2 (ev_cong (fun k => if_neg (by omega)) (ev_call h3 (ev_is fun k => if_neg (by omega))))))) (ev_is fun k => ?_)
  rw [if_neg (by omega)]
  simp
theorem FnExactNewState (a : Int) (_ : (Lit.int .i64 a).wf = true) : ∃ k, laws_FnExactNewState.f k a = some true := by
  refine Ev.rounds ?_
  have hS := new_spec a
  have hI := new_impl a
  have hl := nodes_len a
  generalize nodes0 a = l at hS hI hl
  generalize code0 a = c at hS hI
  generalize now0 a = n at hS hI
  have hE := eqSR c l n hl
  have hM := markSR c l n hl
  have hH := heldSR c l.length n hl
  unfold laws_FnExactNewState.f
  refine ev_cong (fun k => by rw [hS, Option.bind_some, hI, Option.bind_some]) ?_
  refine ev_call hE (ev_cong (fun k => if_pos rfl) ?_)
  refine ev_step _ (fun k => by simp only [laws_FnExactNewState.j0]; rfl) (ev_call hM (ev_call hH (ev_cong (fun k => if_neg (show ¬ (1 + 5 * (l.length : Int) < 0) by omega)) ?_)))
  refine ev_step _ (fun k => by simp only [laws_FnExactNewState.j1]; exact if_pos trivial) ?_
  refine ev_step _ (fun k => by simp only [laws_FnExactNewState.j2]; rw [hI, Option.bind_some]) ?_
  refine ev_call hE (ev_cong (fun k => if_pos rfl) ?_)
  refine ev_step _ (fun k => by simp only [laws_FnExactNewState.j3]; rfl) (ev_call hH (ev_is fun k => ?_))
  rw [if_neg (show ¬ (1 + 5 * (l.length : Int) < 0) by omega), if_pos rfl]
end Go.Proofs.Ytmoponhdjcinjaa.Pure

/- For every input the law loop.example/g00369/laws.FnExactNewState returns true, and every argument reads behind the call as it read before. No condition. -/
namespace Go.Proofs.Ytmoponhdjcinjaa.fnExactNewState
open Go.ChangeShapes Go.WideShapes Go.ChangeAt Go.RowKit Go.Proofs.Ytmoponhdjcinjaa.Qa Go.Proofs.Ytmoponhdjcinjaa.Tro Go.Proofs.YtmoponhdjcinjaaW.PrintWords
open Go.ChangeMaps (open_string shut_string)
set_option linter.unusedVariables false
set_option linter.unusedSimpArgs false
theorem own : ownKnob Try.prog.godebug = none := by kernel_rfl
theorem laidOut : laidOutB Try.prog = true := by kernel_rfl
set_option maxRecDepth 100000 in
theorem lifted (os : Os) (started : os.Started) (H : Type) (enc : TypeId × Value → H) :
    ReturnsInHanded {} Try.checked os 3 .any (Rows.fnExactNewStateSpec.pre6 enc Try.prog Try.f3 Rows.fnExactNewStateRow.domain false) (Rows.fnExactNewStateSpec.post enc Try.prog Try.f3 false true false false) := by
  refine returnsInHanded_of_change_sized (C := Try.checked) own started (by kernel_rfl) Try.func3
    (ChangeSpec.witness6 (enc := enc) (C := Try.checked) false ⟨#[], #[.int .i64 0], []⟩ 8 (by kernel_rfl) (by kernel_rfl) (by kernel_rfl) (by kernel_rfl)) ?_
  intro W base args ds gs before hval0 hW hcnd hsz0 _
  have hval : ∀ (j : Nat) t v, Try.f3.params[j]? = some t → args[j]? = some v → Value.okWide Try.prog W .any base t v := hval0
  have hW' := hW
  obtain ⟨p, q, hA0, hV, rfl, hfz, hnd⟩ := hW
  have hA : DataW.TrodAll enc Try.prog W 0 (fun _ => true) true Try.f3.params.toList args.toList ds p := hA0
  rw [Try.params3] at hA hval
  obtain ⟨v0, vs0, d0, ds0, p0, q0, hargs, rfl, rfl, h0, r0⟩ := trodAll_cons hA
  obtain ⟨rfl, rfl, rfl⟩ := trodAll_nil r0
  obtain rfl : args = #[v0] := by cases args; simp_all
  obtain ⟨rfl, rfl⟩ := trodVars_none hV
  obtain ⟨a0, rfl, rfl, rfl, w0⟩ := open_int Try.underlying2 (hval 0 2 v0 rfl rfl) h0
  obtain ⟨k, hk⟩ := Pure.FnExactNewState a0 w0
  refine (laws_FnExactNewState.calls k a0 true W hk).mono fun e W' hE => ?_
  obtain ⟨he, hd⟩ := hE
  have bel : Below W.heap.size W W' := hd
  subst he
  exact ⟨_, rfl, _, _, _, [], _, [], hW', trodAll_mk1 (shut_bool Try.underlying4 _), (trodAll_cons_mk (shut_int Try.underlying2 w0) trodAll_mk0), rfl, bel.frame _, fun h => by cases h⟩
theorem over : Rows.fnExactNewStateRow.holds Try.pinned (OpenSpec.ofChange Rows.fnExactNewStateSpec) :=
  OpenClaim.holds_of_wide 3 Try.f3 rfl rfl rfl rfl rfl rfl rfl ⟨rfl, rfl, rfl, rfl, rfl⟩ rfl rfl rfl rfl rfl (by kernel_rfl) Try.func3 (by kernel_rfl)
    (of_decide_eq_true (by kernel_rfl)) (by unfold Func.isWrapper; first | (rw [if_pos (by decide +kernel)]; kernel_rfl) | (rw [if_neg (by decide +kernel)]; exact ⟨rfl, rfl⟩))
    (fun os started H enc _ => lifted os started H enc)
theorem proved : Rows.FnExactNewStateSaid := over
#print axioms proved
end Go.Proofs.Ytmoponhdjcinjaa.fnExactNewState
namespace Go.Proofs.Ytmoponhdjcinjaa
/-- The row, under a short name, for the claim. -/
theorem fnExactNewState_holds : Rows.FnExactNewStateSaid := fnExactNewState.proved
end Go.Proofs.Ytmoponhdjcinjaa
