/- For every input the law FnExactOpenSession returns true, and every argument reads behind the call as it read before: no condition. Here: the last part, the theorem in it. -/
import Derived.Test.YtaibahdfpbbmiaaWWords
import Derived.Test.YtaibahdfpbbmiaaQax0
import Derived.Test.YtaibahdfpbbmiaaQax1
import Derived.Test.YtaibahdfpbbmiaaQax2
import Derived.Test.YtaibahdfpbbmiaaQax3
import Derived.Test.YtaibahdfpbbmiaaQax4
import Derived.Test.YtaibahdfpbbmiaaQax5
import Derived.Test.YtaibahdfpbbmiaaQax6
import Derived.Test.YtaibahdfpbbmiaaQax9
import Derived.Test.YtaibahdfpbbmiaaQax11
import Derived.Test.YtaibahdfpbbmiaaQax19
import Derived.Test.YtaibahdfpbbmiaaQax12
import Derived.Test.YtaibahdfpbbmiaaQax13
import Derived.Test.YtaibahdfpbbmiaaQax20
import Derived.Test.YtaibahdfpbbmiaaQax21
import Derived.Test.YtaibahdfpbbmiaaQax14
import Derived.Test.YtaibahdfpbbmiaaQax15
import Derived.Test.YtaibahdfpbbmiaaQax16
import Derived.Test.YtaibahdfpbbmiaaQax22
import Derived.Test.YtaibahdfpbbmiaaQax23
import Derived.Test.YtaibahdfpbbmiaaQax25
import Derived.Test.YtaibahdfpbbmiaaQax26
import Derived.Test.YtaibahdfpbbmiaaQax27
import Derived.Test.YtaibahdfpbbmiaaQax10
import Derived.Test.YtaibahdfpbbmiaaQax17
import Derived.Test.YtaibahdfpbbmiaaQax18
import Derived.Test.YtaibahdfpbbmiaaQax24
import Derived.Test.YtaibahdfpbbmiaaQax28
import Derived.Test.YtaibahdfpbbmiaaQax29
import Derived.Test.YtaibahdfpbbmiaaQax30
import Derived.Test.YtaibahdfpbbmiaaQax7
import Derived.Test.YtaibahdfpbbmiaaQax8
import Derived.Test.YtaibahdfpbbmiaaQaxr
import Derived.Test.YtaibahdfpbbmiaaRows
import Derived.WalkKit
import Derived.ProofKit
import Derived.OpenShut
import Derived.ShutString
import Derived.ChangeOld
import Derived.Below
import Derived.SizedLaws
/- Small laws of the pure side: what ends, step by step; whole numbers; lists by places. -/
namespace Go.Proofs.Ytaibahdfpbbmiaa.Aid
open Go.RowKit Go.Proofs.YtaibahdfpbbmiaaW.PrintWords

theorem wrap_id {x : Int} (h0 : -9223372036854775808 ≤ x) (h1 : x ≤ 9223372036854775807) : wrap64 x = x := by
  unfold wrap64
  omega
theorem wrap_up {i n : Nat} (h : i < n) (hn : n ≤ 4611686018427387904) : wrap64 ((i : Int) + 1) = ((i + 1 : Nat) : Int) := by
  rw [wrap_id (by omega) (by omega)]
  omega
theorem wf_lo {x : Int} (h : (Lit.int .i64 x).wf = true) : -9223372036854775808 ≤ x ∧ x ≤ 9223372036854775807 := by
  have h' : (decide (IntKind.i64.min ≤ x) && decide (x ≤ IntKind.i64.max)) = true := h
  simp only [Bool.and_eq_true, decide_eq_true_eq] at h'
  exact h'
/-- One round, then what is known of the rest. -/
theorem ev_step {α : Type} {g : Nat → Option α} (f : Nat → Option α) {r : α} (h : ∀ k, g (k + 1) = f k) (k : Ev f r) : Ev g r := Ev.step h k
theorem ev_done {α : Type} {g : Nat → Option α} {r : α} (h : ∀ k, g (k + 1) = some r) : Ev g r := Ev.step h (Ev.now r)
theorem ev_is {α : Type} {g : Nat → Option α} {r : α} (h : ∀ k, g k = some r) : Ev g r := ⟨0, fun k _ => h k⟩
/-- A call whose answer is known, then the rest. -/
theorem ev_call {α β : Type} {g : Nat → Option α} {f : Nat → α → Option β} {a : α} {r : β} (h : Ev g a) (k : Ev (fun n => f n a) r) : Ev (fun n => (g n).bind (f n)) r := Ev.bind h k
theorem ev_cong {α : Type} {g f : Nat → Option α} {r : α} (h : ∀ k, g k = f k) (k : Ev f r) : Ev g r := Ev.congr h k
theorem rd_at {l : List Int} {i : Nat} (h : i < l.length) : rd l (i : Int) = l[i] := by
  unfold rd
  rw [Int.toNat_natCast, List.getD_eq_getElem?_getD, List.getElem?_eq_getElem h]
  rfl
theorem drop_at {α : Type} {l : List α} {i : Nat} (h : i < l.length) : l.drop i = l[i] :: l.drop (i + 1) := List.drop_eq_getElem_cons h
theorem drop_end {α : Type} {l : List α} {i : Nat} (h : l.length ≤ i) : l.drop i = [] := List.drop_eq_nil_of_le h
theorem rd_set_at {l : List Int} {i : Nat} {v : Int} (h : i < l.length) : rd (l.set i v) (i : Int) = v := by
  rw [rd_at (by simpa using h)]
  simp
theorem rdOf_at {α : Type} {z : α} {l : List α} {i : Nat} (h : i < l.length) : rdOf z l (i : Int) = l[i] := by
  unfold rdOf
  rw [Int.toNat_natCast, List.getD_eq_getElem?_getD, List.getElem?_eq_getElem h]
  rfl
theorem rdOf_set_at {α : Type} {z : α} {l : List α} {i : Nat} {v : α} (h : i < l.length) : rdOf z (l.set i v) (i : Int) = v := by
  rw [rdOf_at (by simpa using h)]
  simp
theorem take_set_snoc {α : Type} {l : List α} {i : Nat} {v : α} (h : i < l.length) : (l.set i v).take (i + 1) = l.take i ++ [v] := by
  rw [List.take_succ_eq_append_getElem (by simpa using h), List.take_set_of_le (Nat.le_refl i)]
  simp
theorem take_set_next {α : Type} {m L : List α} {i : Nat} {v : α} (h : i < m.length) (h' : i < L.length) (ht : m.take i = L.take i) (hv : L[i] = v) : (m.set i v).take (i + 1) = L.take (i + 1) := by
  rw [take_set_snoc h, List.take_succ_eq_append_getElem h', ht, hv]
theorem wr1_ (m : Int) (h0 : -9223372036854775808 ≤ m + 1) (h1 : m + 1 ≤ 9223372036854775807) : wrap64 (m + 1) = m + 1 := wrap_id h0 h1
theorem wrn_ (m j j1 : Int) (e : j + 1 = j1) (h0 : -9223372036854775808 ≤ m + j + 1) (h1 : m + j + 1 ≤ 9223372036854775807) : wrap64 (m + j + 1) = m + j1 := by
  rw [wrap_id h0 h1]
  omega
theorem size_strOfNums (xs : List Int) : (strOfNums xs).size = xs.length := by
  simp [strOfNums, ByteArray.size]
theorem tdiv_lt {x : Int} (h : 0 < x) : 0 ≤ Int.tdiv x 10 ∧ Int.tdiv x 10 + 1 ≤ x := by
  have : Int.tdiv x 10 = x / 10 := Int.tdiv_eq_ediv_of_nonneg (by omega)
  rw [this]
  omega
/-- Where what is so stands ahead of what is not: how many are so is the place. -/
theorem take_pos {α : Type} (p : α → Bool) (l : List α) (hm : l.Pairwise (fun x y => p y = true → p x = true)) : ∀ j (hj : j < l.length), p l[j] = true ↔ j < (l.takeWhile p).length := by
  induction l with
  | nil => intro j hj; simp at hj
  | cons x l ih =>
    intro j hj
    obtain ⟨h1, h2⟩ := List.pairwise_cons.1 hm
    cases hx : p x with
    | true =>
      rw [List.takeWhile_cons_of_pos hx]
      cases j with
      | zero => simp [hx]
      | succ j => simpa using ih h2 j (by simpa using hj)
    | false =>
      rw [List.takeWhile_cons_of_neg (by simp [hx])]
      cases j with
      | zero => simp [hx]
      | succ j =>
        have hj' : j < l.length := by simpa using hj
        have : p l[j] = true → False := fun h => by
          have := h1 l[j] (List.getElem_mem hj') h
          rw [hx] at this
          cases this
        simp
        exact Bool.eq_false_iff.2 this
theorem take_pos_le {α : Type} (p : α → Bool) (l : List α) : (l.takeWhile p).length ≤ l.length := (List.takeWhile_prefix p).length_le
theorem mid_eq {a b : Nat} (h : a + b ≤ 4611686018427387904) : wrap64 ((IntKind.u64.wrap (wrap64 ((a : Int) + (b : Int)))) / 2) = ((((a + b) / 2 : Nat)) : Int) := by
  have e : wrap64 ((a : Int) + (b : Int)) = ((a + b : Nat) : Int) := by rw [wrap_id (by omega) (by omega)]; omega
  have e2 : IntKind.u64.wrap (((a + b : Nat)) : Int) = ((a + b : Nat) : Int) := by
    have : IntKind.u64.wrap (((a + b : Nat)) : Int) = (((a + b : Nat)) : Int) % 18446744073709551616 := rfl
    rw [this]
    omega
  rw [e, e2, wrap_id (by omega) (by omega)]
  omega
end Go.Proofs.Ytaibahdfpbbmiaa.Aid

-- By gp.py (wip/gen of the work's repo), a program of this workplace over the kit's print: Lean checks it.
namespace Go.Proofs.Ytaibahdfpbbmiaa.Qa
open Go.RowKit Go.Proofs.YtaibahdfpbbmiaaW.PrintWords Go.Proofs.YtaibahdfpbbmiaaW.PrintLast Go.Proofs.Ytaibahdfpbbmiaa.Aid
set_option linter.unusedVariables false
set_option linter.unusedSimpArgs false

theorem rd_T77_at {l : List (S77)} {i : Nat} (h : i < l.length) : rd_T77 l (i : Int) = l[i] := by
  unfold rd_T77
  rw [Int.toNat_natCast, List.getD_eq_getElem?_getD, List.getElem?_eq_getElem h]
  rfl
theorem rd_T77_set {l : List (S77)} {i : Nat} {v : S77} (h : i < l.length) : rd_T77 (l.set i v) (i : Int) = v := by
  rw [rd_T77_at (by simpa using h)]
  simp
theorem rd_T75_at {l : List (S75)} {i : Nat} (h : i < l.length) : rd_T75 l (i : Int) = l[i] := by
  unfold rd_T75
  rw [Int.toNat_natCast, List.getD_eq_getElem?_getD, List.getElem?_eq_getElem h]
  rfl
theorem rd_T75_set {l : List (S75)} {i : Nat} {v : S75} (h : i < l.length) : rd_T75 (l.set i v) (i : Int) = v := by
  rw [rd_T75_at (by simpa using h)]
  simp
end Go.Proofs.Ytaibahdfpbbmiaa.Qa

-- By gp.py (wip/gen of the work's repo), a program of this workplace over the kit's print: Lean checks it.
namespace Go.Proofs.Ytaibahdfpbbmiaa.Qa
open Go.RowKit Go.Proofs.YtaibahdfpbbmiaaW.PrintWords Go.Proofs.YtaibahdfpbbmiaaW.PrintLast Go.Proofs.Ytaibahdfpbbmiaa.Aid
set_option linter.unusedVariables false
set_option linter.unusedSimpArgs false

def cvSession (x : S77) : S75 := (⟨x.f0, x.f1⟩ : S75)
theorem laws_toSession.is (x : S77) : laws_toSession.f x.f0 x.f1 = some (x.f0, x.f1) := by
  rfl
theorem laws_eqSession.is (x : S75) : laws_eqSession.f x.f0 x.f1 x.f0 x.f1 = some true := by
  simp [laws_eqSession.f]
theorem laws_szSessionS.ev (l : List (S77)) (a : Int) (hl : l.length ≤ 9223372036854775807) (h0 : 0 ≤ a) (h1 : a ≤ 1048576) : ∃ r : Int, (laws_szSessionS.f l a = some r) ∧ (0 ≤ r → r ≤ a ∧ (l.length : Int) ≤ a) := by
  unfold laws_szSessionS.f
  rw [wrap_id (by omega) (by omega)]
  by_cases h : a - (l.length : Int) < 0
  · exact ⟨-1, if_pos h, by omega⟩
  · exact ⟨_, if_neg h, by omega⟩
theorem laws_toSessionS.l0_ev (l : List (S77)) (hl : l.length ≤ 4611686018427387904) (d : Nat) : ∀ (i : Nat) (m : List (S75)), i + d = l.length → m.length = l.length → m.take i = (l.map cvSession).take i → Ev (fun k => laws_toSessionS.l0 k l m (i : Int)) (l.map cvSession) := by
  induction d with
  | zero =>
    intro i m h hm ht
    have e : m = (l.map cvSession) := by rw [List.take_of_length_le (by omega), List.take_of_length_le (by rw [List.length_map]; omega)] at ht; exact ht
    exact ev_done fun k => by simp only [laws_toSessionS.l0]; rw [if_neg (by omega), e]
  | succ d ih =>
    intro i m h hm ht
    have hi : i < l.length := by omega
    have hi' : i < (l.map cvSession).length := by rw [List.length_map]; omega
    have hv : (l.map cvSession)[i] = (cvSession l[i]) := by rw [List.getElem_map]
    refine ev_step (fun k => laws_toSessionS.l0 k l (m.set i (cvSession l[i])) ((i + 1 : Nat) : Int)) (fun k => ?_) (ih (i + 1) (m.set i (cvSession l[i])) (by omega) (by rw [List.length_set]; exact hm) ?_)
    · simp only [laws_toSessionS.l0]; rw [if_pos (by omega), if_pos (by omega), rd_T77_at hi, laws_toSession.is]; simp only [Option.bind_some]; rw [if_pos (by omega), wrap_up hi hl, Int.toNat_natCast]; rfl
    · exact take_set_next (by omega) hi' ht hv
theorem laws_toSessionS.ev (l : List (S77)) (hl : l.length ≤ 1048576) : Ev (fun k => laws_toSessionS.f k l) (l.map cvSession) := by
  unfold laws_toSessionS.f
  refine ev_cong (f := fun k => laws_toSessionS.l0 k l (List.replicate l.length z75) ((0 : Nat) : Int)) (fun k => ?_) (laws_toSessionS.l0_ev l (by omega) l.length 0 _ (by omega) (by simp) (by simp))
  rw [if_pos (by omega), if_pos (by rw [Int.toNat_natCast]; omega), Int.toNat_natCast]; rfl
theorem laws_eqSessionS.l0_ev (l : List (S75)) (hl : l.length ≤ 4611686018427387904) (d : Nat) : ∀ (i : Nat), i + d = l.length → Ev (fun k => laws_eqSessionS.l0 k l l (i : Int)) true := by
  induction d with
  | zero => exact fun i h => ev_done fun k => by simp only [laws_eqSessionS.l0]; rw [if_neg (by omega)]
  | succ d ih =>
    intro i h
    have hi : i < l.length := by omega
    refine ev_step (fun k => laws_eqSessionS.l0 k l l ((i + 1 : Nat) : Int)) (fun k => ?_) (ih (i + 1) (by omega))
    simp only [laws_eqSessionS.l0]; rw [if_pos (by omega), if_pos (by omega), if_pos (by omega), laws_eqSession.is, Option.bind_some, if_pos rfl, wrap_up hi hl]
theorem laws_eqSessionS.ev (l : List (S75)) (hl : l.length ≤ 4611686018427387904) : Ev (fun k => laws_eqSessionS.f k l l) true := by
  unfold laws_eqSessionS.f
  exact ev_cong (fun k => if_pos rfl) (laws_eqSessionS.l0_ev l hl l.length 0 (by omega))
end Go.Proofs.Ytaibahdfpbbmiaa.Qa

-- By gp.py (wip/gen of the work's repo), a program of this workplace over the kit's print: Lean checks it.
namespace Go.Proofs.Ytaibahdfpbbmiaa.Qa
open Go.RowKit Go.Proofs.YtaibahdfpbbmiaaW.PrintWords Go.Proofs.YtaibahdfpbbmiaaW.PrintLast Go.Proofs.Ytaibahdfpbbmiaa.Aid
set_option linter.unusedVariables false
set_option linter.unusedSimpArgs false

def mkSessionS (m : Int) : S75 := (⟨m, (m + 1)⟩ : S75)
def rowSessionS : Nat → Int → List (S75)
  | 0, _ => []
  | d + 1, m => mkSessionS m :: rowSessionS d (m + 2)
theorem laws_markSessionS.l0_ev (d : Nat) : ∀ (i : Nat) (l : List (S75)) (m : Int), i + d = l.length → l.length ≤ 1048576000 → 0 ≤ m → m + 2 * d ≤ 1152921504606846976 → Ev (fun k => laws_markSessionS.l0 k l m (i : Int)) (m + 2 * d, l.take i ++ rowSessionS d m) := by
  induction d with
  | zero =>
    intro i l m h hl h0 hb
    refine ev_done fun k => ?_
    simp only [laws_markSessionS.l0]; rw [if_neg (by omega), List.take_of_length_le (by omega)]; simp [rowSessionS]
  | succ d ih =>
    intro i l m h hl h0 hb
    have hi : i < l.length := by omega
    have e1 : m + 2 * ((d + 1 : Nat) : Int) = (m + 2) + 2 * (d : Int) := by omega
    have e2 : l.take i ++ rowSessionS (d + 1) m = (l.set i (mkSessionS m)).take (i + 1) ++ rowSessionS d (m + 2) := by
      rw [take_set_snoc hi, List.append_assoc]; rfl
    rw [e1, e2]
    have IH := ih (i + 1) (l.set i (mkSessionS m)) (m + 2) (by rw [List.length_set]; omega) (by rw [List.length_set]; exact hl) (by omega) (by omega)
    have hil : (i : Int) < (l.length : Int) := by omega
    have h0i : 0 ≤ (i : Int) := Int.natCast_nonneg i
    refine ev_step (fun k => laws_markSessionS.l0 k (l.set i (mkSessionS m)) (m + 2) ((i + 1 : Nat) : Int)) (fun k => ?_) IH
    simp only [laws_markSessionS.l0, wr1_ m (by omega) (by omega), wrn_ m 1 2 rfl (by omega) (by omega), Int.toNat_natCast, Option.bind_some, if_pos hil, if_pos h0i, wrap_up hi (show l.length ≤ 4611686018427387904 by omega), List.set_set, rd_T75_set hi]; rfl
theorem laws_markSessionS.ev (l : List (S75)) (m : Int) (hl : l.length ≤ 1048576000) (h0 : 0 ≤ m) (hb : m ≤ 1000000000000) : Ev (fun k => laws_markSessionS.f k l m) (m + 2 * l.length, rowSessionS l.length m) := by
  have h := laws_markSessionS.l0_ev l.length 0 l m (by omega) hl h0 (by omega)
  rw [List.take_zero, List.nil_append] at h
  exact h
theorem laws_heldSessionS.l0_ev (d : Nat) : ∀ (i : Nat) (l : List (S75)) (m : Int), i + d = l.length → l.length ≤ 1048576000 → l.drop i = rowSessionS d m → 0 ≤ m → m + 2 * d ≤ 1152921504606846976 → Ev (fun k => laws_heldSessionS.l0 k l m (i : Int)) (m + 2 * d) := by
  induction d with
  | zero =>
    intro i l m h hl hr h0 hb
    refine ev_done fun k => ?_
    simp only [laws_heldSessionS.l0]; rw [if_neg (by omega)]; simp
  | succ d ih =>
    intro i l m h hl hr h0 hb
    have hi : i < l.length := by omega
    have e1 : m + 2 * ((d + 1 : Nat) : Int) = (m + 2) + 2 * (d : Int) := by omega
    rw [drop_at hi] at hr
    obtain ⟨hx, hr⟩ := List.cons.inj hr
    rw [e1]
    have IH := ih (i + 1) l (m + 2) (by omega) hl hr (by omega) (by omega)
    have hil : (i : Int) < (l.length : Int) := by omega
    have h0i : 0 ≤ (i : Int) := Int.natCast_nonneg i
    refine ev_step (fun k => laws_heldSessionS.l0 k l (m + 2) ((i + 1 : Nat) : Int)) (fun k => ?_) IH
    simp only [laws_heldSessionS.l0, wr1_ m (by omega) (by omega), wrn_ m 1 2 rfl (by omega) (by omega), Int.toNat_natCast, Option.bind_some, if_pos hil, if_pos h0i, wrap_up hi (show l.length ≤ 4611686018427387904 by omega), rd_T75_at hi, hx, mkSessionS]; simp
theorem laws_heldSessionS.ev (n : Nat) (m : Int) (hl : n ≤ 1048576000) (h0 : 0 ≤ m) (hb : m ≤ 1000000000000) : Ev (fun k => laws_heldSessionS.f k (rowSessionS n m) m) (m + 2 * n) := by
  have hn : ∀ (n : Nat) (m : Int), (rowSessionS n m).length = n := by
    intro n
    induction n with
    | zero => intro m; rfl
    | succ n ih => intro m; simp [rowSessionS, ih]
  exact laws_heldSessionS.l0_ev n 0 (rowSessionS n m) m (by rw [hn]; omega) (by rw [hn]; exact hl) (by rw [List.drop_zero]) h0 (by omega)
end Go.Proofs.Ytaibahdfpbbmiaa.Qa

/- A number within bounds, by the program and by the reference. -/
namespace Go.Proofs.Ytaibahdfpbbmiaa.Pure
open Go.RowKit Go.Proofs.Ytaibahdfpbbmiaa.Qa Go.Proofs.YtaibahdfpbbmiaaW.PrintWords Go.Proofs.YtaibahdfpbbmiaaW.PrintLast Go.Proofs.Ytaibahdfpbbmiaa.Aid
theorem spec_l1In_is (a lo hi : Int) : spec_l1In.f a lo hi = some (decide (lo ≤ a ∧ a ≤ hi)) := by
  unfold spec_l1In.f
  by_cases h : lo ≤ a
  · rw [if_pos h]; simp [h]
  · rw [if_neg h]; simp [h]
theorem impl_within_is (a lo hi : Int) : impl_within.f a lo hi = some (decide (lo ≤ a ∧ a ≤ hi)) := by
  unfold impl_within.f
  by_cases h : lo ≤ a
  · rw [if_pos h]; simp [h]
  · rw [if_neg h]; simp [h]
end Go.Proofs.Ytaibahdfpbbmiaa.Pure

/- Sessions: what is wrong with a list of them, by the program and by the reference: the same, for every list. -/
namespace Go.Proofs.Ytaibahdfpbbmiaa.Pure
open Go.RowKit Go.Proofs.Ytaibahdfpbbmiaa.Qa Go.Proofs.YtaibahdfpbbmiaaW.PrintWords Go.Proofs.YtaibahdfpbbmiaaW.PrintLast Go.Proofs.Ytaibahdfpbbmiaa.Aid

theorem in_spec (a lo hi : Int) : spec_l1In.f a lo hi = some (decide (lo ≤ a ∧ a ≤ hi)) := spec_l1In_is a lo hi
theorem in_impl (a lo hi : Int) : impl_within.f a lo hi = some (decide (lo ≤ a ∧ a ≤ hi)) := impl_within_is a lo hi
theorem id_spec (a : Int) : spec_l4Id.f a = some (decide (1 ≤ a ∧ a ≤ 9)) := by unfold spec_l4Id.f; rw [in_spec]; rfl
theorem id_impl (a : Int) : impl_isClient.f a = some (decide (1 ≤ a ∧ a ≤ 9)) := by unfold impl_isClient.f; rw [in_impl]; rfl

abbrev SS := S75
def sBad (s : SS) : Bool := !(decide (1 ≤ s.f0 ∧ s.f0 ≤ 9) && decide (0 ≤ s.f1 ∧ s.f1 ≤ 9999))
def sOne (prev : Option Int) (s : SS) : Int := if sBad s then 3 else match prev with
  | some p => if s.f0 ≤ p then 1 else 0
  | none => 0
def sFrom : Option Int → List SS → Int
  | _, [] => 0
  | prev, s :: r => if sOne prev s = 0 then sFrom (some s.f0) r else sOne prev s
def sFault (l : List SS) : Int := if l.length > 6 then 2 else sFrom none l
def prevOf (l : List SS) : Nat → Option Int
  | 0 => none
  | i + 1 => some (rd_T75 l (i : Int)).f0
theorem sFrom_cons {prev : Option Int} {s : SS} {r : List SS} : sFrom prev (s :: r) = if sOne prev s = 0 then sFrom (some s.f0) r else sOne prev s := rfl
theorem wrap_down {i : Nat} (h : i < 4611686018427387904) : wrap64 (((i + 1 : Nat) : Int) - 1) = (i : Int) := by
  rw [wrap_id (by omega) (by omega)]
  omega

theorem specFault_l0 (l : List SS) (hl : l.length ≤ 4611686018427387904) (d : Nat) : ∀ (i : Nat), i + d = l.length → Ev (fun k => spec_l4Fault.l0 k l (i : Int)) (sFrom (prevOf l i) (l.drop i)) := by
  induction d with
  | zero =>
    intro i h
    rw [drop_end (by omega)]
    exact ev_done fun k => by simp only [spec_l4Fault.l0]; rw [if_neg (by omega)]; rfl
  | succ d ih =>
    intro i h
    have hi : i < l.length := by omega
    have hr := rd_T75_at hi
    have IH := ih (i + 1) (by omega)
    have hp : prevOf l (i + 1) = some (l[i]).f0 := by rw [prevOf, hr]
    rw [hp] at IH
    rw [drop_at hi, sFrom_cons]
    refine ev_step (fun k => spec_l4Fault.j1 k l (i : Int) (sBad l[i])) (fun k => ?_) ?_
    · simp only [spec_l4Fault.l0]
      rw [if_pos (by omega), if_pos (by omega), hr, id_spec, in_spec]
      unfold sBad
      by_cases c1 : 1 ≤ (l[i]).f0 ∧ (l[i]).f0 ≤ 9 <;> simp [c1]
    · cases hb : sBad l[i] with
      | true =>
        have e : sOne (prevOf l i) l[i] = 3 := by unfold sOne; rw [if_pos hb]
        rw [e]
        exact ev_done fun k => by simp only [spec_l4Fault.j1]; simp
      | false =>
        have e : sOne (prevOf l i) l[i] = match prevOf l i with
            | some p => if (l[i]).f0 ≤ p then 1 else 0
            | none => 0 := by unfold sOne; rw [if_neg (by simp [hb])]
        rw [e]
        cases i with
        | zero =>
          refine ev_step (fun k => spec_l4Fault.l0 k l ((0 + 1 : Nat) : Int)) (fun k => ?_) (by simpa [prevOf] using IH)
          simp only [spec_l4Fault.j1]; rw [if_neg (by simp), if_neg (by omega), wrap_up hi hl]
        | succ j =>
          have hj : j < l.length := by omega
          by_cases c : (l[j + 1]).f0 ≤ (rd_T75 l (j : Int)).f0
          · have e2 : (match prevOf l (j + 1) with | some p => if (l[j + 1]).f0 ≤ p then (1 : Int) else 0 | none => 0) = 1 := by simp [prevOf, c]
            rw [e2]
            refine ev_done fun k => ?_
            simp only [spec_l4Fault.j1]; rw [if_neg (by simp), if_pos (by omega), if_pos (by omega), if_pos (by omega), wrap_down (by omega), if_pos (by omega), if_pos (by omega), hr, if_pos c]; rfl
          · have e2 : (match prevOf l (j + 1) with | some p => if (l[j + 1]).f0 ≤ p then (1 : Int) else 0 | none => 0) = 0 := by simp [prevOf, c]
            rw [e2]
            refine ev_step (fun k => spec_l4Fault.l0 k l ((j + 1 + 1 : Nat) : Int)) (fun k => ?_) (by simpa using IH)
            simp only [spec_l4Fault.j1]; rw [if_neg (by simp), if_pos (by omega), if_pos (by omega), if_pos (by omega), wrap_down (by omega), if_pos (by omega), if_pos (by omega), hr, if_neg c, wrap_up hi hl]
theorem specFault (l : List SS) (hl : l.length ≤ 4611686018427387904) : Ev (fun k => spec_l4Fault.f k l) (sFault l) := by
  unfold spec_l4Fault.f sFault
  by_cases h : l.length > 6
  · exact ev_is fun k => by rw [if_pos (by omega), if_pos h]
  · rw [if_neg h]
    exact ev_cong (fun k => if_neg (by omega)) (specFault_l0 l hl l.length 0 (by omega))
theorem implFault_l0 (l : List SS) (hl : l.length ≤ 4611686018427387904) (d : Nat) : ∀ (i : Nat), i + d = l.length → Ev (fun k => impl_SessionsFault.l0 k l l (l.length : Int) (i : Int)) (sFrom (prevOf l i) (l.drop i)) := by
  induction d with
  | zero =>
    intro i h
    rw [drop_end (by omega)]
    exact ev_done fun k => by simp only [impl_SessionsFault.l0]; rw [if_neg (by omega)]; rfl
  | succ d ih =>
    intro i h
    have hi : i < l.length := by omega
    have hr := rd_T75_at hi
    have IH := ih (i + 1) (by omega)
    have hp : prevOf l (i + 1) = some (l[i]).f0 := by rw [prevOf, hr]
    rw [hp] at IH
    rw [drop_at hi, sFrom_cons]
    refine ev_step (fun k => impl_SessionsFault.j1 k l (i : Int) l (l.length : Int) (i : Int) (sBad l[i]) (l[i]).f0 (l[i]).f1) (fun k => ?_) ?_
    · simp only [impl_SessionsFault.l0]
      rw [if_pos (by omega), if_pos (by omega), if_pos (by omega), hr, id_impl, in_impl]
      unfold sBad
      by_cases c1 : 1 ≤ (l[i]).f0 ∧ (l[i]).f0 ≤ 9 <;> simp [c1]
    · cases hb : sBad l[i] with
      | true =>
        have e : sOne (prevOf l i) l[i] = 3 := by unfold sOne; rw [if_pos hb]
        rw [e]
        exact ev_done fun k => by simp only [impl_SessionsFault.j1]; simp
      | false =>
        have e : sOne (prevOf l i) l[i] = match prevOf l i with
            | some p => if (l[i]).f0 ≤ p then 1 else 0
            | none => 0 := by unfold sOne; rw [if_neg (by simp [hb])]
        rw [e]
        cases i with
        | zero =>
          refine ev_step (fun k => impl_SessionsFault.l0 k l l (l.length : Int) ((0 + 1 : Nat) : Int)) (fun k => ?_) (by simpa [prevOf] using IH)
          simp only [impl_SessionsFault.j1]; rw [if_neg (by simp), if_neg (by omega), wrap_up hi hl]
        | succ j =>
          have hj : j < l.length := by omega
          by_cases c : (l[j + 1]).f0 ≤ (rd_T75 l (j : Int)).f0
          · have e2 : (match prevOf l (j + 1) with | some p => if (l[j + 1]).f0 ≤ p then (1 : Int) else 0 | none => 0) = 1 := by simp [prevOf, c]
            rw [e2]
            refine ev_done fun k => ?_
            simp only [impl_SessionsFault.j1]; rw [if_neg (by simp), if_pos (by omega), wrap_down (by omega), if_pos (by omega), if_pos (by omega), if_pos c]; rfl
          · have e2 : (match prevOf l (j + 1) with | some p => if (l[j + 1]).f0 ≤ p then (1 : Int) else 0 | none => 0) = 0 := by simp [prevOf, c]
            rw [e2]
            refine ev_step (fun k => impl_SessionsFault.l0 k l l (l.length : Int) ((j + 1 + 1 : Nat) : Int)) (fun k => ?_) (by simpa using IH)
            simp only [impl_SessionsFault.j1]; rw [if_neg (by simp), if_pos (by omega), wrap_down (by omega), if_pos (by omega), if_pos (by omega), if_neg c, wrap_up hi hl]
theorem implFault (l : List SS) (hl : l.length ≤ 4611686018427387904) : Ev (fun k => impl_SessionsFault.f k l) (sFault l) := by
  unfold impl_SessionsFault.f sFault
  by_cases h : l.length > 6
  · exact ev_is fun k => by rw [if_pos (by omega), if_pos h]
  · rw [if_neg h]
    exact ev_cong (fun k => if_neg (by omega)) (implFault_l0 l hl l.length 0 (by omega))
end Go.Proofs.Ytaibahdfpbbmiaa.Pure

/- Sessions: who is there, by the program (a search by halves) and by the reference (one by one): the same in every right list. -/
namespace Go.Proofs.Ytaibahdfpbbmiaa.Pure
open Go.RowKit Go.Proofs.Ytaibahdfpbbmiaa.Qa Go.Proofs.YtaibahdfpbbmiaaW.PrintWords Go.Proofs.YtaibahdfpbbmiaaW.PrintLast Go.Proofs.Ytaibahdfpbbmiaa.Aid

theorem sFrom_ok : ∀ (l : List SS) (prev : Option Int), sFrom prev l = 0 → (∀ s ∈ l, 1 ≤ s.f0 ∧ s.f0 ≤ 9 ∧ 0 ≤ s.f1 ∧ s.f1 ≤ 9999) ∧ l.Pairwise (fun x y => x.f0 < y.f0) ∧ ∀ p, prev = some p → ∀ s ∈ l, p < s.f0
  | [], _, _ => ⟨by simp, List.Pairwise.nil, by simp⟩
  | s :: r, prev, h => by
    rw [sFrom_cons] at h
    by_cases h1 : sOne prev s = 0
    · rw [if_pos h1] at h
      obtain ⟨g1, g2, g3⟩ := sFrom_ok r (some s.f0) h
      have hb : sBad s = false := by
        cases hb : sBad s with
        | false => rfl
        | true => unfold sOne at h1; rw [if_pos hb] at h1; cases h1
      have hg : 1 ≤ s.f0 ∧ s.f0 ≤ 9 ∧ 0 ≤ s.f1 ∧ s.f1 ≤ 9999 := by
        unfold sBad at hb
        simp only [Bool.not_eq_false', Bool.and_eq_true, decide_eq_true_eq] at hb
        omega
      have hp : ∀ p, prev = some p → p < s.f0 := by
        intro p hp
        subst hp
        unfold sOne at h1
        rw [if_neg (by simp [hb])] at h1
        by_cases c : s.f0 ≤ p
        · simp [c] at h1
        · omega
      refine ⟨?_, List.pairwise_cons.2 ⟨fun y hy => g3 s.f0 rfl y hy, g2⟩, ?_⟩
      · intro x hx
        rcases List.mem_cons.1 hx with rfl | hx
        · exact hg
        · exact g1 x hx
      · intro p he x hx
        rcases List.mem_cons.1 hx with rfl | hx
        · exact hp p he
        · have := hp p he
          have := g3 s.f0 rfl x hx
          omega
    · rw [if_neg h1] at h
      exact absurd h h1
structure Right (l : List SS) : Prop where
  few : l.length ≤ 6
  good : ∀ s ∈ l, 1 ≤ s.f0 ∧ s.f0 ≤ 9 ∧ 0 ≤ s.f1 ∧ s.f1 ≤ 9999
  rise : l.Pairwise (fun x y => x.f0 < y.f0)
theorem right_of {l : List SS} (h : sFault l = 0) : Right l := by
  unfold sFault at h
  by_cases h6 : l.length > 6
  · rw [if_pos h6] at h; cases h
  · rw [if_neg h6] at h
    obtain ⟨h1, h2, _⟩ := sFrom_ok l none h
    exact ⟨by omega, h1, h2⟩
/-- How many have a lower Id. -/
def pos (l : List SS) (a : Int) : Nat := (l.takeWhile fun s => decide (s.f0 < a)).length
/-- Is it there. -/
def here (l : List SS) (a : Int) : Bool := match l[pos l a]? with
  | some s => decide (s.f0 = a)
  | none => false
theorem pos_le (l : List SS) (a : Int) : pos l a ≤ l.length := take_pos_le _ l
theorem pos_iff {l : List SS} (h : Right l) (a : Int) (j : Nat) (hj : j < l.length) : (l[j]).f0 < a ↔ j < pos l a := by
  have := take_pos (fun s : SS => decide (s.f0 < a)) l (h.rise.imp (fun {x y} hxy hy => by
    have := of_decide_eq_true hy
    exact decide_eq_true (by omega))) j hj
  rw [decide_eq_true_eq] at this
  exact this
theorem search_l0 {l : List SS} (h : Right l) (a : Int) (ha : 1 ≤ a ∧ a ≤ 9) (d : Nat) : ∀ (lo hi : Nat), hi - lo ≤ d → lo ≤ pos l a → pos l a ≤ hi → hi ≤ l.length → Ev (fun k => slices_BinarySearchFunc_impl_Session_impl_Session_int64.l0 k l a (l.length : Int) (lo : Int) (hi : Int)) ((pos l a : Int), here l a) := by
  have h6 := h.few
  induction d with
  | zero =>
    intro lo hi hd h1 h2 h3
    have e : lo = pos l a := by omega
    subst e
    refine ev_done fun k => ?_
    simp only [slices_BinarySearchFunc_impl_Session_impl_Session_int64.l0]
    rw [if_neg (by omega)]
    by_cases hp : pos l a < l.length
    · have hg := h.good _ (List.getElem_mem hp)
      rw [if_pos (by omega), if_pos (by omega), if_pos (by omega), rd_T75_at hp]
      simp only [impl_sessionAt_1.f, Option.bind_some]
      rw [wrap_id (by omega) (by omega)]
      have e : here l a = decide ((l[pos l a]).f0 = a) := by unfold here; rw [List.getElem?_eq_getElem hp]
      rw [e]
      congr 2
      rw [Bool.eq_iff_iff]
      simp
      omega
    · rw [if_neg (by omega)]
      have e : here l a = false := by unfold here; rw [List.getElem?_eq_none (by omega)]
      rw [e]
  | succ d ih =>
    intro lo hi hd h1 h2 h3
    by_cases hlt : lo < hi
    · have hm : (lo + hi) / 2 < l.length := by omega
      have hg := h.good _ (List.getElem_mem hm)
      have hiff := pos_iff h a _ hm
      by_cases c : (l[(lo + hi) / 2]).f0 < a
      · refine ev_step (fun k => slices_BinarySearchFunc_impl_Session_impl_Session_int64.l0 k l a (l.length : Int) (((lo + hi) / 2 + 1 : Nat) : Int) (hi : Int)) (fun k => ?_) (ih _ _ (by omega) (by have := hiff.1 c; omega) h2 h3)
        simp only [slices_BinarySearchFunc_impl_Session_impl_Session_int64.l0]
        rw [mid_eq (by omega), if_pos (by omega), if_pos (by omega), if_pos (by omega), rd_T75_at hm]
        simp only [impl_sessionAt_1.f, Option.bind_some]
        rw [wrap_id (by omega) (by omega), if_pos (by omega), wrap_up hm (by omega)]
      · refine ev_step (fun k => slices_BinarySearchFunc_impl_Session_impl_Session_int64.l0 k l a (l.length : Int) (lo : Int) (((lo + hi) / 2 : Nat) : Int)) (fun k => ?_) (ih _ _ (by omega) h1 (by have := (not_congr hiff).1 c; omega) (by omega))
        simp only [slices_BinarySearchFunc_impl_Session_impl_Session_int64.l0]
        rw [mid_eq (by omega), if_pos (by omega), if_pos (by omega), if_pos (by omega), rd_T75_at hm]
        simp only [impl_sessionAt_1.f, Option.bind_some]
        rw [wrap_id (by omega) (by omega), if_neg (by omega)]
    · exact (fun e : hi - lo ≤ d => ih lo hi e h1 h2 h3) (by omega)
theorem at_impl {l : List SS} (h : Right l) (a : Int) (ha : 1 ≤ a ∧ a ≤ 9) : Ev (fun k => impl_sessionAt.f k l a) ((pos l a : Int), here l a) := by
  unfold impl_sessionAt.f slices_BinarySearchFunc_impl_Session_impl_Session_int64.f
  exact ev_call (search_l0 h a ha l.length 0 l.length (by omega) (by omega) (pos_le l a) (Nat.le_refl _)) (Ev.now _)
theorem at_spec_l0 {l : List SS} (h : Right l) (a : Int) (d : Nat) : ∀ (i : Nat), i + d = l.length → i ≤ pos l a → Ev (fun k => spec_l4At.l0 k l a (i : Int)) (if here l a then (pos l a : Int) else -1) := by
  have h6 := h.few
  induction d with
  | zero =>
    intro i hd hi
    have e : here l a = false := by unfold here; rw [List.getElem?_eq_none (by omega)]
    rw [e]
    exact ev_done fun k => by simp only [spec_l4At.l0]; rw [if_neg (by omega)]; simp
  | succ d ih =>
    intro i hd hi
    have hl : i < l.length := by omega
    by_cases c : (l[i]).f0 = a
    · have hp : pos l a = i := by
        have := (not_congr (pos_iff h a i hl)).1 (by omega)
        omega
      have e : here l a = true := by unfold here; rw [hp, List.getElem?_eq_getElem hl]; simp [c]
      rw [e, hp]
      exact ev_done fun k => by simp only [spec_l4At.l0]; rw [if_pos (by omega), if_pos (by omega), rd_T75_at hl, if_pos c]; simp
    · by_cases c2 : i < pos l a
      · refine ev_step (fun k => spec_l4At.l0 k l a ((i + 1 : Nat) : Int)) (fun k => ?_) (ih (i + 1) (by omega) c2)
        simp only [spec_l4At.l0]; rw [if_pos (by omega), if_pos (by omega), rd_T75_at hl, if_neg c, wrap_up hl (by omega)]
      · -- behind its place all are greater
        have hp : pos l a = i := by omega
        have e : here l a = false := by unfold here; rw [hp, List.getElem?_eq_getElem hl]; simp [c]
        have hgt : a < (l[i]).f0 := by
          have := (not_congr (pos_iff h a i hl)).2 c2
          omega
        have all : ∀ (d : Nat) (j : Nat), j + d = l.length → i ≤ j → Ev (fun k => spec_l4At.l0 k l a (j : Int)) (-1) := by
          intro d
          induction d with
          | zero => exact fun j hj _ => ev_done fun k => by simp only [spec_l4At.l0]; rw [if_neg (by omega)]
          | succ d ihd =>
            intro j hj hij
            have hjl : j < l.length := by omega
            have hne : ¬ (l[j]).f0 = a := by
              rcases Nat.eq_or_lt_of_le hij with e | e
              · subst e; exact c
              · have := List.pairwise_iff_getElem.1 h.rise i j hl hjl e
                omega
            refine ev_step (fun k => spec_l4At.l0 k l a ((j + 1 : Nat) : Int)) (fun k => ?_) (ihd (j + 1) (by omega) (by omega))
            simp only [spec_l4At.l0]; rw [if_pos (by omega), if_pos (by omega), rd_T75_at hjl, if_neg hne, wrap_up hjl (by omega)]
        rw [e]
        simpa using all (d + 1) i hd (Nat.le_refl i)
theorem at_spec {l : List SS} (h : Right l) (a : Int) : Ev (fun k => spec_l4At.f k l a) (if here l a then (pos l a : Int) else -1) := at_spec_l0 h a l.length 0 (by omega) (by omega)

theorem now_spec (a : Int) : spec_l4Now.f a = some (decide (0 ≤ a ∧ a ≤ 9000)) := by unfold spec_l4Now.f; rw [in_spec]; rfl
theorem now_impl (a : Int) : impl_isTime.f a = some (decide (0 ≤ a ∧ a ≤ 9000)) := by unfold impl_isTime.f; rw [in_impl]; rfl
/-- The code of sessions, an id and a time. -/
def askC (l : List SS) (a n : Int) : Int := if sFault l = 0 then (if (1 ≤ a ∧ a ≤ 9) ∧ (0 ≤ n ∧ n ≤ 9000) then 0 else 3) else sFault l
theorem ask_spec (l : List SS) (hl : l.length ≤ 4611686018427387904) (a n : Int) : Ev (fun k => spec_l4Asked.f k l a n) (askC l a n) := by
  unfold spec_l4Asked.f askC
  refine ev_call (specFault l hl) (ev_is fun k => ?_)
  by_cases h : sFault l = 0
  · rw [if_pos h, if_pos h, id_spec, now_spec]
    by_cases h1 : 1 ≤ a ∧ a ≤ 9 <;> by_cases h2 : 0 ≤ n ∧ n ≤ 9000 <;> simp [h1, h2]
  · rw [if_neg h, if_neg h]
theorem ask_impl (l : List SS) (hl : l.length ≤ 4611686018427387904) (a n : Int) : Ev (fun k => impl_sessionCode.f k l a n) (askC l a n) := by
  unfold impl_sessionCode.f askC
  refine ev_call (implFault l hl) (ev_is fun k => ?_)
  by_cases h : sFault l = 0
  · rw [if_pos h, if_pos h, id_impl, now_impl]
    by_cases h1 : 1 ≤ a ∧ a ≤ 9 <;> by_cases h2 : 0 ≤ n ∧ n ≤ 9000 <;> simp [h1, h2]
  · rw [if_neg h, if_neg h]
theorem askC_ok {l : List SS} {a n : Int} (h : askC l a n = 0) : Right l ∧ (1 ≤ a ∧ a ≤ 9) ∧ (0 ≤ n ∧ n ≤ 9000) := by
  unfold askC at h
  by_cases h1 : sFault l = 0
  · rw [if_pos h1] at h
    by_cases h2 : (1 ≤ a ∧ a ≤ 9) ∧ (0 ≤ n ∧ n ≤ 9000)
    · exact ⟨right_of h1, h2⟩
    · rw [if_neg h2] at h; cases h
  · rw [if_neg h1] at h; exact absurd h h1
theorem here_lt {l : List SS} {a : Int} (h : here l a = true) : pos l a < l.length := by
  unfold here at h
  cases hp : l[pos l a]? with
  | none => rw [hp] at h; cases h
  | some s => exact (List.getElem?_eq_some_iff.1 hp).1
end Go.Proofs.Ytaibahdfpbbmiaa.Pure

/- OpenSession: the program's answer is the reference's, for all lists and numbers; it writes into no argument, and its answer owns its memory. No condition. -/
namespace Go.Proofs.Ytaibahdfpbbmiaa.Pure
open Go.RowKit Go.Proofs.Ytaibahdfpbbmiaa.Qa Go.Proofs.YtaibahdfpbbmiaaW.PrintWords Go.Proofs.YtaibahdfpbbmiaaW.PrintLast Go.Proofs.Ytaibahdfpbbmiaa.Aid
def insS (l : List SS) (p : Nat) (z : SS) : List SS := l.take p ++ [z] ++ l.drop p
def openR (l : List SS) (a n : Int) : Int × List SS := if askC l a n = 0 then (if here l a = true then (6, []) else if l.length = 6 then (2, []) else (0, insS l (pos l a) ⟨a, wrap64 (n + 10)⟩)) else (askC l a n, [])
theorem clone_sess (l : List SS) (hl : l.length ≤ 1048576000) : slices_Clone_impl_Session_impl_Session.f l = some l := by
  unfold slices_Clone_impl_Session_impl_Session.f
  simp only [Option.bind_some, List.nil_append, List.length_nil, Nat.zero_add]
  rw [if_pos (by omega)]
theorem insert_sess {l : List SS} (hl : l.length ≤ 6) (p : Nat) (hp : p ≤ l.length) (z : SS) : slices_Insert_impl_Session_impl_Session.f l (p : Int) [z] = some (insS l p z) := by
  unfold slices_Insert_impl_Session_impl_Session.f
  rw [if_pos (by omega), if_pos (by omega), if_pos (show [z].length = 1 from rfl), if_pos (by omega), Int.toNat_natCast]
  rfl
theorem put_l0 {l : List SS} (h : Right l) (a n : Int) (d : Nat) : ∀ (i : Nat), i + d = l.length → i ≤ pos l a → Ev (fun k => spec_l4Open.l0 k l a n (i : Int)) (0, insS l (pos l a) ⟨a, wrap64 (n + 10)⟩) := by
  have h6 := h.few
  have fin : ∀ i : Nat, i ≤ l.length → (i < l.length → ¬ (rd_T75 l (i : Int)).f0 < a) → Ev (fun k => spec_l4Open.l0 k l a n (i : Int)) (0, insS l i ⟨a, wrap64 (n + 10)⟩) := by
    intro i hi hn
    have ht : (l.take i).length ≤ 6 := by rw [List.length_take]; omega
    have hd : (l.drop i).length ≤ 6 := by rw [List.length_drop]; omega
    refine ev_done fun k => ?_
    simp only [spec_l4Open.l0, Option.bind_some, List.nil_append, List.length_nil, Nat.zero_add, Int.toNat_natCast]
    have hs : ∀ z : SS, (l.take i ++ [z]).length ≤ 7 := fun z => by rw [List.length_append, List.length_singleton]; omega
    by_cases c : i < l.length
    · have hs' := hs (⟨a, wrap64 (n + 10)⟩ : SS)
      have q := hn c
      rw [if_pos (show (i : Int) < (l.length : Int) by omega), if_pos (show (0 : Int) ≤ (i : Int) by omega), if_neg q, if_pos (show (i : Int) ≤ (l.length : Int) by omega), if_pos (show (l.take i).length < 8796093022208 by omega), if_pos (show (l.take i).length < 8796093022208 by omega), if_pos (Nat.lt_of_le_of_lt (Nat.add_le_add hs' hd) (by omega))]
      rfl
    · have hs' := hs (⟨a, wrap64 (n + 10)⟩ : SS)
      rw [if_neg (show ¬ (i : Int) < (l.length : Int) by omega), if_pos (show (0 : Int) ≤ (i : Int) by omega), if_pos (show (i : Int) ≤ (l.length : Int) by omega), if_pos (show (l.take i).length < 8796093022208 by omega), if_pos (show (l.take i).length < 8796093022208 by omega), if_pos (Nat.lt_of_le_of_lt (Nat.add_le_add hs' hd) (by omega))]
      rfl
  induction d with
  | zero =>
    intro i hd hp
    have e : i = pos l a := by have := pos_le l a; omega
    rw [← e]
    exact fin i (by omega) (fun c => by omega)
  | succ d ih =>
    intro i hd hp
    have hi : i < l.length := by omega
    have hrd := rd_T75_at hi
    by_cases c : (l[i]).f0 < a
    · refine ev_step (fun k => spec_l4Open.l0 k l a n ((i + 1 : Nat) : Int)) (fun k => ?_) (ih (i + 1) (by omega) ((pos_iff h a i hi).1 c))
      simp only [spec_l4Open.l0]; rw [if_pos (by omega), if_pos (by omega), hrd, if_pos c, wrap_up hi (by omega)]
    · have e : i = pos l a := by have := (not_congr (pos_iff h a i hi)).1 c; omega
      rw [← e]
      exact fin i (by omega) (fun _ => by rw [hrd]; exact c)
theorem openR_bad {l : List SS} {a n : Int} (h : ¬ askC l a n = 0) : openR l a n = (askC l a n, []) := by unfold openR; exact if_neg h
theorem openR_here {l : List SS} {a n : Int} (h : askC l a n = 0) (hh : here l a = true) : openR l a n = (6, []) := by unfold openR; exact (if_pos h).trans (if_pos hh)
theorem openR_full {l : List SS} {a n : Int} (h : askC l a n = 0) (hh : ¬ here l a = true) (c : l.length = 6) : openR l a n = (2, []) := by unfold openR; exact (if_pos h).trans ((if_neg hh).trans (if_pos c))
theorem openR_put {l : List SS} {a n : Int} (h : askC l a n = 0) (hh : ¬ here l a = true) (c : ¬ l.length = 6) : openR l a n = (0, insS l (pos l a) ⟨a, wrap64 (n + 10)⟩) := by unfold openR; exact (if_pos h).trans ((if_neg hh).trans (if_neg c))
theorem OpenSession_spec (l : List SS) (hl : l.length ≤ 4611686018427387904) (a n : Int) : Ev (fun k => spec_OpenSession.f k l a n) (openR l a n) := by
  unfold spec_OpenSession.f
  refine ev_call (ask_spec l hl a n) ?_
  by_cases h : askC l a n = 0
  · obtain ⟨hR, ha, hn⟩ := askC_ok h
    have h6 := hR.few
    refine ev_cong (fun k => if_pos h) (ev_call (a := openR l a n) ?_ (Ev.now _))
    unfold spec_l4Open.f
    refine ev_call (at_spec hR a) ?_
    by_cases hh : here l a = true
    · rw [openR_here h hh, hh]
      exact ev_is fun k => if_pos (by show (0 : Int) ≤ if true = true then (pos l a : Int) else -1; rw [if_pos rfl]; omega)
    · have hf : here l a = false := Bool.eq_false_iff.2 hh
      have hneg : ¬ ((if here l a = true then (pos l a : Int) else -1) ≥ 0) := by rw [if_neg hh]; omega
      refine ev_cong (fun k => if_neg hneg) ?_
      by_cases c : l.length = 6
      · rw [openR_full h hh c]
        exact ev_is fun k => if_pos (by omega)
      · rw [openR_put h hh c]
        exact ev_cong (fun k => if_neg (by omega)) (put_l0 hR a n l.length 0 (by omega) (Nat.zero_le _))
  · rw [openR_bad h]
    exact ev_is fun k => if_neg h
theorem OpenSession_impl (l : List SS) (hl : l.length ≤ 4611686018427387904) (a n : Int) : Ev (fun k => impl_OpenSession.f k l a n) (openR l a n) := by
  unfold impl_OpenSession.f
  refine ev_call (ask_impl l hl a n) ?_
  by_cases h : askC l a n = 0
  · obtain ⟨hR, ha, hn⟩ := askC_ok h
    have h6 := hR.few
    refine ev_cong (fun k => if_pos h) (ev_call (at_impl hR a ha) ?_)
    by_cases hh : here l a = true
    · rw [openR_here h hh]
      exact ev_is fun k => if_pos hh
    · by_cases c : l.length = 6
      · rw [openR_full h hh c]
        exact ev_is fun k => (if_neg hh).trans (if_pos (by omega))
      · rw [openR_put h hh c]
        refine ev_is fun k => (if_neg hh).trans ((if_neg (by omega)).trans ?_)
        rw [clone_sess l (by omega), Option.bind_some]
        show (slices_Insert_impl_Session_impl_Session.f l (pos l a : Int) [(⟨a, wrap64 (n + 10)⟩ : SS)]).bind _ = _
        rw [insert_sess h6 _ (pos_le l a)]
        rfl
  · rw [openR_bad h]
    exact ev_is fun k => if_neg h
theorem openR_len (l : List SS) (a n : Int) : (openR l a n).2.length ≤ l.length + 1 := by
  unfold openR
  split
  · split
    · simp
    · split
      · simp
      · show (insS l _ _).length ≤ _
        unfold insS
        rw [List.length_append, List.length_append, List.length_take, List.length_drop, List.length_singleton]
        omega
  · simp
theorem eqSR (c : Int) (l : List SS) (hl : l.length ≤ 4611686018427387904) : Ev (fun k => laws_eqSessionsResult.f k c l c l) true := by
  unfold laws_eqSessionsResult.f
  exact ev_cong (fun k => if_pos rfl) (ev_call (laws_eqSessionS.ev l hl) (ev_is fun k => if_pos rfl))
theorem markSR (c : Int) (l : List SS) (hl : l.length ≤ 1048576000) : Ev (fun k => laws_markSessionsResult.f k c l 1) (1 + 2 * l.length, rowSessionS l.length 1) := by
  unfold laws_markSessionsResult.f
  exact ev_call (laws_markSessionS.ev l 1 hl (by omega) (by omega)) (Ev.now _)
theorem heldSR (c : Int) (n : Nat) (hl : n ≤ 1048576000) : Ev (fun k => laws_heldSessionsResult.f k c (rowSessionS n 1) 1) (1 + 2 * (n : Int)) := by
  unfold laws_heldSessionsResult.f
  exact ev_call (laws_heldSessionS.ev n 1 hl (by omega) (by omega)) (ev_is fun k => if_neg (by omega))
theorem FnExactOpenSession (l : List S77) (a n : Int) (hl : l.length ≤ 9223372036854775807 ∧ ∀ y_ ∈ l, g77 y_) (_ : (Lit.int .i64 a).wf = true) (_ : (Lit.int .i64 n).wf = true) : ∃ k, laws_FnExactOpenSession.f k l a n = some true := by
  refine Ev.rounds ?_
  unfold laws_FnExactOpenSession.f
  obtain ⟨r, hr, hq⟩ := laws_szSessionS.ev l 1048576 hl.1 (by omega) (by omega)
  refine ev_call (ev_is fun _ => hr) ?_
  by_cases h : r < 0
  · exact ev_is fun k => if_pos h
  refine ev_cong (fun k => if_neg h) ?_
  have hn := (hq (by omega)).2
  have h1 : l.length ≤ 1048576 := by omega
  have ht := laws_toSessionS.ev l h1
  have h3 : (l.map cvSession).length ≤ 1048576 := by rw [List.length_map]; omega
  have hS := OpenSession_spec (l.map cvSession) (by omega) a n
  have hI := OpenSession_impl (l.map cvSession) (by omega) a n
  have hR := openR_len (l.map cvSession) a n
  generalize openR (l.map cvSession) a n = R at hS hI hR ⊢
  have hE := eqSR R.1 R.2 (by omega)
  have hM := markSR R.1 R.2 (by omega)
  have hH := heldSR R.1 R.2.length (by omega)
  refine ev_step _ (fun k => by simp only [laws_FnExactOpenSession.j0]; rfl) (ev_call ht (ev_call hS (ev_call ht (ev_call hI (ev_call hE (ev_cong (fun k => if_pos rfl) ?_))))))
  refine ev_step _ (fun k => by simp only [laws_FnExactOpenSession.j1]; rfl) (ev_call ht (ev_call (laws_eqSessionS.ev (l.map cvSession) (by omega)) (ev_cong (fun k => if_pos rfl) ?_)))
  refine ev_step _ (fun k => by simp only [laws_FnExactOpenSession.j2]; rfl) (ev_call (laws_markSessionS.ev (l.map cvSession) 1 (by omega) (by omega) (by omega)) (ev_cong (fun k => if_neg (by show ¬ (1 + 2 * ((l.map cvSession).length : Int) < 0); omega)) (ev_call hE ?_)))
  refine ev_step _ (fun k => by simp only [laws_FnExactOpenSession.j3]; rw [if_neg (by simp)]) ?_
  refine ev_step _ (fun k => by simp only [laws_FnExactOpenSession.j4]; rfl) (ev_call hM (ev_call hH (ev_cong (fun k => if_neg (show ¬ (1 + 2 * (R.2.length : Int) < 0) by omega)) ?_)))
  refine ev_step _ (fun k => by simp only [laws_FnExactOpenSession.j5]; exact if_pos trivial) ?_
  refine ev_step _ (fun k => by simp only [laws_FnExactOpenSession.j6]; rfl) (ev_call ht (ev_call hI (ev_call hE (ev_cong (fun k => if_pos rfl) ?_))))
  refine ev_step _ (fun k => by simp only [laws_FnExactOpenSession.j7]; rfl) (ev_call hH (ev_is fun k => ?_))
  rw [if_neg (show ¬ (1 + 2 * (R.2.length : Int) < 0) by omega), if_pos rfl]
end Go.Proofs.Ytaibahdfpbbmiaa.Pure

/- For every input the law loop.example/g00369/laws.FnExactOpenSession returns true, and every argument reads behind the call as it read before. No condition. -/
namespace Go.Proofs.Ytaibahdfpbbmiaa.fnExactOpenSession
open Go.ChangeShapes Go.WideShapes Go.ChangeAt Go.RowKit Go.Proofs.Ytaibahdfpbbmiaa.Qa Go.Proofs.Ytaibahdfpbbmiaa.Tro Go.Proofs.YtaibahdfpbbmiaaW.PrintWords
open Go.ChangeMaps (open_string shut_string)
set_option linter.unusedVariables false
set_option linter.unusedSimpArgs false
theorem own : ownKnob Try.prog.godebug = none := by kernel_rfl
theorem laidOut : laidOutB Try.prog = true := by kernel_rfl
set_option maxRecDepth 100000 in
theorem lifted (os : Os) (started : os.Started) (H : Type) (enc : TypeId × Value → H) :
    ReturnsInHanded {} Try.checked os 8 .any (Rows.fnExactOpenSessionSpec.pre6 enc Try.prog Try.f8 Rows.fnExactOpenSessionRow.domain false) (Rows.fnExactOpenSessionSpec.post enc Try.prog Try.f8 false true false false) := by
  refine returnsInHanded_of_change_sized (C := Try.checked) own started (by kernel_rfl) Try.func8
    (ChangeSpec.witness6 (enc := enc) (C := Try.checked) false ⟨#[], #[.slice none 0 0, .int .i64 0, .int .i64 0], []⟩ 8 (by kernel_rfl) (by kernel_rfl) (by kernel_rfl) (by kernel_rfl)) ?_
  intro W base args ds gs before hval0 hW hcnd hsz0 _
  have hval : ∀ (j : Nat) t v, Try.f8.params[j]? = some t → args[j]? = some v → Value.okWide Try.prog W .any base t v := hval0
  have hW' := hW
  obtain ⟨p, q, hA0, hV, rfl, hfz, hnd⟩ := hW
  have hA : DataW.TrodAll enc Try.prog W 0 (fun _ => true) true Try.f8.params.toList args.toList ds p := hA0
  rw [Try.params8] at hA hval
  obtain ⟨v0, vs0, d0, ds0, p0, q0, hargs, rfl, rfl, h0, r0⟩ := trodAll_cons hA
  obtain ⟨v1, vs1, d1, ds1, p1, q1, rfl, rfl, rfl, h1, r1⟩ := trodAll_cons r0
  obtain ⟨v2, vs2, d2, ds2, p2, q2, rfl, rfl, rfl, h2, r2⟩ := trodAll_cons r1
  obtain ⟨rfl, rfl, rfl⟩ := trodAll_nil r2
  obtain rfl : args = #[v0, v1, v2] := by cases args; simp_all
  obtain ⟨rfl, rfl⟩ := trodVars_none hV
  have k0 := h0
  have lt0 : ∀ x ∈ p0, x.block < W.heap.size := by obtain ⟨m, hm⟩ := k0; exact DataW.trod_lt m _ _ _ hm
  obtain ⟨a0, len0, cap0, rfl⟩ := okWide_slice Try.underlying39 (hval 0 39 v0 rfl rfl)
  obtain ⟨fuel0, hf0⟩ := h0
  obtain ⟨l0, hK0, hg0⟩ := (tr_slice Try.underlying39 (by kernel_rfl) tr77) enc W _ _ _ hf0
  obtain ⟨A0, c0, hcs0, hl0, hC0⟩ := hK0
  simp only [Value.cells, List.cons.injEq, Value.slice.injEq, and_true] at hcs0
  obtain ⟨rfl, rfl, rfl⟩ := hcs0
  obtain ⟨a1, rfl, rfl, rfl, w1⟩ := open_int Try.underlying2 (hval 1 2 v1 rfl rfl) h1
  obtain ⟨a2, rfl, rfl, rfl, w2⟩ := open_int Try.underlying2 (hval 2 2 v2 rfl rfl) h2
  obtain ⟨k, hk⟩ := Pure.FnExactOpenSession l0 a1 a2 hg0 w1 w2
  refine (laws_FnExactOpenSession.calls k _ _ l0 a1 a2 true W hC0 hl0 hk).mono fun e W' hE => ?_
  obtain ⟨he, hd⟩ := hE
  have bel : Below W.heap.size W W' := hd
  subst he
  exact ⟨_, rfl, _, _, _, [], _, [], hW', trodAll_mk1 (shut_bool Try.underlying4 _), (trodAll_cons_mk (Below.trod laidOut (by kernel_rfl) (of_decide_eq_true (by kernel_rfl)) k0 bel lt0) (trodAll_cons_mk (shut_int Try.underlying2 w1) (trodAll_cons_mk (shut_int Try.underlying2 w2) trodAll_mk0))), rfl, bel.frame _, fun h => by cases h⟩
theorem over : Rows.fnExactOpenSessionRow.holds Try.pinned (OpenSpec.ofChange Rows.fnExactOpenSessionSpec) :=
  OpenClaim.holds_of_wide 8 Try.f8 rfl rfl rfl rfl rfl rfl rfl ⟨rfl, rfl, rfl, rfl, rfl⟩ rfl rfl rfl rfl rfl (by kernel_rfl) Try.func8 (by kernel_rfl)
    (of_decide_eq_true (by kernel_rfl)) (by unfold Func.isWrapper; first | (rw [if_pos (by decide +kernel)]; kernel_rfl) | (rw [if_neg (by decide +kernel)]; exact ⟨rfl, rfl⟩))
    (fun os started H enc _ => lifted os started H enc)
theorem proved : Rows.FnExactOpenSessionSaid := over
#print axioms proved
end Go.Proofs.Ytaibahdfpbbmiaa.fnExactOpenSession
namespace Go.Proofs.Ytaibahdfpbbmiaa
/-- The row, under a short name, for the claim. -/
theorem fnExactOpenSession_holds : Rows.FnExactOpenSessionSaid := fnExactOpenSession.proved
end Go.Proofs.Ytaibahdfpbbmiaa
