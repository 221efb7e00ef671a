/- For every input the law FnExactSameTrees returns true, and every argument reads behind the call as it read before: no condition. Here: the last part, the theorem in it. -/
import Derived.Test.YtlfhpljeeedbdaaWWords
import Derived.Test.YtlfhpljeeedbdaaQax0
import Derived.Test.YtlfhpljeeedbdaaQax12
import Derived.Test.YtlfhpljeeedbdaaQax13
import Derived.Test.YtlfhpljeeedbdaaQax15
import Derived.Test.YtlfhpljeeedbdaaQax16
import Derived.Test.YtlfhpljeeedbdaaQax19
import Derived.Test.YtlfhpljeeedbdaaQax20
import Derived.Test.YtlfhpljeeedbdaaQax24
import Derived.Test.YtlfhpljeeedbdaaQax25
import Derived.Test.YtlfhpljeeedbdaaQax28
import Derived.Test.YtlfhpljeeedbdaaQax29
import Derived.Test.YtlfhpljeeedbdaaQax30
import Derived.Test.YtlfhpljeeedbdaaQax31
import Derived.Test.YtlfhpljeeedbdaaQax34
import Derived.Test.YtlfhpljeeedbdaaQax35
import Derived.Test.YtlfhpljeeedbdaaQax36
import Derived.Test.YtlfhpljeeedbdaaQax37
import Derived.Test.YtlfhpljeeedbdaaQax38
import Derived.Test.YtlfhpljeeedbdaaQax43
import Derived.Test.YtlfhpljeeedbdaaQax44
import Derived.Test.YtlfhpljeeedbdaaQax45
import Derived.Test.YtlfhpljeeedbdaaQax46
import Derived.Test.YtlfhpljeeedbdaaQax47
import Derived.Test.YtlfhpljeeedbdaaQax5
import Derived.Test.YtlfhpljeeedbdaaQax6
import Derived.Test.YtlfhpljeeedbdaaQax8
import Derived.Test.YtlfhpljeeedbdaaQax9
import Derived.Test.YtlfhpljeeedbdaaQax10
import Derived.Test.YtlfhpljeeedbdaaQax11
import Derived.Test.YtlfhpljeeedbdaaQax7
import Derived.Test.YtlfhpljeeedbdaaQax14
import Derived.Test.YtlfhpljeeedbdaaQaxr
import Derived.Test.YtlfhpljeeedbdaaRows
import Derived.WalkKit
import Derived.ProofKit
import Derived.OpenShut
import Derived.ShutString
import Derived.ChangeOld
import Derived.Below
import Derived.SizedLaws
/- Small laws of the pure side: what ends, step by step; whole numbers; lists by places. -/
namespace Go.Proofs.Ytlfhpljeeedbdaa.Aid
open Go.RowKit Go.Proofs.YtlfhpljeeedbdaaW.PrintWords

theorem wrap_id {x : Int} (h0 : -9223372036854775808 ≤ x) (h1 : x ≤ 9223372036854775807) : wrap64 x = x := by
  unfold wrap64
  omega
theorem wrap_up {i n : Nat} (h : i < n) (hn : n ≤ 4611686018427387904) : wrap64 ((i : Int) + 1) = ((i + 1 : Nat) : Int) := by
  rw [wrap_id (by omega) (by omega)]
  omega
theorem wf_lo {x : Int} (h : (Lit.int .i64 x).wf = true) : -9223372036854775808 ≤ x ∧ x ≤ 9223372036854775807 := by
  have h' : (decide (IntKind.i64.min ≤ x) && decide (x ≤ IntKind.i64.max)) = true := h
  simp only [Bool.and_eq_true, decide_eq_true_eq] at h'
  exact h'
/-- One round, then what is known of the rest. -/
theorem ev_step {α : Type} {g : Nat → Option α} (f : Nat → Option α) {r : α} (h : ∀ k, g (k + 1) = f k) (k : Ev f r) : Ev g r := Ev.step h k
theorem ev_done {α : Type} {g : Nat → Option α} {r : α} (h : ∀ k, g (k + 1) = some r) : Ev g r := Ev.step h (Ev.now r)
theorem ev_is {α : Type} {g : Nat → Option α} {r : α} (h : ∀ k, g k = some r) : Ev g r := ⟨0, fun k _ => h k⟩
/-- A call whose answer is known, then the rest. -/
theorem ev_call {α β : Type} {g : Nat → Option α} {f : Nat → α → Option β} {a : α} {r : β} (h : Ev g a) (k : Ev (fun n => f n a) r) : Ev (fun n => (g n).bind (f n)) r := Ev.bind h k
theorem ev_cong {α : Type} {g f : Nat → Option α} {r : α} (h : ∀ k, g k = f k) (k : Ev f r) : Ev g r := Ev.congr h k
theorem rd_at {l : List Int} {i : Nat} (h : i < l.length) : rd l (i : Int) = l[i] := by
  unfold rd
  rw [Int.toNat_natCast, List.getD_eq_getElem?_getD, List.getElem?_eq_getElem h]
  rfl
theorem drop_at {α : Type} {l : List α} {i : Nat} (h : i < l.length) : l.drop i = l[i] :: l.drop (i + 1) := List.drop_eq_getElem_cons h
theorem drop_end {α : Type} {l : List α} {i : Nat} (h : l.length ≤ i) : l.drop i = [] := List.drop_eq_nil_of_le h
theorem rd_set_at {l : List Int} {i : Nat} {v : Int} (h : i < l.length) : rd (l.set i v) (i : Int) = v := by
  rw [rd_at (by simpa using h)]
  simp
theorem rdOf_at {α : Type} {z : α} {l : List α} {i : Nat} (h : i < l.length) : rdOf z l (i : Int) = l[i] := by
  unfold rdOf
  rw [Int.toNat_natCast, List.getD_eq_getElem?_getD, List.getElem?_eq_getElem h]
  rfl
theorem rdOf_set_at {α : Type} {z : α} {l : List α} {i : Nat} {v : α} (h : i < l.length) : rdOf z (l.set i v) (i : Int) = v := by
  rw [rdOf_at (by simpa using h)]
  simp
theorem take_set_snoc {α : Type} {l : List α} {i : Nat} {v : α} (h : i < l.length) : (l.set i v).take (i + 1) = l.take i ++ [v] := by
  rw [List.take_succ_eq_append_getElem (by simpa using h), List.take_set_of_le (Nat.le_refl i)]
  simp
theorem take_set_next {α : Type} {m L : List α} {i : Nat} {v : α} (h : i < m.length) (h' : i < L.length) (ht : m.take i = L.take i) (hv : L[i] = v) : (m.set i v).take (i + 1) = L.take (i + 1) := by
  rw [take_set_snoc h, List.take_succ_eq_append_getElem h', ht, hv]
theorem wr1_ (m : Int) (h0 : -9223372036854775808 ≤ m + 1) (h1 : m + 1 ≤ 9223372036854775807) : wrap64 (m + 1) = m + 1 := wrap_id h0 h1
theorem wrn_ (m j j1 : Int) (e : j + 1 = j1) (h0 : -9223372036854775808 ≤ m + j + 1) (h1 : m + j + 1 ≤ 9223372036854775807) : wrap64 (m + j + 1) = m + j1 := by
  rw [wrap_id h0 h1]
  omega
theorem size_strOfNums (xs : List Int) : (strOfNums xs).size = xs.length := by
  simp [strOfNums, ByteArray.size]
theorem tdiv_lt {x : Int} (h : 0 < x) : 0 ≤ Int.tdiv x 10 ∧ Int.tdiv x 10 + 1 ≤ x := by
  have : Int.tdiv x 10 = x / 10 := Int.tdiv_eq_ediv_of_nonneg (by omega)
  rw [this]
  omega
/-- Where what is so stands ahead of what is not: how many are so is the place. -/
theorem take_pos {α : Type} (p : α → Bool) (l : List α) (hm : l.Pairwise (fun x y => p y = true → p x = true)) : ∀ j (hj : j < l.length), p l[j] = true ↔ j < (l.takeWhile p).length := by
  induction l with
  | nil => intro j hj; simp at hj
  | cons x l ih =>
    intro j hj
    obtain ⟨h1, h2⟩ := List.pairwise_cons.1 hm
    cases hx : p x with
    | true =>
      rw [List.takeWhile_cons_of_pos hx]
      cases j with
      | zero => simp [hx]
      | succ j => simpa using ih h2 j (by simpa using hj)
    | false =>
      rw [List.takeWhile_cons_of_neg (by simp [hx])]
      cases j with
      | zero => simp [hx]
      | succ j =>
        have hj' : j < l.length := by simpa using hj
        have : p l[j] = true → False := fun h => by
          have := h1 l[j] (List.getElem_mem hj') h
          rw [hx] at this
          cases this
        simp
        exact Bool.eq_false_iff.2 this
theorem take_pos_le {α : Type} (p : α → Bool) (l : List α) : (l.takeWhile p).length ≤ l.length := (List.takeWhile_prefix p).length_le
theorem mid_eq {a b : Nat} (h : a + b ≤ 4611686018427387904) : wrap64 ((IntKind.u64.wrap (wrap64 ((a : Int) + (b : Int)))) / 2) = ((((a + b) / 2 : Nat)) : Int) := by
  have e : wrap64 ((a : Int) + (b : Int)) = ((a + b : Nat) : Int) := by rw [wrap_id (by omega) (by omega)]; omega
  have e2 : IntKind.u64.wrap (((a + b : Nat)) : Int) = ((a + b : Nat) : Int) := by
    have : IntKind.u64.wrap (((a + b : Nat)) : Int) = (((a + b : Nat)) : Int) % 18446744073709551616 := rfl
    rw [this]
    omega
  rw [e, e2, wrap_id (by omega) (by omega)]
  omega
end Go.Proofs.Ytlfhpljeeedbdaa.Aid

-- By gp.py (wip/gen of the work's repo), a program of this workplace over the kit's print: Lean checks it.
namespace Go.Proofs.Ytlfhpljeeedbdaa.Qa
open Go.RowKit Go.Proofs.YtlfhpljeeedbdaaW.PrintWords Go.Proofs.YtlfhpljeeedbdaaW.PrintLast Go.Proofs.Ytlfhpljeeedbdaa.Aid
set_option linter.unusedVariables false
set_option linter.unusedSimpArgs false

def cvZnode (x : S60) : S61 := (⟨x.f0, x.f1, x.f2, x.f3, x.f4⟩ : S61)
theorem laws_toZnode.is (x : S60) : laws_toZnode.f x.f0 x.f1 x.f2 x.f3 x.f4 = some (x.f0, x.f1, x.f2, x.f3, x.f4) := by
  rfl
theorem laws_eqZnode.is (x : S61) : laws_eqZnode.f x.f0 x.f1 x.f2 x.f3 x.f4 x.f0 x.f1 x.f2 x.f3 x.f4 = some true := by
  simp [laws_eqZnode.f]
theorem laws_eqReply.is (x : S51) : laws_eqReply.f x.f0 x.f1 x.f2 x.f0 x.f1 x.f2 = some true := by
  simp [laws_eqReply.f]
def cvOp (x : S84) : S66 := (⟨x.f0, x.f1, x.f2, x.f3, x.f4, x.f5⟩ : S66)
theorem laws_toOp.is (x : S84) : laws_toOp.f x.f0 x.f1 x.f2 x.f3 x.f4 x.f5 = some (x.f0, x.f1, x.f2, x.f3, x.f4, x.f5) := by
  rfl
theorem laws_eqOp.is (x : S66) : laws_eqOp.f x.f0 x.f1 x.f2 x.f3 x.f4 x.f5 x.f0 x.f1 x.f2 x.f3 x.f4 x.f5 = some true := by
  simp [laws_eqOp.f]
def cvSession (x : S92) : S72 := (⟨x.f0, x.f1⟩ : S72)
theorem laws_toSession.is (x : S92) : laws_toSession.f x.f0 x.f1 = some (x.f0, x.f1) := by
  rfl
def cvMark (x : S90) : S74 := (⟨x.f0, x.f1, (⟨x.f2.f0, x.f2.f1, x.f2.f2⟩ : S51)⟩ : S74)
theorem laws_toMark.is (x : S90) : laws_toMark.f x.f0 x.f1 x.f2.f0 x.f2.f1 x.f2.f2 = some (x.f0, x.f1, x.f2.f0, x.f2.f1, x.f2.f2) := by
  unfold laws_toMark.f
  rfl
theorem laws_eqSession.is (x : S72) : laws_eqSession.f x.f0 x.f1 x.f0 x.f1 = some true := by
  simp [laws_eqSession.f]
theorem laws_eqMark.is (x : S74) : laws_eqMark.f x.f0 x.f1 x.f2.f0 x.f2.f1 x.f2.f2 x.f0 x.f1 x.f2.f0 x.f2.f1 x.f2.f2 = some true := by
  simp [laws_eqMark.f, laws_eqReply.f]
def cvReply (x : S88) : S51 := (⟨x.f0, x.f1, x.f2⟩ : S51)
theorem laws_toReply.is (x : S88) : laws_toReply.f x.f0 x.f1 x.f2 = some (x.f0, x.f1, x.f2) := by
  rfl
theorem rd_T60_at {l : List (S60)} {i : Nat} (h : i < l.length) : rd_T60 l (i : Int) = l[i] := by
  unfold rd_T60
  rw [Int.toNat_natCast, List.getD_eq_getElem?_getD, List.getElem?_eq_getElem h]
  rfl
theorem rd_T60_set {l : List (S60)} {i : Nat} {v : S60} (h : i < l.length) : rd_T60 (l.set i v) (i : Int) = v := by
  rw [rd_T60_at (by simpa using h)]
  simp
theorem laws_szZnode.is (x : S60) (a : Int) (hx : x.f0.size ≤ 9223372036854775807) (h0 : 0 ≤ a) (h1 : a ≤ 1048576) : laws_szZnode.f x.f0 x.f1 x.f2 x.f3 x.f4 a = some (if a - (x.f0.size : Int) < 0 then -1 else a - (x.f0.size : Int)) := by
  unfold laws_szZnode.f
  rw [wrap_id (by omega) (by omega)]
  by_cases h : a - (x.f0.size : Int) < 0
  · rw [if_pos h, if_pos h]
  · rw [if_neg h, if_neg h]
theorem laws_szZnodeS.l0_ev (l : List (S60)) (hl : l.length ≤ 4611686018427387904) (hx : ∀ x ∈ l, x.f0.size ≤ 9223372036854775807) (d : Nat) : ∀ (i : Nat) (a : Int), i + d = l.length → 0 ≤ a → a ≤ 1048576 → ∃ r : Int, Ev (fun k => laws_szZnodeS.l0 k l a (i : Int)) r ∧ (0 ≤ r → r ≤ a ∧ ∀ x ∈ l.drop i, (x.f0.size : Int) ≤ a) := by
  induction d with
  | zero =>
    intro i a h h0 h1
    refine ⟨a, ev_done fun k => ?_, fun _ => ⟨Int.le_refl _, ?_⟩⟩
    · simp only [laws_szZnodeS.l0]; rw [if_neg (by omega)]
    · rw [drop_end (by omega)]; intro x hx; cases hx
  | succ d ih =>
    intro i a h h0 h1
    have hi : i < l.length := by omega
    have hxi := hx l[i] (List.getElem_mem hi)
    by_cases hn : a - (l[i].f0.size : Int) < 0
    · refine ⟨-1, ev_done fun k => ?_, by omega⟩
      simp only [laws_szZnodeS.l0]; rw [if_pos (by omega), if_pos (by omega), rd_T60_at hi, laws_szZnode.is _ _ hxi h0 h1, if_pos hn]; simp only [Option.bind_some]; rw [if_pos (by omega)]
    · obtain ⟨r, hr, hq⟩ := ih (i + 1) (a - (l[i].f0.size : Int)) (by omega) (by omega) (by omega)
      refine ⟨r, ev_step (fun k => laws_szZnodeS.l0 k l (a - (l[i].f0.size : Int)) ((i + 1 : Nat) : Int)) (fun k => ?_) hr, fun hr0 => ?_⟩
      · simp only [laws_szZnodeS.l0]; rw [if_pos (by omega), if_pos (by omega), rd_T60_at hi, laws_szZnode.is _ _ hxi h0 h1, if_neg hn]; simp only [Option.bind_some]; rw [if_neg (by omega), wrap_up hi hl]
      · obtain ⟨h2, h3⟩ := hq hr0
        refine ⟨by omega, fun x hx' => ?_⟩
        rw [drop_at hi] at hx'
        rcases List.mem_cons.1 hx' with rfl | hx'
        · omega
        · have := h3 x hx'; omega
theorem laws_szZnodeS.ev (l : List (S60)) (a : Int) (hl : l.length ≤ 9223372036854775807) (hx : ∀ x ∈ l, x.f0.size ≤ 9223372036854775807) (h0 : 0 ≤ a) (h1 : a ≤ 1048576) : ∃ r : Int, Ev (fun k => laws_szZnodeS.f k l a) r ∧ (0 ≤ r → r ≤ a ∧ (l.length : Int) ≤ a ∧ ∀ x ∈ l, (x.f0.size : Int) ≤ a) := by
  unfold laws_szZnodeS.f
  by_cases h : a - (l.length : Int) < 0
  · refine ⟨-1, ev_is fun k => ?_, by omega⟩
    rw [wrap_id (by omega) (by omega), if_pos h]
  · obtain ⟨r, hr, hq⟩ := laws_szZnodeS.l0_ev l (by omega) hx l.length 0 (a - (l.length : Int)) (by omega) (by omega) (by omega)
    refine ⟨r, ev_cong (fun k => ?_) hr, fun hr0 => ?_⟩
    · rw [wrap_id (by omega) (by omega), if_neg h]; rfl
    · obtain ⟨h2, h3⟩ := hq hr0
      rw [List.drop_zero] at h3
      exact ⟨by omega, by omega, fun x hx' => by have := h3 x hx'; omega⟩
theorem laws_toZnodeS.l0_ev (l : List (S60)) (hl : l.length ≤ 4611686018427387904) (d : Nat) : ∀ (i : Nat) (m : List (S61)), i + d = l.length → m.length = l.length → m.take i = (l.map cvZnode).take i → Ev (fun k => laws_toZnodeS.l0 k l m (i : Int)) (l.map cvZnode) := by
  induction d with
  | zero =>
    intro i m h hm ht
    have e : m = (l.map cvZnode) := by rw [List.take_of_length_le (by omega), List.take_of_length_le (by rw [List.length_map]; omega)] at ht; exact ht
    exact ev_done fun k => by simp only [laws_toZnodeS.l0]; rw [if_neg (by omega), e]
  | succ d ih =>
    intro i m h hm ht
    have hi : i < l.length := by omega
    have hi' : i < (l.map cvZnode).length := by rw [List.length_map]; omega
    have hv : (l.map cvZnode)[i] = (cvZnode l[i]) := by rw [List.getElem_map]
    refine ev_step (fun k => laws_toZnodeS.l0 k l (m.set i (cvZnode l[i])) ((i + 1 : Nat) : Int)) (fun k => ?_) (ih (i + 1) (m.set i (cvZnode l[i])) (by omega) (by rw [List.length_set]; exact hm) ?_)
    · simp only [laws_toZnodeS.l0]; rw [if_pos (by omega), if_pos (by omega), rd_T60_at hi, laws_toZnode.is]; simp only [Option.bind_some]; rw [if_pos (by omega), wrap_up hi hl, Int.toNat_natCast]; rfl
    · exact take_set_next (by omega) hi' ht hv
theorem laws_toZnodeS.ev (l : List (S60)) (hl : l.length ≤ 1048576) : Ev (fun k => laws_toZnodeS.f k l) (l.map cvZnode) := by
  unfold laws_toZnodeS.f
  refine ev_cong (f := fun k => laws_toZnodeS.l0 k l (List.replicate l.length z61) ((0 : Nat) : Int)) (fun k => ?_) (laws_toZnodeS.l0_ev l (by omega) l.length 0 _ (by omega) (by simp) (by simp))
  rw [if_pos (by omega), if_pos (by rw [Int.toNat_natCast]; omega), Int.toNat_natCast]; rfl
theorem rd_T61_at {l : List (S61)} {i : Nat} (h : i < l.length) : rd_T61 l (i : Int) = l[i] := by
  unfold rd_T61
  rw [Int.toNat_natCast, List.getD_eq_getElem?_getD, List.getElem?_eq_getElem h]
  rfl
theorem rd_T61_set {l : List (S61)} {i : Nat} {v : S61} (h : i < l.length) : rd_T61 (l.set i v) (i : Int) = v := by
  rw [rd_T61_at (by simpa using h)]
  simp
theorem laws_eqZnodeS.l0_ev (l : List (S61)) (hl : l.length ≤ 4611686018427387904) (d : Nat) : ∀ (i : Nat), i + d = l.length → Ev (fun k => laws_eqZnodeS.l0 k l l (i : Int)) true := by
  induction d with
  | zero => exact fun i h => ev_done fun k => by simp only [laws_eqZnodeS.l0]; rw [if_neg (by omega)]
  | succ d ih =>
    intro i h
    have hi : i < l.length := by omega
    refine ev_step (fun k => laws_eqZnodeS.l0 k l l ((i + 1 : Nat) : Int)) (fun k => ?_) (ih (i + 1) (by omega))
    simp only [laws_eqZnodeS.l0]; rw [if_pos (by omega), if_pos (by omega), if_pos (by omega), laws_eqZnode.is, Option.bind_some, if_pos rfl, wrap_up hi hl]
theorem laws_eqZnodeS.ev (l : List (S61)) (hl : l.length ≤ 4611686018427387904) : Ev (fun k => laws_eqZnodeS.f k l l) true := by
  unfold laws_eqZnodeS.f
  exact ev_cong (fun k => if_pos rfl) (laws_eqZnodeS.l0_ev l hl l.length 0 (by omega))
theorem rd_T84_at {l : List (S84)} {i : Nat} (h : i < l.length) : rd_T84 l (i : Int) = l[i] := by
  unfold rd_T84
  rw [Int.toNat_natCast, List.getD_eq_getElem?_getD, List.getElem?_eq_getElem h]
  rfl
theorem rd_T84_set {l : List (S84)} {i : Nat} {v : S84} (h : i < l.length) : rd_T84 (l.set i v) (i : Int) = v := by
  rw [rd_T84_at (by simpa using h)]
  simp
theorem laws_szOp.is (x : S84) (a : Int) (hx : x.f1.size ≤ 9223372036854775807) (h0 : 0 ≤ a) (h1 : a ≤ 1048576) : laws_szOp.f x.f0 x.f1 x.f2 x.f3 x.f4 x.f5 a = some (if a - (x.f1.size : Int) < 0 then -1 else a - (x.f1.size : Int)) := by
  unfold laws_szOp.f
  rw [wrap_id (by omega) (by omega)]
  by_cases h : a - (x.f1.size : Int) < 0
  · rw [if_pos h, if_pos h]
  · rw [if_neg h, if_neg h]
theorem laws_szOpS.l0_ev (l : List (S84)) (hl : l.length ≤ 4611686018427387904) (hx : ∀ x ∈ l, x.f1.size ≤ 9223372036854775807) (d : Nat) : ∀ (i : Nat) (a : Int), i + d = l.length → 0 ≤ a → a ≤ 1048576 → ∃ r : Int, Ev (fun k => laws_szOpS.l0 k l a (i : Int)) r ∧ (0 ≤ r → r ≤ a ∧ ∀ x ∈ l.drop i, (x.f1.size : Int) ≤ a) := by
  induction d with
  | zero =>
    intro i a h h0 h1
    refine ⟨a, ev_done fun k => ?_, fun _ => ⟨Int.le_refl _, ?_⟩⟩
    · simp only [laws_szOpS.l0]; rw [if_neg (by omega)]
    · rw [drop_end (by omega)]; intro x hx; cases hx
  | succ d ih =>
    intro i a h h0 h1
    have hi : i < l.length := by omega
    have hxi := hx l[i] (List.getElem_mem hi)
    by_cases hn : a - (l[i].f1.size : Int) < 0
    · refine ⟨-1, ev_done fun k => ?_, by omega⟩
      simp only [laws_szOpS.l0]; rw [if_pos (by omega), if_pos (by omega), rd_T84_at hi, laws_szOp.is _ _ hxi h0 h1, if_pos hn]; simp only [Option.bind_some]; rw [if_pos (by omega)]
    · obtain ⟨r, hr, hq⟩ := ih (i + 1) (a - (l[i].f1.size : Int)) (by omega) (by omega) (by omega)
      refine ⟨r, ev_step (fun k => laws_szOpS.l0 k l (a - (l[i].f1.size : Int)) ((i + 1 : Nat) : Int)) (fun k => ?_) hr, fun hr0 => ?_⟩
      · simp only [laws_szOpS.l0]; rw [if_pos (by omega), if_pos (by omega), rd_T84_at hi, laws_szOp.is _ _ hxi h0 h1, if_neg hn]; simp only [Option.bind_some]; rw [if_neg (by omega), wrap_up hi hl]
      · obtain ⟨h2, h3⟩ := hq hr0
        refine ⟨by omega, fun x hx' => ?_⟩
        rw [drop_at hi] at hx'
        rcases List.mem_cons.1 hx' with rfl | hx'
        · omega
        · have := h3 x hx'; omega
theorem laws_szOpS.ev (l : List (S84)) (a : Int) (hl : l.length ≤ 9223372036854775807) (hx : ∀ x ∈ l, x.f1.size ≤ 9223372036854775807) (h0 : 0 ≤ a) (h1 : a ≤ 1048576) : ∃ r : Int, Ev (fun k => laws_szOpS.f k l a) r ∧ (0 ≤ r → r ≤ a ∧ (l.length : Int) ≤ a ∧ ∀ x ∈ l, (x.f1.size : Int) ≤ a) := by
  unfold laws_szOpS.f
  by_cases h : a - (l.length : Int) < 0
  · refine ⟨-1, ev_is fun k => ?_, by omega⟩
    rw [wrap_id (by omega) (by omega), if_pos h]
  · obtain ⟨r, hr, hq⟩ := laws_szOpS.l0_ev l (by omega) hx l.length 0 (a - (l.length : Int)) (by omega) (by omega) (by omega)
    refine ⟨r, ev_cong (fun k => ?_) hr, fun hr0 => ?_⟩
    · rw [wrap_id (by omega) (by omega), if_neg h]; rfl
    · obtain ⟨h2, h3⟩ := hq hr0
      rw [List.drop_zero] at h3
      exact ⟨by omega, by omega, fun x hx' => by have := h3 x hx'; omega⟩
theorem laws_toOpS.l0_ev (l : List (S84)) (hl : l.length ≤ 4611686018427387904) (d : Nat) : ∀ (i : Nat) (m : List (S66)), i + d = l.length → m.length = l.length → m.take i = (l.map cvOp).take i → Ev (fun k => laws_toOpS.l0 k l m (i : Int)) (l.map cvOp) := by
  induction d with
  | zero =>
    intro i m h hm ht
    have e : m = (l.map cvOp) := by rw [List.take_of_length_le (by omega), List.take_of_length_le (by rw [List.length_map]; omega)] at ht; exact ht
    exact ev_done fun k => by simp only [laws_toOpS.l0]; rw [if_neg (by omega), e]
  | succ d ih =>
    intro i m h hm ht
    have hi : i < l.length := by omega
    have hi' : i < (l.map cvOp).length := by rw [List.length_map]; omega
    have hv : (l.map cvOp)[i] = (cvOp l[i]) := by rw [List.getElem_map]
    refine ev_step (fun k => laws_toOpS.l0 k l (m.set i (cvOp l[i])) ((i + 1 : Nat) : Int)) (fun k => ?_) (ih (i + 1) (m.set i (cvOp l[i])) (by omega) (by rw [List.length_set]; exact hm) ?_)
    · simp only [laws_toOpS.l0]; rw [if_pos (by omega), if_pos (by omega), rd_T84_at hi, laws_toOp.is]; simp only [Option.bind_some]; rw [if_pos (by omega), wrap_up hi hl, Int.toNat_natCast]; rfl
    · exact take_set_next (by omega) hi' ht hv
theorem laws_toOpS.ev (l : List (S84)) (hl : l.length ≤ 1048576) : Ev (fun k => laws_toOpS.f k l) (l.map cvOp) := by
  unfold laws_toOpS.f
  refine ev_cong (f := fun k => laws_toOpS.l0 k l (List.replicate l.length z66) ((0 : Nat) : Int)) (fun k => ?_) (laws_toOpS.l0_ev l (by omega) l.length 0 _ (by omega) (by simp) (by simp))
  rw [if_pos (by omega), if_pos (by rw [Int.toNat_natCast]; omega), Int.toNat_natCast]; rfl
theorem rd_T66_at {l : List (S66)} {i : Nat} (h : i < l.length) : rd_T66 l (i : Int) = l[i] := by
  unfold rd_T66
  rw [Int.toNat_natCast, List.getD_eq_getElem?_getD, List.getElem?_eq_getElem h]
  rfl
theorem rd_T66_set {l : List (S66)} {i : Nat} {v : S66} (h : i < l.length) : rd_T66 (l.set i v) (i : Int) = v := by
  rw [rd_T66_at (by simpa using h)]
  simp
theorem laws_eqOpS.l0_ev (l : List (S66)) (hl : l.length ≤ 4611686018427387904) (d : Nat) : ∀ (i : Nat), i + d = l.length → Ev (fun k => laws_eqOpS.l0 k l l (i : Int)) true := by
  induction d with
  | zero => exact fun i h => ev_done fun k => by simp only [laws_eqOpS.l0]; rw [if_neg (by omega)]
  | succ d ih =>
    intro i h
    have hi : i < l.length := by omega
    refine ev_step (fun k => laws_eqOpS.l0 k l l ((i + 1 : Nat) : Int)) (fun k => ?_) (ih (i + 1) (by omega))
    simp only [laws_eqOpS.l0]; rw [if_pos (by omega), if_pos (by omega), if_pos (by omega), laws_eqOp.is, Option.bind_some, if_pos rfl, wrap_up hi hl]
theorem laws_eqOpS.ev (l : List (S66)) (hl : l.length ≤ 4611686018427387904) : Ev (fun k => laws_eqOpS.f k l l) true := by
  unfold laws_eqOpS.f
  exact ev_cong (fun k => if_pos rfl) (laws_eqOpS.l0_ev l hl l.length 0 (by omega))
theorem rd_T92_at {l : List (S92)} {i : Nat} (h : i < l.length) : rd_T92 l (i : Int) = l[i] := by
  unfold rd_T92
  rw [Int.toNat_natCast, List.getD_eq_getElem?_getD, List.getElem?_eq_getElem h]
  rfl
theorem rd_T92_set {l : List (S92)} {i : Nat} {v : S92} (h : i < l.length) : rd_T92 (l.set i v) (i : Int) = v := by
  rw [rd_T92_at (by simpa using h)]
  simp
theorem laws_szSessionS.ev (l : List (S92)) (a : Int) (hl : l.length ≤ 9223372036854775807) (h0 : 0 ≤ a) (h1 : a ≤ 1048576) : ∃ r : Int, (laws_szSessionS.f l a = some r) ∧ (0 ≤ r → r ≤ a ∧ (l.length : Int) ≤ a) := by
  unfold laws_szSessionS.f
  rw [wrap_id (by omega) (by omega)]
  by_cases h : a - (l.length : Int) < 0
  · exact ⟨-1, if_pos h, by omega⟩
  · exact ⟨_, if_neg h, by omega⟩
theorem rd_T90_at {l : List (S90)} {i : Nat} (h : i < l.length) : rd_T90 l (i : Int) = l[i] := by
  unfold rd_T90
  rw [Int.toNat_natCast, List.getD_eq_getElem?_getD, List.getElem?_eq_getElem h]
  rfl
theorem rd_T90_set {l : List (S90)} {i : Nat} {v : S90} (h : i < l.length) : rd_T90 (l.set i v) (i : Int) = v := by
  rw [rd_T90_at (by simpa using h)]
  simp
theorem laws_szMark.is (x : S90) (a : Int) (hx : x.f2.f2.size ≤ 9223372036854775807) (h0 : 0 ≤ a) (h1 : a ≤ 1048576) : laws_szMark.f x.f0 x.f1 x.f2.f0 x.f2.f1 x.f2.f2 a = some (if a - (x.f2.f2.size : Int) < 0 then -1 else a - (x.f2.f2.size : Int)) := by
  unfold laws_szMark.f; unfold laws_szReply.f
  rw [wrap_id (by omega) (by omega)]
  by_cases h : a - (x.f2.f2.size : Int) < 0
  · rw [if_pos h, if_pos h]; rfl
  · rw [if_neg h, if_neg h]; exact if_neg h
theorem laws_szMarkS.l0_ev (l : List (S90)) (hl : l.length ≤ 4611686018427387904) (hx : ∀ x ∈ l, x.f2.f2.size ≤ 9223372036854775807) (d : Nat) : ∀ (i : Nat) (a : Int), i + d = l.length → 0 ≤ a → a ≤ 1048576 → ∃ r : Int, Ev (fun k => laws_szMarkS.l0 k l a (i : Int)) r ∧ (0 ≤ r → r ≤ a ∧ ∀ x ∈ l.drop i, (x.f2.f2.size : Int) ≤ a) := by
  induction d with
  | zero =>
    intro i a h h0 h1
    refine ⟨a, ev_done fun k => ?_, fun _ => ⟨Int.le_refl _, ?_⟩⟩
    · simp only [laws_szMarkS.l0]; rw [if_neg (by omega)]
    · rw [drop_end (by omega)]; intro x hx; cases hx
  | succ d ih =>
    intro i a h h0 h1
    have hi : i < l.length := by omega
    have hxi := hx l[i] (List.getElem_mem hi)
    by_cases hn : a - (l[i].f2.f2.size : Int) < 0
    · refine ⟨-1, ev_done fun k => ?_, by omega⟩
      simp only [laws_szMarkS.l0]; rw [if_pos (by omega), if_pos (by omega), rd_T90_at hi, laws_szMark.is _ _ hxi h0 h1, if_pos hn]; simp only [Option.bind_some]; rw [if_pos (by omega)]
    · obtain ⟨r, hr, hq⟩ := ih (i + 1) (a - (l[i].f2.f2.size : Int)) (by omega) (by omega) (by omega)
      refine ⟨r, ev_step (fun k => laws_szMarkS.l0 k l (a - (l[i].f2.f2.size : Int)) ((i + 1 : Nat) : Int)) (fun k => ?_) hr, fun hr0 => ?_⟩
      · simp only [laws_szMarkS.l0]; rw [if_pos (by omega), if_pos (by omega), rd_T90_at hi, laws_szMark.is _ _ hxi h0 h1, if_neg hn]; simp only [Option.bind_some]; rw [if_neg (by omega), wrap_up hi hl]
      · obtain ⟨h2, h3⟩ := hq hr0
        refine ⟨by omega, fun x hx' => ?_⟩
        rw [drop_at hi] at hx'
        rcases List.mem_cons.1 hx' with rfl | hx'
        · omega
        · have := h3 x hx'; omega
theorem laws_szMarkS.ev (l : List (S90)) (a : Int) (hl : l.length ≤ 9223372036854775807) (hx : ∀ x ∈ l, x.f2.f2.size ≤ 9223372036854775807) (h0 : 0 ≤ a) (h1 : a ≤ 1048576) : ∃ r : Int, Ev (fun k => laws_szMarkS.f k l a) r ∧ (0 ≤ r → r ≤ a ∧ (l.length : Int) ≤ a ∧ ∀ x ∈ l, (x.f2.f2.size : Int) ≤ a) := by
  unfold laws_szMarkS.f
  by_cases h : a - (l.length : Int) < 0
  · refine ⟨-1, ev_is fun k => ?_, by omega⟩
    rw [wrap_id (by omega) (by omega), if_pos h]
  · obtain ⟨r, hr, hq⟩ := laws_szMarkS.l0_ev l (by omega) hx l.length 0 (a - (l.length : Int)) (by omega) (by omega) (by omega)
    refine ⟨r, ev_cong (fun k => ?_) hr, fun hr0 => ?_⟩
    · rw [wrap_id (by omega) (by omega), if_neg h]; rfl
    · obtain ⟨h2, h3⟩ := hq hr0
      rw [List.drop_zero] at h3
      exact ⟨by omega, by omega, fun x hx' => by have := h3 x hx'; omega⟩
theorem laws_toSessionS.l0_ev (l : List (S92)) (hl : l.length ≤ 4611686018427387904) (d : Nat) : ∀ (i : Nat) (m : List (S72)), i + d = l.length → m.length = l.length → m.take i = (l.map cvSession).take i → Ev (fun k => laws_toSessionS.l0 k l m (i : Int)) (l.map cvSession) := by
  induction d with
  | zero =>
    intro i m h hm ht
    have e : m = (l.map cvSession) := by rw [List.take_of_length_le (by omega), List.take_of_length_le (by rw [List.length_map]; omega)] at ht; exact ht
    exact ev_done fun k => by simp only [laws_toSessionS.l0]; rw [if_neg (by omega), e]
  | succ d ih =>
    intro i m h hm ht
    have hi : i < l.length := by omega
    have hi' : i < (l.map cvSession).length := by rw [List.length_map]; omega
    have hv : (l.map cvSession)[i] = (cvSession l[i]) := by rw [List.getElem_map]
    refine ev_step (fun k => laws_toSessionS.l0 k l (m.set i (cvSession l[i])) ((i + 1 : Nat) : Int)) (fun k => ?_) (ih (i + 1) (m.set i (cvSession l[i])) (by omega) (by rw [List.length_set]; exact hm) ?_)
    · simp only [laws_toSessionS.l0]; rw [if_pos (by omega), if_pos (by omega), rd_T92_at hi, laws_toSession.is]; simp only [Option.bind_some]; rw [if_pos (by omega), wrap_up hi hl, Int.toNat_natCast]; rfl
    · exact take_set_next (by omega) hi' ht hv
theorem laws_toSessionS.ev (l : List (S92)) (hl : l.length ≤ 1048576) : Ev (fun k => laws_toSessionS.f k l) (l.map cvSession) := by
  unfold laws_toSessionS.f
  refine ev_cong (f := fun k => laws_toSessionS.l0 k l (List.replicate l.length z72) ((0 : Nat) : Int)) (fun k => ?_) (laws_toSessionS.l0_ev l (by omega) l.length 0 _ (by omega) (by simp) (by simp))
  rw [if_pos (by omega), if_pos (by rw [Int.toNat_natCast]; omega), Int.toNat_natCast]; rfl
theorem laws_toMarkS.l0_ev (l : List (S90)) (hl : l.length ≤ 4611686018427387904) (d : Nat) : ∀ (i : Nat) (m : List (S74)), i + d = l.length → m.length = l.length → m.take i = (l.map cvMark).take i → Ev (fun k => laws_toMarkS.l0 k l m (i : Int)) (l.map cvMark) := by
  induction d with
  | zero =>
    intro i m h hm ht
    have e : m = (l.map cvMark) := by rw [List.take_of_length_le (by omega), List.take_of_length_le (by rw [List.length_map]; omega)] at ht; exact ht
    exact ev_done fun k => by simp only [laws_toMarkS.l0]; rw [if_neg (by omega), e]
  | succ d ih =>
    intro i m h hm ht
    have hi : i < l.length := by omega
    have hi' : i < (l.map cvMark).length := by rw [List.length_map]; omega
    have hv : (l.map cvMark)[i] = (cvMark l[i]) := by rw [List.getElem_map]
    refine ev_step (fun k => laws_toMarkS.l0 k l (m.set i (cvMark l[i])) ((i + 1 : Nat) : Int)) (fun k => ?_) (ih (i + 1) (m.set i (cvMark l[i])) (by omega) (by rw [List.length_set]; exact hm) ?_)
    · simp only [laws_toMarkS.l0]; rw [if_pos (by omega), if_pos (by omega), rd_T90_at hi, laws_toMark.is]; simp only [Option.bind_some]; rw [if_pos (by omega), wrap_up hi hl, Int.toNat_natCast]; rfl
    · exact take_set_next (by omega) hi' ht hv
theorem laws_toMarkS.ev (l : List (S90)) (hl : l.length ≤ 1048576) : Ev (fun k => laws_toMarkS.f k l) (l.map cvMark) := by
  unfold laws_toMarkS.f
  refine ev_cong (f := fun k => laws_toMarkS.l0 k l (List.replicate l.length z74) ((0 : Nat) : Int)) (fun k => ?_) (laws_toMarkS.l0_ev l (by omega) l.length 0 _ (by omega) (by simp) (by simp))
  rw [if_pos (by omega), if_pos (by rw [Int.toNat_natCast]; omega), Int.toNat_natCast]; rfl
theorem rd_T72_at {l : List (S72)} {i : Nat} (h : i < l.length) : rd_T72 l (i : Int) = l[i] := by
  unfold rd_T72
  rw [Int.toNat_natCast, List.getD_eq_getElem?_getD, List.getElem?_eq_getElem h]
  rfl
theorem rd_T72_set {l : List (S72)} {i : Nat} {v : S72} (h : i < l.length) : rd_T72 (l.set i v) (i : Int) = v := by
  rw [rd_T72_at (by simpa using h)]
  simp
theorem laws_eqSessionS.l0_ev (l : List (S72)) (hl : l.length ≤ 4611686018427387904) (d : Nat) : ∀ (i : Nat), i + d = l.length → Ev (fun k => laws_eqSessionS.l0 k l l (i : Int)) true := by
  induction d with
  | zero => exact fun i h => ev_done fun k => by simp only [laws_eqSessionS.l0]; rw [if_neg (by omega)]
  | succ d ih =>
    intro i h
    have hi : i < l.length := by omega
    refine ev_step (fun k => laws_eqSessionS.l0 k l l ((i + 1 : Nat) : Int)) (fun k => ?_) (ih (i + 1) (by omega))
    simp only [laws_eqSessionS.l0]; rw [if_pos (by omega), if_pos (by omega), if_pos (by omega), laws_eqSession.is, Option.bind_some, if_pos rfl, wrap_up hi hl]
theorem laws_eqSessionS.ev (l : List (S72)) (hl : l.length ≤ 4611686018427387904) : Ev (fun k => laws_eqSessionS.f k l l) true := by
  unfold laws_eqSessionS.f
  exact ev_cong (fun k => if_pos rfl) (laws_eqSessionS.l0_ev l hl l.length 0 (by omega))
theorem rd_T74_at {l : List (S74)} {i : Nat} (h : i < l.length) : rd_T74 l (i : Int) = l[i] := by
  unfold rd_T74
  rw [Int.toNat_natCast, List.getD_eq_getElem?_getD, List.getElem?_eq_getElem h]
  rfl
theorem rd_T74_set {l : List (S74)} {i : Nat} {v : S74} (h : i < l.length) : rd_T74 (l.set i v) (i : Int) = v := by
  rw [rd_T74_at (by simpa using h)]
  simp
theorem laws_eqMarkS.l0_ev (l : List (S74)) (hl : l.length ≤ 4611686018427387904) (d : Nat) : ∀ (i : Nat), i + d = l.length → Ev (fun k => laws_eqMarkS.l0 k l l (i : Int)) true := by
  induction d with
  | zero => exact fun i h => ev_done fun k => by simp only [laws_eqMarkS.l0]; rw [if_neg (by omega)]
  | succ d ih =>
    intro i h
    have hi : i < l.length := by omega
    refine ev_step (fun k => laws_eqMarkS.l0 k l l ((i + 1 : Nat) : Int)) (fun k => ?_) (ih (i + 1) (by omega))
    simp only [laws_eqMarkS.l0]; rw [if_pos (by omega), if_pos (by omega), if_pos (by omega), laws_eqMark.is, Option.bind_some, if_pos rfl, wrap_up hi hl]
theorem laws_eqMarkS.ev (l : List (S74)) (hl : l.length ≤ 4611686018427387904) : Ev (fun k => laws_eqMarkS.f k l l) true := by
  unfold laws_eqMarkS.f
  exact ev_cong (fun k => if_pos rfl) (laws_eqMarkS.l0_ev l hl l.length 0 (by omega))
end Go.Proofs.Ytlfhpljeeedbdaa.Qa

/- Comparisons of slices of structs, element by element: the program's (slices.Equal) and the reference's: the same. -/
namespace Go.Proofs.Ytlfhpljeeedbdaa.Pure
open Go.RowKit Go.Proofs.Ytlfhpljeeedbdaa.Qa Go.Proofs.YtlfhpljeeedbdaaW.PrintWords Go.Proofs.YtlfhpljeeedbdaaW.PrintLast Go.Proofs.Ytlfhpljeeedbdaa.Aid
def sameL {α : Type} (ne : α → α → Bool) : List α → List α → Bool
  | x :: l, y :: m => if ne x y = true then false else sameL ne l m
  | _, _ => true
def sameR {α : Type} (ne : α → α → Bool) (l m : List α) : Bool := if l.length = m.length then sameL ne l m else false
theorem sameL_cons {α : Type} {ne : α → α → Bool} {x y : α} {l m : List α} : sameL ne (x :: l) (y :: m) = if ne x y = true then false else sameL ne l m := rfl
def neZnode (x y : S61) : Bool := (!((x.f0).toList == (y.f0).toList) || (!(x.f1 == y.f1) || (!(x.f2 == y.f2) || (!(x.f3 == y.f3) || (!(x.f4 == y.f4))))))
theorem slices_Equal_impl_Znode_impl_Znode.l0_ev (l m : List S61) (hl : l.length ≤ 4611686018427387904) (he : l.length = m.length) (d : Nat) : ∀ (i : Nat), i + d = l.length → Ev (fun k => slices_Equal_impl_Znode_impl_Znode.l0 k l m (l.length : Int) (i : Int)) (sameL neZnode (l.drop i) (m.drop i)) := by
  induction d with
  | zero =>
    intro i h
    rw [drop_end (by omega)]
    exact ev_done fun k => by simp only [slices_Equal_impl_Znode_impl_Znode.l0]; rw [if_neg (by omega)]; rfl
  | succ d ih =>
    intro i h
    have hi : i < l.length := by omega
    have hi' : i < m.length := by omega
    have IH := ih (i + 1) (by omega)
    rw [drop_at hi, drop_at hi', sameL_cons]
    by_cases c : neZnode l[i] m[i] = true
    · rw [if_pos c]
      refine ev_done fun k => ?_
      simp only [slices_Equal_impl_Znode_impl_Znode.l0]; rw [if_pos (by omega), if_pos (by omega), if_pos (by omega), if_pos (by omega), rd_T61_at hi, rd_T61_at hi']; exact if_pos c
    · rw [if_neg c]
      refine ev_step (fun k => slices_Equal_impl_Znode_impl_Znode.l0 k l m (l.length : Int) ((i + 1 : Nat) : Int)) (fun k => ?_) IH
      simp only [slices_Equal_impl_Znode_impl_Znode.l0]; rw [if_pos (by omega), if_pos (by omega), if_pos (by omega), if_pos (by omega), rd_T61_at hi, rd_T61_at hi', wrap_up hi hl]; exact if_neg c
theorem equalZnode (l m : List S61) (hl : l.length ≤ 4611686018427387904) : Ev (fun k => slices_Equal_impl_Znode_impl_Znode.f k l m) (sameR neZnode l m) := by
  unfold slices_Equal_impl_Znode_impl_Znode.f sameR
  by_cases he : l.length = m.length
  · rw [if_pos he]
    exact ev_cong (fun k => if_pos (by omega)) (slices_Equal_impl_Znode_impl_Znode.l0_ev l m hl he l.length 0 (by omega))
  · rw [if_neg he]
    exact ev_is fun k => if_neg (by omega)
theorem spec_SameTrees.l0_ev (l m : List S61) (hl : l.length ≤ 4611686018427387904) (he : l.length = m.length) (d : Nat) : ∀ (i : Nat), i + d = l.length → Ev (fun k => spec_SameTrees.l0 k l m (i : Int)) (sameL neZnode (l.drop i) (m.drop i)) := by
  induction d with
  | zero =>
    intro i h
    rw [drop_end (by omega)]
    exact ev_done fun k => by simp only [spec_SameTrees.l0]; rw [if_neg (by omega)]; rfl
  | succ d ih =>
    intro i h
    have hi : i < l.length := by omega
    have hi' : i < m.length := by omega
    have IH := ih (i + 1) (by omega)
    rw [drop_at hi, drop_at hi', sameL_cons]
    by_cases c : neZnode l[i] m[i] = true
    · rw [if_pos c]
      refine ev_done fun k => ?_
      simp only [spec_SameTrees.l0]; rw [if_pos (by omega), if_pos (by omega), if_pos (by omega), rd_T61_at hi, rd_T61_at hi']; exact if_pos c
    · rw [if_neg c]
      refine ev_step (fun k => spec_SameTrees.l0 k l m ((i + 1 : Nat) : Int)) (fun k => ?_) IH
      simp only [spec_SameTrees.l0]; rw [if_pos (by omega), if_pos (by omega), if_pos (by omega), rd_T61_at hi, rd_T61_at hi', wrap_up hi hl]; exact if_neg c
theorem SameTrees_spec (l m : List S61) (hl : l.length ≤ 4611686018427387904) : Ev (fun k => spec_SameTrees.f k l m) (sameR neZnode l m) := by
  unfold spec_SameTrees.f sameR
  by_cases he : l.length = m.length
  · rw [if_pos he]
    exact ev_cong (fun k => if_pos (by omega)) (spec_SameTrees.l0_ev l m hl he l.length 0 (by omega))
  · rw [if_neg he]
    exact ev_is fun k => if_neg (by omega)
theorem SameTrees_impl (l m : List S61) (hl : l.length ≤ 4611686018427387904) : Ev (fun k => impl_SameTrees.f k l m) (sameR neZnode l m) := by
  unfold impl_SameTrees.f
  exact ev_call (equalZnode l m hl) (Ev.now _)
end Go.Proofs.Ytlfhpljeeedbdaa.Pure

/- SameTrees: the program's answer is the reference's, for all two trees; it writes into no argument. No condition. -/
namespace Go.Proofs.Ytlfhpljeeedbdaa.Pure
open Go.RowKit Go.Proofs.Ytlfhpljeeedbdaa.Qa Go.Proofs.YtlfhpljeeedbdaaW.PrintWords Go.Proofs.YtlfhpljeeedbdaaW.PrintLast Go.Proofs.Ytlfhpljeeedbdaa.Aid
theorem FnExactSameTrees (l m : List S60) (hl : l.length ≤ 9223372036854775807 ∧ ∀ y_ ∈ l, g60 y_) (hm : m.length ≤ 9223372036854775807 ∧ ∀ y_ ∈ m, g60 y_) : ∃ k, laws_FnExactSameTrees.f k l m = some true := by
  refine Ev.rounds ?_
  unfold laws_FnExactSameTrees.f
  obtain ⟨r, hr, hq⟩ := laws_szZnodeS.ev l 1048576 hl.1 (fun x hx => (hl.2 x hx).1) (by omega) (by omega)
  refine ev_call hr ?_
  by_cases h : r < 0
  · exact ev_is fun k => if_pos h
  · refine ev_cong (fun k => if_neg h) ?_
    obtain ⟨h1, h2, _⟩ := hq (by omega)
    obtain ⟨r', hr', hq'⟩ := laws_szZnodeS.ev m r hm.1 (fun x hx => (hm.2 x hx).1) (by omega) (by omega)
    refine ev_step _ (fun k => by simp only [laws_FnExactSameTrees.j0]; rfl) ?_
    refine ev_call hr' ?_
    by_cases h' : r' < 0
    · exact ev_is fun k => if_pos h'
    · refine ev_cong (fun k => if_neg h') ?_
      obtain ⟨h3, h4, _⟩ := hq' (by omega)
      have tl := laws_toZnodeS.ev l (by omega)
      have tm := laws_toZnodeS.ev m (by omega)
      have ll : (l.map cvZnode).length ≤ 4611686018427387904 := by rw [List.length_map]; omega
      have lm : (m.map cvZnode).length ≤ 4611686018427387904 := by rw [List.length_map]; omega
      refine ev_step _ (fun k => by simp only [laws_FnExactSameTrees.j1]; rfl) ?_
      refine ev_call tl (ev_call tm (ev_call (SameTrees_spec _ _ ll) (ev_call tl (ev_call tm (ev_call (SameTrees_impl _ _ ll) (ev_cong (fun k => if_neg (by simp)) ?_))))))
      refine ev_step _ (fun k => by simp only [laws_FnExactSameTrees.j2]; rfl) ?_
      refine ev_call tl (ev_call (laws_eqZnodeS.ev _ ll) (ev_cong (fun k => if_pos rfl) ?_))
      refine ev_step _ (fun k => by simp only [laws_FnExactSameTrees.j3]; rfl) ?_
      exact ev_call tm (ev_call (laws_eqZnodeS.ev _ lm) (ev_is fun k => if_pos rfl))
end Go.Proofs.Ytlfhpljeeedbdaa.Pure

/- For every input the law loop.example/g00369/laws.FnExactSameTrees returns true, and every argument reads behind the call as it read before. No condition. -/
namespace Go.Proofs.Ytlfhpljeeedbdaa.fnExactSameTrees
open Go.ChangeShapes Go.WideShapes Go.ChangeAt Go.RowKit Go.Proofs.Ytlfhpljeeedbdaa.Qa Go.Proofs.Ytlfhpljeeedbdaa.Tro Go.Proofs.YtlfhpljeeedbdaaW.PrintWords
open Go.ChangeMaps (open_string shut_string)
set_option linter.unusedVariables false
set_option linter.unusedSimpArgs false
theorem own : ownKnob Try.prog.godebug = none := by kernel_rfl
theorem laidOut : laidOutB Try.prog = true := by kernel_rfl
set_option maxRecDepth 100000 in
theorem lifted (os : Os) (started : os.Started) (H : Type) (enc : TypeId × Value → H) :
    ReturnsInHanded {} Try.checked os 3 .any (Rows.fnExactSameTreesSpec.pre6 enc Try.prog Try.f3 Rows.fnExactSameTreesRow.domain false) (Rows.fnExactSameTreesSpec.post enc Try.prog Try.f3 false true false false) := by
  refine returnsInHanded_of_change_sized (C := Try.checked) own started (by kernel_rfl) Try.func3
    (ChangeSpec.witness6 (enc := enc) (C := Try.checked) false ⟨#[], #[.slice none 0 0, .slice none 0 0], []⟩ 8 (by kernel_rfl) (by kernel_rfl) (by kernel_rfl) (by kernel_rfl)) ?_
  intro W base args ds gs before hval0 hW hcnd hsz0 _
  have hval : ∀ (j : Nat) t v, Try.f3.params[j]? = some t → args[j]? = some v → Value.okWide Try.prog W .any base t v := hval0
  have hW' := hW
  obtain ⟨p, q, hA0, hV, rfl, hfz, hnd⟩ := hW
  have hA : DataW.TrodAll enc Try.prog W 0 (fun _ => true) true Try.f3.params.toList args.toList ds p := hA0
  rw [Try.params3] at hA hval
  obtain ⟨v0, vs0, d0, ds0, p0, q0, hargs, rfl, rfl, h0, r0⟩ := trodAll_cons hA
  obtain ⟨v1, vs1, d1, ds1, p1, q1, rfl, rfl, rfl, h1, r1⟩ := trodAll_cons r0
  obtain ⟨rfl, rfl, rfl⟩ := trodAll_nil r1
  obtain rfl : args = #[v0, v1] := by cases args; simp_all
  obtain ⟨rfl, rfl⟩ := trodVars_none hV
  have k0 := h0
  have lt0 : ∀ x ∈ p0, x.block < W.heap.size := by obtain ⟨m, hm⟩ := k0; exact DataW.trod_lt m _ _ _ hm
  obtain ⟨a0, len0, cap0, rfl⟩ := okWide_slice Try.underlying22 (hval 0 22 v0 rfl rfl)
  obtain ⟨fuel0, hf0⟩ := h0
  obtain ⟨l0, hK0, hg0⟩ := (tr_slice Try.underlying22 (by kernel_rfl) tr60) enc W _ _ _ hf0
  obtain ⟨A0, c0, hcs0, hl0, hC0⟩ := hK0
  simp only [Value.cells, List.cons.injEq, Value.slice.injEq, and_true] at hcs0
  obtain ⟨rfl, rfl, rfl⟩ := hcs0
  have k1 := h1
  have lt1 : ∀ x ∈ p1, x.block < W.heap.size := by obtain ⟨m, hm⟩ := k1; exact DataW.trod_lt m _ _ _ hm
  obtain ⟨a1, len1, cap1, rfl⟩ := okWide_slice Try.underlying22 (hval 1 22 v1 rfl rfl)
  obtain ⟨fuel1, hf1⟩ := h1
  obtain ⟨l1, hK1, hg1⟩ := (tr_slice Try.underlying22 (by kernel_rfl) tr60) enc W _ _ _ hf1
  obtain ⟨A1, c1, hcs1, hl1, hC1⟩ := hK1
  simp only [Value.cells, List.cons.injEq, Value.slice.injEq, and_true] at hcs1
  obtain ⟨rfl, rfl, rfl⟩ := hcs1
  obtain ⟨k, hk⟩ := Pure.FnExactSameTrees l0 l1 hg0 hg1
  refine (laws_FnExactSameTrees.calls k _ _ l0 _ _ l1 true W hC0 hl0 hC1 hl1 hk).mono fun e W' hE => ?_
  obtain ⟨he, hd⟩ := hE
  have bel : Below W.heap.size W W' := hd
  subst he
  exact ⟨_, rfl, _, _, _, [], _, [], hW', trodAll_mk1 (shut_bool Try.underlying4 _), (trodAll_cons_mk (Below.trod laidOut (by kernel_rfl) (of_decide_eq_true (by kernel_rfl)) k0 bel lt0) (trodAll_cons_mk (Below.trod laidOut (by kernel_rfl) (of_decide_eq_true (by kernel_rfl)) k1 bel lt1) trodAll_mk0)), rfl, bel.frame _, fun h => by cases h⟩
theorem over : Rows.fnExactSameTreesRow.holds Try.pinned (OpenSpec.ofChange Rows.fnExactSameTreesSpec) :=
  OpenClaim.holds_of_wide 3 Try.f3 rfl rfl rfl rfl rfl rfl rfl ⟨rfl, rfl, rfl, rfl, rfl⟩ rfl rfl rfl rfl rfl (by kernel_rfl) Try.func3 (by kernel_rfl)
    (of_decide_eq_true (by kernel_rfl)) (by unfold Func.isWrapper; first | (rw [if_pos (by decide +kernel)]; kernel_rfl) | (rw [if_neg (by decide +kernel)]; exact ⟨rfl, rfl⟩))
    (fun os started H enc _ => lifted os started H enc)
theorem proved : Rows.FnExactSameTreesSaid := over
#print axioms proved
end Go.Proofs.Ytlfhpljeeedbdaa.fnExactSameTrees
namespace Go.Proofs.Ytlfhpljeeedbdaa
/-- The row, under a short name, for the claim. -/
theorem fnExactSameTrees_holds : Rows.FnExactSameTreesSaid := fnExactSameTrees.proved
end Go.Proofs.Ytlfhpljeeedbdaa
