/- For every input the law FnPaths returns true, and every argument reads behind the call as it read before: no condition. Here: the last part, the theorem in it. -/
import Derived.Test.YtlfhpljeeedbdaaDoorWWords
import Derived.Test.YtlfhpljeeedbdaaDoorQbx1
import Derived.Test.YtlfhpljeeedbdaaDoorQbx9
import Derived.Test.YtlfhpljeeedbdaaDoorQbx10
import Derived.Test.YtlfhpljeeedbdaaDoorQbx2
import Derived.Test.YtlfhpljeeedbdaaDoorQbx11
import Derived.Test.YtlfhpljeeedbdaaDoorQbx12
import Derived.Test.YtlfhpljeeedbdaaDoorQbx13
import Derived.Test.YtlfhpljeeedbdaaDoorQbx3
import Derived.Test.YtlfhpljeeedbdaaDoorQbx8
import Derived.Test.YtlfhpljeeedbdaaDoorQbx14
import Derived.Test.YtlfhpljeeedbdaaDoorQbx4
import Derived.Test.YtlfhpljeeedbdaaDoorQbx5
import Derived.Test.YtlfhpljeeedbdaaDoorQbx19
import Derived.Test.YtlfhpljeeedbdaaDoorQbx20
import Derived.Test.YtlfhpljeeedbdaaDoorQbx21
import Derived.Test.YtlfhpljeeedbdaaDoorQbx22
import Derived.Test.YtlfhpljeeedbdaaDoorQbx29
import Derived.Test.YtlfhpljeeedbdaaDoorZFnPathsa
import Derived.Test.YtlfhpljeeedbdaaDoorQbx23
import Derived.Test.YtlfhpljeeedbdaaDoorQbx24
import Derived.Test.YtlfhpljeeedbdaaDoorQbx25
import Derived.Test.YtlfhpljeeedbdaaDoorQbx18
import Derived.Test.YtlfhpljeeedbdaaDoorQbx15
import Derived.Test.YtlfhpljeeedbdaaDoorQbx16
import Derived.Test.YtlfhpljeeedbdaaDoorQbx17
import Derived.Test.YtlfhpljeeedbdaaDoorQbx6
import Derived.Test.YtlfhpljeeedbdaaDoorQbx7
import Derived.Test.YtlfhpljeeedbdaaDoorQbx26
import Derived.Test.YtlfhpljeeedbdaaDoorQbx27
import Derived.Test.YtlfhpljeeedbdaaDoorQbx28
import Derived.Test.YtlfhpljeeedbdaaDoorCards
import Derived.Test.YtlfhpljeeedbdaaDoorTie
import Derived.WalkKit
import Derived.ProofKit
import Derived.OpenShut
import Derived.ShutString
import Derived.ChangeOld
import Derived.Below
import Derived.SizedLaws
import Derived.Lay
import Derived.LaidOnce
import Derived.SevenTiedAt
/- Small laws of the pure side: what ends, step by step; whole numbers; lists by places. -/
namespace Go.Proofs.YtlfhpljeeedbdaaDoor.Aid
open Go.RowKit Go.Proofs.YtlfhpljeeedbdaaDoorW.PrintWords

theorem wrap_id {x : Int} (h0 : -9223372036854775808 ≤ x) (h1 : x ≤ 9223372036854775807) : wrap64 x = x := by
  unfold wrap64
  omega
theorem wrap_up {i n : Nat} (h : i < n) (hn : n ≤ 4611686018427387904) : wrap64 ((i : Int) + 1) = ((i + 1 : Nat) : Int) := by
  rw [wrap_id (by omega) (by omega)]
  omega
theorem wf_lo {x : Int} (h : (Lit.int .i64 x).wf = true) : -9223372036854775808 ≤ x ∧ x ≤ 9223372036854775807 := by
  have h' : (decide (IntKind.i64.min ≤ x) && decide (x ≤ IntKind.i64.max)) = true := h
  simp only [Bool.and_eq_true, decide_eq_true_eq] at h'
  exact h'
/-- One round, then what is known of the rest. -/
theorem ev_step {α : Type} {g : Nat → Option α} (f : Nat → Option α) {r : α} (h : ∀ k, g (k + 1) = f k) (k : Ev f r) : Ev g r := Ev.step h k
theorem ev_done {α : Type} {g : Nat → Option α} {r : α} (h : ∀ k, g (k + 1) = some r) : Ev g r := Ev.step h (Ev.now r)
theorem ev_is {α : Type} {g : Nat → Option α} {r : α} (h : ∀ k, g k = some r) : Ev g r := ⟨0, fun k _ => h k⟩
/-- A call whose answer is known, then the rest. -/
theorem ev_call {α β : Type} {g : Nat → Option α} {f : Nat → α → Option β} {a : α} {r : β} (h : Ev g a) (k : Ev (fun n => f n a) r) : Ev (fun n => (g n).bind (f n)) r := Ev.bind h k
theorem ev_cong {α : Type} {g f : Nat → Option α} {r : α} (h : ∀ k, g k = f k) (k : Ev f r) : Ev g r := Ev.congr h k
theorem rd_at {l : List Int} {i : Nat} (h : i < l.length) : rd l (i : Int) = l[i] := by
  unfold rd
  rw [Int.toNat_natCast, List.getD_eq_getElem?_getD, List.getElem?_eq_getElem h]
  rfl
theorem drop_at {α : Type} {l : List α} {i : Nat} (h : i < l.length) : l.drop i = l[i] :: l.drop (i + 1) := List.drop_eq_getElem_cons h
theorem drop_end {α : Type} {l : List α} {i : Nat} (h : l.length ≤ i) : l.drop i = [] := List.drop_eq_nil_of_le h
theorem rd_set_at {l : List Int} {i : Nat} {v : Int} (h : i < l.length) : rd (l.set i v) (i : Int) = v := by
  rw [rd_at (by simpa using h)]
  simp
theorem rdOf_at {α : Type} {z : α} {l : List α} {i : Nat} (h : i < l.length) : rdOf z l (i : Int) = l[i] := by
  unfold rdOf
  rw [Int.toNat_natCast, List.getD_eq_getElem?_getD, List.getElem?_eq_getElem h]
  rfl
theorem rdOf_set_at {α : Type} {z : α} {l : List α} {i : Nat} {v : α} (h : i < l.length) : rdOf z (l.set i v) (i : Int) = v := by
  rw [rdOf_at (by simpa using h)]
  simp
theorem take_set_snoc {α : Type} {l : List α} {i : Nat} {v : α} (h : i < l.length) : (l.set i v).take (i + 1) = l.take i ++ [v] := by
  rw [List.take_succ_eq_append_getElem (by simpa using h), List.take_set_of_le (Nat.le_refl i)]
  simp
theorem take_set_next {α : Type} {m L : List α} {i : Nat} {v : α} (h : i < m.length) (h' : i < L.length) (ht : m.take i = L.take i) (hv : L[i] = v) : (m.set i v).take (i + 1) = L.take (i + 1) := by
  rw [take_set_snoc h, List.take_succ_eq_append_getElem h', ht, hv]
theorem wr1_ (m : Int) (h0 : -9223372036854775808 ≤ m + 1) (h1 : m + 1 ≤ 9223372036854775807) : wrap64 (m + 1) = m + 1 := wrap_id h0 h1
theorem wrn_ (m j j1 : Int) (e : j + 1 = j1) (h0 : -9223372036854775808 ≤ m + j + 1) (h1 : m + j + 1 ≤ 9223372036854775807) : wrap64 (m + j + 1) = m + j1 := by
  rw [wrap_id h0 h1]
  omega
theorem size_strOfNums (xs : List Int) : (strOfNums xs).size = xs.length := by
  simp [strOfNums, ByteArray.size]
theorem tdiv_lt {x : Int} (h : 0 < x) : 0 ≤ Int.tdiv x 10 ∧ Int.tdiv x 10 + 1 ≤ x := by
  have : Int.tdiv x 10 = x / 10 := Int.tdiv_eq_ediv_of_nonneg (by omega)
  rw [this]
  omega
/-- Where what is so stands ahead of what is not: how many are so is the place. -/
theorem take_pos {α : Type} (p : α → Bool) (l : List α) (hm : l.Pairwise (fun x y => p y = true → p x = true)) : ∀ j (hj : j < l.length), p l[j] = true ↔ j < (l.takeWhile p).length := by
  induction l with
  | nil => intro j hj; simp at hj
  | cons x l ih =>
    intro j hj
    obtain ⟨h1, h2⟩ := List.pairwise_cons.1 hm
    cases hx : p x with
    | true =>
      rw [List.takeWhile_cons_of_pos hx]
      cases j with
      | zero => simp [hx]
      | succ j => simpa using ih h2 j (by simpa using hj)
    | false =>
      rw [List.takeWhile_cons_of_neg (by simp [hx])]
      cases j with
      | zero => simp [hx]
      | succ j =>
        have hj' : j < l.length := by simpa using hj
        have : p l[j] = true → False := fun h => by
          have := h1 l[j] (List.getElem_mem hj') h
          rw [hx] at this
          cases this
        simp
        exact Bool.eq_false_iff.2 this
theorem take_pos_le {α : Type} (p : α → Bool) (l : List α) : (l.takeWhile p).length ≤ l.length := (List.takeWhile_prefix p).length_le
theorem mid_eq {a b : Nat} (h : a + b ≤ 4611686018427387904) : wrap64 ((IntKind.u64.wrap (wrap64 ((a : Int) + (b : Int)))) / 2) = ((((a + b) / 2 : Nat)) : Int) := by
  have e : wrap64 ((a : Int) + (b : Int)) = ((a + b : Nat) : Int) := by rw [wrap_id (by omega) (by omega)]; omega
  have e2 : IntKind.u64.wrap (((a + b : Nat)) : Int) = ((a + b : Nat) : Int) := by
    have : IntKind.u64.wrap (((a + b : Nat)) : Int) = (((a + b : Nat)) : Int) % 18446744073709551616 := rfl
    rw [this]
    omega
  rw [e, e2, wrap_id (by omega) (by omega)]
  omega
end Go.Proofs.YtlfhpljeeedbdaaDoor.Aid

/- A number within bounds, by the program and by the reference. -/
namespace Go.Proofs.YtlfhpljeeedbdaaDoor.Pure
open Go.RowKit Go.Proofs.YtlfhpljeeedbdaaDoor.Qb Go.Proofs.YtlfhpljeeedbdaaDoorW.PrintWords Go.Proofs.YtlfhpljeeedbdaaDoorW.PrintLast Go.Proofs.YtlfhpljeeedbdaaDoor.Aid
theorem spec_l1In_is (a lo hi : Int) : spec_l1In.f a lo hi = some (decide (lo ≤ a ∧ a ≤ hi)) := by
  unfold spec_l1In.f
  by_cases h : lo ≤ a
  · rw [if_pos h]; simp [h]
  · rw [if_neg h]; simp [h]
theorem impl_within_is (a lo hi : Int) : impl_within.f a lo hi = some (decide (lo ≤ a ∧ a ≤ hi)) := by
  unfold impl_within.f
  by_cases h : lo ≤ a
  · rw [if_pos h]; simp [h]
  · rw [if_neg h]; simp [h]
end Go.Proofs.YtlfhpljeeedbdaaDoor.Pure

/- Names: what is one, by the program and by the reference: the same, for every text. -/
namespace Go.Proofs.YtlfhpljeeedbdaaDoor.Pure
open Go.RowKit Go.Proofs.YtlfhpljeeedbdaaDoor.Qb Go.Proofs.YtlfhpljeeedbdaaDoorW.PrintWords Go.Proofs.YtlfhpljeeedbdaaDoorW.PrintLast Go.Proofs.YtlfhpljeeedbdaaDoor.Aid

theorem bt_at {s : ByteArray} {i : Nat} (h : i < s.data.toList.length) : bt s (i : Int) = ((s.data.toList[i]).toNat : Int) := by
  have h' : (i : Int).toNat < s.size := by rw [Int.toNat_natCast]; exact h
  unfold bt
  rw [dif_pos h']
  rfl
theorem size_list (s : ByteArray) : s.size = s.data.toList.length := rfl
/-- A sign of a name. -/
def okU (c : UInt8) : Bool := (decide (97 ≤ c.toNat) && decide (c.toNat ≤ 122)) || (decide (48 ≤ c.toNat) && decide (c.toNat ≤ 57))
def nameB (s : ByteArray) : Bool := s.data.toList.all okU && decide (1 ≤ (s.size : Int) ∧ (s.size : Int) ≤ 8)
theorem okU_true {c : UInt8} (h : okU c = true) : (97 ≤ (c.toNat : Int) ∧ (c.toNat : Int) ≤ 122) ∨ (48 ≤ (c.toNat : Int) ∧ (c.toNat : Int) ≤ 57) := by
  unfold okU at h
  simp only [Bool.or_eq_true, Bool.and_eq_true, decide_eq_true_eq] at h
  omega
theorem okU_false {c : UInt8} (h : okU c = false) : ¬ ((97 ≤ (c.toNat : Int) ∧ (c.toNat : Int) ≤ 122) ∨ (48 ≤ (c.toNat : Int) ∧ (c.toNat : Int) ≤ 57)) := by
  intro g
  have : okU c = true := by
    unfold okU
    simp only [Bool.or_eq_true, Bool.and_eq_true, decide_eq_true_eq]
    omega
  rw [h] at this
  cases this
theorem name_spec_l0 (s : ByteArray) (hl : s.size ≤ 4611686018427387904) (d : Nat) : ∀ (i : Nat), i + d = s.size → Ev (fun k => spec_l1Name.l0 k s (i : Int)) ((s.data.toList.drop i).all okU && decide (1 ≤ (s.size : Int) ∧ (s.size : Int) ≤ 8)) := by
  have hs := size_list s
  induction d with
  | zero =>
    intro i h
    rw [drop_end (by omega)]
    exact ev_done fun k => by simp only [spec_l1Name.l0]; rw [if_neg (by omega), spec_l1In_is]; rfl
  | succ d ih =>
    intro i h
    have hi : i < s.data.toList.length := by omega
    rw [drop_at hi, List.all_cons]
    cases c : okU s.data.toList[i] with
    | true =>
      have hc := okU_true c
      rw [Bool.true_and]
      refine ev_step (fun k => spec_l1Name.l0 k s ((i + 1 : Nat) : Int)) (fun k => ?_) (ih (i + 1) (by omega))
      simp only [spec_l1Name.l0]; rw [if_pos (by omega), if_pos (by omega), bt_at hi, wrap_up hi (by omega)]
      by_cases h1 : ((s.data.toList[i]).toNat : Int) < 97
      · rw [if_pos h1, if_neg (by omega), if_neg (by omega)]
      · rw [if_neg h1, if_neg (by omega)]
    | false =>
      have hc := okU_false c
      rw [Bool.false_and, Bool.false_and]
      refine ev_done fun k => ?_
      simp only [spec_l1Name.l0]; rw [if_pos (by omega), if_pos (by omega), bt_at hi]
      by_cases h1 : ((s.data.toList[i]).toNat : Int) < 97
      · rw [if_pos h1]
        by_cases h2 : ((s.data.toList[i]).toNat : Int) < 48
        · rw [if_pos h2]
        · rw [if_neg h2, if_pos (by omega)]
      · rw [if_neg h1, if_pos (by omega), if_neg (by omega), if_pos (by omega)]
theorem name_spec (s : ByteArray) (hl : s.size ≤ 4611686018427387904) : Ev (fun k => spec_l1Name.f k s) (nameB s) := by
  have h := name_spec_l0 s hl s.size 0 (by omega)
  rw [List.drop_zero] at h
  exact h
theorem name_impl_l0 (s : ByteArray) (hl : s.size ≤ 4611686018427387904) (d : Nat) : ∀ (i : Nat), i + d = s.size → Ev (fun k => impl_isName.l0 k s (s.size : Int) (i : Int)) ((s.data.toList.drop i).all okU && decide (1 ≤ (s.size : Int) ∧ (s.size : Int) ≤ 8)) := by
  have hs := size_list s
  induction d with
  | zero =>
    intro i h
    rw [drop_end (by omega)]
    exact ev_done fun k => by simp only [impl_isName.l0]; rw [if_neg (by omega), impl_within_is]; rfl
  | succ d ih =>
    intro i h
    have hi : i < s.data.toList.length := by omega
    rw [drop_at hi, List.all_cons]
    cases c : okU s.data.toList[i] with
    | true =>
      have hc := okU_true c
      rw [Bool.true_and]
      refine ev_step (fun k => impl_isName.l0 k s (s.size : Int) ((i + 1 : Nat) : Int)) (fun k => ?_) (ih (i + 1) (by omega))
      simp only [impl_isName.l0]; rw [if_pos (by omega), if_pos (by omega), if_pos (by omega), bt_at hi, wrap_up hi (by omega)]
      by_cases h1 : ((s.data.toList[i]).toNat : Int) < 97
      · rw [if_pos h1, if_neg (by omega), if_neg (by omega)]
      · rw [if_neg h1, if_neg (by omega)]
    | false =>
      have hc := okU_false c
      rw [Bool.false_and, Bool.false_and]
      refine ev_done fun k => ?_
      simp only [impl_isName.l0]; rw [if_pos (by omega), if_pos (by omega), if_pos (by omega), bt_at hi]
      by_cases h1 : ((s.data.toList[i]).toNat : Int) < 97
      · rw [if_pos h1]
        by_cases h2 : ((s.data.toList[i]).toNat : Int) < 48
        · rw [if_pos h2]
        · rw [if_neg h2, if_pos (by omega)]
      · rw [if_neg h1, if_pos (by omega), if_neg (by omega), if_pos (by omega)]
theorem name_impl (s : ByteArray) (hl : s.size ≤ 4611686018427387904) : Ev (fun k => impl_isName.f k s) (nameB s) := by
  have h := name_impl_l0 s hl s.size 0 (by omega)
  rw [List.drop_zero] at h
  exact h
end Go.Proofs.YtlfhpljeeedbdaaDoor.Pure

/- Paths: a text cut at the marks, by the program (strings.Split) and by the reference: the same; what is wrong with a path: the same, for every text. -/
namespace Go.Proofs.YtlfhpljeeedbdaaDoor.Pure
open Go.RowKit Go.Proofs.YtlfhpljeeedbdaaDoor.Qb Go.Proofs.YtlfhpljeeedbdaaDoorW.PrintWords Go.Proofs.YtlfhpljeeedbdaaDoorW.PrintLast Go.Proofs.YtlfhpljeeedbdaaDoor.Aid

def mkB (l : List UInt8) : ByteArray := ⟨⟨l⟩⟩
theorem eq_mk {t : ByteArray} {l : List UInt8} (h : t.data.toList = l) : t = mkB l := by subst h; rfl
theorem ext_list (s : ByteArray) (a b : Nat) : (s.extract a b).data.toList = (s.data.toList.drop a).take (b - a) := by
  rw [ByteArray.data_extract, Array.toList_extract]
theorem ext_mk (s : ByteArray) (a b : Nat) : s.extract a b = mkB ((s.data.toList.drop a).take (b - a)) := eq_mk (ext_list s a b)
theorem tl (s : ByteArray) : s.toList = s.data.toList := ByteArray.toList_eq s
/-- The pieces of a text between the marks; what stands ahead goes into the first one. -/
def splF : List UInt8 → List UInt8 → List (List UInt8)
  | P, [] => [P]
  | P, c :: l => if c = 47 then P :: splF [] l else splF (P ++ [c]) l
theorem splF_len (l : List UInt8) : ∀ P, (splF P l).length = l.count 47 + 1 := by
  induction l with
  | nil => intro P; rfl
  | cons c l ih =>
    intro P
    unfold splF
    by_cases h : c = 47
    · rw [if_pos h, List.length_cons, ih, h, List.count_cons_self]
    · rw [if_neg h, ih, List.count_cons_of_ne (by simpa using h)]
theorem splF_none (l : List UInt8) : ∀ P, l.count 47 = 0 → splF P l = [P ++ l] := by
  induction l with
  | nil => intro P _; simp [splF]
  | cons c l ih =>
    intro P h
    have hc : c ≠ 47 := fun e => by rw [e, List.count_cons_self] at h; omega
    rw [List.count_cons_of_ne (by simpa using hc)] at h
    unfold splF
    rw [if_neg hc, ih _ h, List.append_assoc]
    rfl
theorem splF_some (l : List UInt8) (h : 0 < l.count 47) : ∃ p, p < l.length ∧ Lib.indexByte l 47 = (p : Int) ∧ (∀ P, splF P l = (P ++ l.take p) :: splF [] (l.drop (p + 1))) ∧ (l.drop (p + 1)).count 47 + 1 = l.count 47 := by
  induction l with
  | nil => simp at h
  | cons c l ih =>
    by_cases hc : c = 47
    · subst hc
      refine ⟨0, by simp, by unfold Lib.indexByte; rfl, fun P => ?_, by simp⟩
      rw [show splF P (47 :: l) = P :: splF [] l from if_pos rfl]
      simp
    · rw [List.count_cons_of_ne (by simpa using hc)] at h ⊢
      obtain ⟨p, h1, h2, h3, h4⟩ := ih h
      refine ⟨p + 1, by simpa using h1, ?_, fun P => ?_, by simpa using h4⟩
      · unfold Lib.indexByte
        rw [if_neg (by simpa using hc), h2, if_neg (by simp)]
        omega
      · rw [show splF P (c :: l) = splF (P ++ [c]) l from if_neg hc, h3]
        simp
/-- The reference's cut. -/
theorem cut_l0 (s : ByteArray) (hs : s.size ≤ 4398046511104) (d : Nat) : ∀ (i f : Nat) (out : List ByteArray), i + d = s.size → f ≤ i → out.length ≤ i → Ev (fun k => spec_l1Cut.l0 k s 47 out (f : Int) (i : Int)) (out ++ (splF ((s.data.toList.drop f).take (i - f)) (s.data.toList.drop i)).map mkB) := by
  have hl := size_list s
  have fin : ∀ (n f : Nat) (out : List ByteArray), s.size < n → Ev (fun k => spec_l1Cut.l0 k s 47 out (f : Int) (n : Int)) out := fun n f out hn => ev_done fun k => by simp only [spec_l1Cut.l0]; rw [if_neg (by omega)]
  induction d with
  | zero =>
    intro i f out h hf ho
    have e : s.data.toList.drop i = [] := drop_end (by omega)
    rw [e]
    have hx := ext_mk s f i
    refine ev_step (fun k => spec_l1Cut.l0 k s 47 (out ++ [s.extract f i]) ((i + 1 : Nat) : Int) ((i + 1 : Nat) : Int)) (fun k => ?_) ?_
    · simp only [spec_l1Cut.l0]; rw [if_pos (by omega), if_pos (by omega), if_pos (by omega), if_pos (by omega), if_pos (by omega), wrap_id (by omega) (by omega)]; rfl
    · rw [hx]
      exact fin _ _ _ (by omega)
  | succ d ih =>
    intro i f out h hf ho
    have hi : i < s.data.toList.length := by omega
    rw [drop_at hi]
    by_cases c : s.data.toList[i] = 47
    · rw [splF, if_pos c]
      have IH := ih (i + 1) (i + 1) (out ++ [s.extract f i]) (by omega) (by omega) (by simp; omega)
      rw [Nat.sub_self, List.take_zero] at IH
      have e : out ++ (((s.data.toList.drop f).take (i - f)) :: splF [] (s.data.toList.drop (i + 1))).map mkB = (out ++ [s.extract f i]) ++ (splF [] (s.data.toList.drop (i + 1))).map mkB := by rw [ext_mk, List.map_cons, List.append_assoc]; rfl
      rw [e]
      refine ev_step (fun k => spec_l1Cut.l0 k s 47 (out ++ [s.extract f i]) ((i + 1 : Nat) : Int) ((i + 1 : Nat) : Int)) (fun k => ?_) IH
      simp only [spec_l1Cut.l0]; rw [if_pos (by omega), if_neg (by omega), if_pos (by omega), if_pos (by omega), bt_at hi, c, if_pos (show ((UInt8.toNat 47 : Nat) : Int) = 47 from rfl), if_pos (by omega), if_pos (by omega), if_pos (by omega), wrap_up hi (by omega)]; rfl
    · rw [splF, if_neg c]
      have e : (s.data.toList.drop f).take (i - f) ++ [s.data.toList[i]] = (s.data.toList.drop f).take (i + 1 - f) := by
        rw [show i + 1 - f = (i - f) + 1 by omega, List.take_succ_eq_append_getElem (by rw [List.length_drop]; omega)]
        congr 2
        rw [List.getElem_drop]
        congr 1
        omega
      rw [e]
      refine ev_step (fun k => spec_l1Cut.l0 k s 47 out (f : Int) ((i + 1 : Nat) : Int)) (fun k => ?_) (ih (i + 1) f out (by omega) (by omega) (by omega))
      have hne : ¬ (((s.data.toList[i]).toNat : Int) = 47) := fun e => c (by
        have e2 : (s.data.toList[i]).toNat = 47 := by omega
        exact UInt8.toNat_inj.1 e2)
      simp only [spec_l1Cut.l0]; rw [if_pos (by omega), if_neg (by omega), if_pos (by omega), if_pos (by omega), bt_at hi, if_neg hne, wrap_up hi (by omega)]
def pieces (s : ByteArray) : List ByteArray := (splF [] s.data.toList).map mkB
theorem pieces_len (s : ByteArray) : (pieces s).length = s.data.toList.count 47 + 1 := by unfold pieces; rw [List.length_map, splF_len]
theorem cut_spec (s : ByteArray) (hs : s.size ≤ 4398046511104) : Ev (fun k => spec_l1Cut.f k s 47) (pieces s) := by
  have h := cut_l0 s hs s.size 0 0 [] (by omega) (by omega) (by simp)
  rw [List.nil_append, Nat.sub_self, List.take_zero, List.drop_zero] at h
  exact h
theorem w_up (p : Nat) (h : p ≤ 4611686018427387904) : wrap64 ((p : Int) + 1) = ((p + 1 : Nat) : Int) := by rw [wrap_id (by omega) (by omega)]; omega
theorem w_one (p : Nat) (h : p ≤ 4611686018427387904) : wrap64 ((p : Int) + ((⟨#[47]⟩ : ByteArray).size : Int)) = ((p + 1 : Nat) : Int) := w_up p h
theorem w_zero (p : Nat) (h : p ≤ 4611686018427387904) : wrap64 ((p : Int) + 0) = (p : Int) := by rw [Int.add_zero]; exact wrap_id (by omega) (by omega)
/-- The program's cut. -/
theorem split_l0 (n : Nat) (hn : n ≤ 4398046511104) (d : Nat) : ∀ (i : Nat) (x : ByteArray) (a : List ByteArray), x.data.toList.count 47 = d → i + d = n → a.length = n + 1 → x.size ≤ 4398046511104 → Ev (fun k => strings_genSplit.l0 k x (⟨#[47]⟩ : ByteArray) 0 (n : Int) a (i : Int)) (a.take i ++ (splF [] x.data.toList).map mkB) := by
  have ix : ∀ x : ByteArray, strings_Index.f x (⟨#[47]⟩ : ByteArray) = some (Lib.indexByte x.data.toList 47) := fun x => if_pos rfl
  induction d with
  | zero =>
    intro i x a hc h ha hx
    have e : a.take i ++ (splF [] x.data.toList).map mkB = (a.set i x).take (i + 1) := by
      rw [splF_none _ _ hc, take_set_snoc (by omega)]
      rfl
    rw [e]
    refine ev_done fun k => ?_
    have q0 : ¬ ((i : Int) < (n : Int)) := by omega
    have q1 : (0 : Int) ≤ (i : Int) := by omega
    have q2 : (i : Int) < (a.length : Int) := by omega
    have q3 : (0 : Int) ≤ ((i + 1 : Nat) : Int) := by omega
    have q4 : ((i + 1 : Nat) : Int) ≤ (a.length : Int) := by omega
    have wi := w_up i (by omega)
    simp only [strings_genSplit.l0, wi, q0, q1, q2, q3, q4, if_true, if_false, Int.toNat_natCast]
  | succ d ih =>
    intro i x a hc h ha hx
    obtain ⟨p, h1, h2, h3, h4⟩ := splF_some x.data.toList (by omega)
    have hl := size_list x
    have e1 : x.extract 0 p = mkB (x.data.toList.take p) := by rw [ext_mk]; rfl
    have e2 : (x.extract (p + 1) x.size).data.toList = x.data.toList.drop (p + 1) := by rw [ext_list, List.take_of_length_le (by rw [List.length_drop]; omega)]
    have IH := ih (i + 1) (x.extract (p + 1) x.size) (a.set i (x.extract 0 p)) (by rw [e2]; omega) (by omega) (by rw [List.length_set]; exact ha) (by rw [size_list, e2, List.length_drop]; omega)
    have e : a.take i ++ (splF [] x.data.toList).map mkB = (a.set i (x.extract 0 p)).take (i + 1) ++ (splF [] (x.extract (p + 1) x.size).data.toList).map mkB := by
      rw [e2, h3, take_set_snoc (by omega), List.append_assoc, e1]
      rfl
    rw [e]
    refine ev_step (fun k => strings_genSplit.l0 k (x.extract (p + 1) x.size) (⟨#[47]⟩ : ByteArray) 0 (n : Int) (a.set i (x.extract 0 p)) ((i + 1 : Nat) : Int)) (fun k => ?_) IH
    have q0 : (i : Int) < (n : Int) := by omega
    have q1 : (0 : Int) ≤ (i : Int) := by omega
    have q2 : (i : Int) < (a.length : Int) := by omega
    have q3 : (0 : Int) ≤ ((p + 1 : Nat) : Int) := by omega
    have q4 : ((p + 1 : Nat) : Int) ≤ (x.size : Int) := by omega
    have q5 : (0 : Int) ≤ (p : Int) := by omega
    have q6 : (p : Int) ≤ (x.size : Int) := by omega
    have q7 : ¬ ((p : Int) < 0) := by omega
    have hp_ : p ≤ 4611686018427387904 := by omega
    have hi_ : i ≤ 4611686018427387904 := by omega
    have wi := w_up i hi_
    have w1 := w_one p hp_
    have w0 := w_zero p hp_
    simp only [strings_genSplit.l0]
    rw [if_pos q0, ix, Option.bind_some, h2, if_neg q7, w0, if_pos q5, if_pos q6, if_pos q1, if_pos q2, w1, if_pos q3, if_pos q4, wi, Int.toNat_natCast, Int.toNat_natCast, Int.toNat_natCast]
theorem split_impl (s : ByteArray) (hs : s.size ≤ 1099511627776) : Ev (fun k => strings_Split.f k s (⟨#[47]⟩ : ByteArray)) (pieces s) := by
  have hl := size_list s
  have hle : s.data.toList.count 47 ≤ s.size := by rw [hl]; exact List.count_le_length
  have h := split_l0 (s.data.toList.count 47) (by omega) (s.data.toList.count 47) 0 s (List.replicate (s.data.toList.count 47 + 1) (⟨#[]⟩ : ByteArray)) rfl (by omega) (by simp) (by omega)
  have ct : strings_Count.f s (⟨#[47]⟩ : ByteArray) = some ((s.data.toList.count 47 : Nat) : Int) := if_pos rfl
  have en : wrap64 (((s.data.toList.count 47 : Nat) : Int) + 1) = ((s.data.toList.count 47 + 1 : Nat) : Int) := by rw [wrap_id (by omega) (by omega)]; omega
  have hm : mn ((s.data.toList.count 47 + 1 : Nat) : Int) (wrap64 ((s.size : Int) + 1)) = ((s.data.toList.count 47 + 1 : Nat) : Int) := by
    rw [wrap_id (by omega) (by omega)]
    unfold mn
    by_cases h : (s.size : Int) + 1 < ((s.data.toList.count 47 + 1 : Nat) : Int)
    · omega
    · rw [if_neg h]
  have hm1 : wrap64 (((s.data.toList.count 47 + 1 : Nat) : Int) - 1) = ((s.data.toList.count 47 : Nat) : Int) := by rw [wrap_id (by omega) (by omega)]; omega
  rw [List.take_zero, List.nil_append] at h
  unfold strings_Split.f
  refine ev_call (a := pieces s) ?_ (Ev.now _)
  unfold strings_genSplit.f
  refine ev_cong (fun k => (if_neg (by omega)).trans ((if_neg (by rw [tl]; simp)).trans (if_pos (by omega)))) ?_
  simp only [ct, Option.bind_some, en]
  refine ev_step _ (fun k => ?_) h
  simp only [strings_genSplit.j0]; rw [hm, if_pos (by omega), if_pos (by omega), hm1, Int.toNat_natCast]; rfl
end Go.Proofs.YtlfhpljeeedbdaaDoor.Pure

/- What is wrong with a path: by the program and by the reference the same, for every text. -/
namespace Go.Proofs.YtlfhpljeeedbdaaDoor.Pure
open Go.RowKit Go.Proofs.YtlfhpljeeedbdaaDoor.Qb Go.Proofs.YtlfhpljeeedbdaaDoorW.PrintWords Go.Proofs.YtlfhpljeeedbdaaDoorW.PrintLast Go.Proofs.YtlfhpljeeedbdaaDoor.Aid

theorem splF_size (l : List UInt8) : ∀ P, ∀ x ∈ splF P l, x.length ≤ P.length + l.length := by
  induction l with
  | nil => intro P x hx; rw [splF, List.mem_singleton] at hx; subst hx; omega
  | cons c l ih =>
    intro P x hx
    unfold splF at hx
    by_cases h : c = 47
    · rw [if_pos h] at hx
      rcases List.mem_cons.1 hx with rfl | hx
      · omega
      · have := ih [] x hx; simp at this ⊢; omega
    · rw [if_neg h] at hx
      have := ih _ x hx
      simp at this ⊢
      omega
theorem pieces_size (s : ByteArray) : ∀ x ∈ pieces s, x.size ≤ s.size := by
  intro x hx
  obtain ⟨l, hl, rfl⟩ := List.mem_map.1 hx
  have := splF_size s.data.toList [] l hl
  have e : (mkB l).size = l.length := rfl
  rw [List.length_nil] at this
  rw [e, size_list s]
  omega
def headR (s : ByteArray) : ByteArray := rdOf ByteArray.empty (pieces s) 0
def namesR (s : ByteArray) : List ByteArray × Bool :=
  if s.data.toList = [47] then ([], true) else if (pieces s).length < 2 then ([], false) else if (headR s).data.toList = [] then (if ((pieces s).drop 1).all nameB = true then ((pieces s).drop 1, true) else ([], false)) else ([], false)
def faultR (s : ByteArray) : Int :=
  if 24 < s.size then 2 else if s.data.toList = [47] then 0 else if 5 < (pieces s).length then 2 else if (namesR s).2 = true then 0 else 5
theorem head_bne (s : ByteArray) : ((rdOf ByteArray.empty (pieces s) 0).toList != ([] : List UInt8)) = !decide ((headR s).data.toList = []) := by
  unfold headR
  rw [tl]
  by_cases h : (rdOf ByteArray.empty (pieces s) 0).data.toList = []
  · rw [h]; rfl
  · rw [decide_eq_false h]
    exact bne_iff_ne.2 h
theorem fault_l0 (W : List ByteArray) (hW : ∀ x ∈ W, x.size ≤ 1048576) (hl : W.length ≤ 1048576) (d : Nat) : ∀ (i : Nat), i + d = W.length → Ev (fun k => impl_PathFault.l0 k W (W.length : Int) (i : Int)) (if (W.drop i).all nameB = true then 0 else 5) := by
  induction d with
  | zero =>
    intro i h
    rw [drop_end (by omega)]
    exact ev_done fun k => by simp only [impl_PathFault.l0]; rw [if_neg (by omega)]; rfl
  | succ d ih =>
    intro i h
    have hi : i < W.length := by omega
    have hx := hW W[i] (List.getElem_mem hi)
    rw [drop_at hi, List.all_cons]
    refine ev_step _ (fun k => by simp only [impl_PathFault.l0]; rw [if_pos (by omega), if_pos (by omega), if_pos (by omega), rdOf_at hi, wrap_up hi (by omega)]) (ev_call (name_impl W[i] (by omega)) ?_)
    cases c : nameB W[i] with
    | true => exact ev_cong (fun k => if_pos rfl) (by rw [Bool.true_and]; exact ih (i + 1) (by omega))
    | false => exact ev_is fun k => if_neg (by simp)
theorem names_l0 (W : List ByteArray) (hW : ∀ x ∈ W, x.size ≤ 1048576) (hl : W.length ≤ 1048576) (h1 : 1 ≤ W.length) (d : Nat) : ∀ (i : Nat), i + d = W.length → Ev (fun k => spec_l1Names.l0 k W (i : Int)) (if (W.drop i).all nameB = true then (W.drop 1, true) else ([], false)) := by
  induction d with
  | zero =>
    intro i h
    rw [drop_end (by omega)]
    exact ev_done fun k => by simp only [spec_l1Names.l0]; rw [if_neg (by omega), if_pos (by omega)]; rfl
  | succ d ih =>
    intro i h
    have hi : i < W.length := by omega
    have hx := hW W[i] (List.getElem_mem hi)
    rw [drop_at hi, List.all_cons]
    refine ev_step _ (fun k => by simp only [spec_l1Names.l0]; rw [if_pos (by omega), if_pos (by omega), rdOf_at hi, wrap_up hi (by omega)]) (ev_call (name_spec W[i] (by omega)) ?_)
    cases c : nameB W[i] with
    | true => exact ev_cong (fun k => if_pos rfl) (by rw [Bool.true_and]; exact ih (i + 1) (by omega))
    | false => exact ev_is fun k => if_neg (by simp)
theorem pieces_le (s : ByteArray) : (pieces s).length ≤ s.size + 1 := by
  have : s.data.toList.count 47 ≤ s.data.toList.length := List.count_le_length
  rw [pieces_len, size_list]
  omega
theorem names_spec (s : ByteArray) (hs : s.size ≤ 24) : Ev (fun k => spec_l1Names.f k s) (namesR s) := by
  have hl := pieces_le s
  unfold spec_l1Names.f namesR
  by_cases h : s.data.toList = [47]
  · rw [if_pos h]
    exact ev_is fun k => if_pos (by rw [tl]; exact h)
  · rw [if_neg h]
    refine ev_cong (fun k => if_neg (by rw [tl]; exact h)) (ev_call (cut_spec s (by omega)) ?_)
    by_cases h2 : (pieces s).length < 2
    · rw [if_pos h2]
      exact ev_cong (fun k => if_pos (by omega)) (ev_done fun k => by simp only [spec_l1Names.j0]; exact if_pos trivial)
    · rw [if_neg h2]
      refine ev_cong (fun k => (if_neg (by omega)).trans (if_pos (by omega))) ?_
      rw [head_bne]
      by_cases h3 : (headR s).data.toList = []
      · rw [if_pos h3]
        refine ev_step _ (fun k => by simp only [spec_l1Names.j0]; rw [if_neg (by simp [h3])]) ?_
        exact names_l0 (pieces s) (fun x hx => by have := pieces_size s x hx; omega) (by omega) (by omega) ((pieces s).length - 1) 1 (by omega)
      · rw [if_neg h3]
        exact ev_done fun k => by simp only [spec_l1Names.j0]; exact if_pos (by simp [h3])
theorem fault_spec (s : ByteArray) : Ev (fun k => spec_l1Fault.f k s) (faultR s) := by
  unfold spec_l1Fault.f faultR
  by_cases h : 24 < s.size
  · rw [if_pos h]
    exact ev_cong (fun k => if_pos (by omega)) (ev_done fun k => by simp only [spec_l1Fault.j0]; exact if_pos trivial)
  · rw [if_neg h]
    have tail : Ev (fun k => spec_l1Fault.j0 k s false) (if (namesR s).2 = true then 0 else 5) := by
      refine ev_step _ (fun k => by simp only [spec_l1Fault.j0]; rw [if_neg (by simp)]) (ev_call (names_spec s (by omega)) ?_)
      exact ev_is fun k => by by_cases h4 : (namesR s).2 = true <;> simp [h4]
    refine ev_cong (fun k => if_neg (by omega)) ?_
    by_cases h47 : s.data.toList = [47]
    · rw [if_pos h47]
      refine ev_cong (fun k => if_pos (by rw [tl]; exact h47)) ?_
      have e : (namesR s).2 = true := by unfold namesR; rw [if_pos h47]
      rw [if_pos e] at tail
      exact tail
    · rw [if_neg h47]
      refine ev_cong (fun k => if_neg (by rw [tl]; exact h47)) (ev_call (cut_spec s (by omega)) ?_)
      by_cases h5 : 5 < (pieces s).length
      · rw [if_pos h5, show decide (((pieces s).length : Int) > 5) = true from decide_eq_true (by omega)]
        exact ev_done fun k => by simp only [spec_l1Fault.j0]; exact if_pos trivial
      · rw [if_neg h5, show decide (((pieces s).length : Int) > 5) = false from decide_eq_false (by omega)]
        exact tail
theorem fault_impl (s : ByteArray) : Ev (fun k => impl_PathFault.f k s) (faultR s) := by
  unfold impl_PathFault.f faultR
  by_cases h : 24 < s.size
  · rw [if_pos h]
    exact ev_cong (fun k => if_pos (by omega)) (ev_done fun k => by simp only [impl_PathFault.j0]; exact if_pos trivial)
  · rw [if_neg h]
    have ct : strings_Count.f s (⟨#[47]⟩ : ByteArray) = some ((s.data.toList.count 47 : Nat) : Int) := if_pos rfl
    have pl := pieces_len s
    have hl := pieces_le s
    refine ev_cong (fun k => (if_neg (by omega)).trans (by rw [ct, Option.bind_some])) ?_
    by_cases h47 : s.data.toList = [47]
    · rw [if_pos h47, h47]
      refine ev_done fun k => ?_
      simp only [impl_PathFault.j0]; rw [if_neg (by decide), if_pos (by rw [tl]; exact h47)]
    · rw [if_neg h47]
      by_cases h5 : 5 < (pieces s).length
      · rw [if_pos h5, show decide (((s.data.toList.count 47 : Nat) : Int) > 4) = true from decide_eq_true (by omega)]
        exact ev_done fun k => by simp only [impl_PathFault.j0]; exact if_pos trivial
      · rw [if_neg h5, show decide (((s.data.toList.count 47 : Nat) : Int) > 4) = false from decide_eq_false (by omega)]
        refine ev_step _ (fun k => by simp only [impl_PathFault.j0]; rw [if_neg (by simp), if_neg (by rw [tl]; exact h47)]) (ev_call (split_impl s (by omega)) ?_)
        unfold namesR
        rw [if_neg h47]
        by_cases h2 : (pieces s).length < 2
        · rw [if_pos h2, if_neg (by simp)]
          exact ev_cong (fun k => if_pos (by omega)) (ev_done fun k => by simp only [impl_PathFault.j1]; exact if_pos trivial)
        · rw [if_neg h2]
          refine ev_cong (fun k => (if_neg (by omega)).trans (if_pos (by omega))) ?_
          rw [head_bne]
          by_cases h3 : (headR s).data.toList = []
          · rw [if_pos h3]
            refine ev_step _ (fun k => by simp only [impl_PathFault.j1]; rw [if_neg (by simp [h3]), if_pos (by omega), Option.bind_some]) ?_
            have := fault_l0 ((pieces s).drop 1) (fun x hx => by have := pieces_size s x (List.mem_of_mem_drop hx); omega) (by rw [List.length_drop]; omega) ((pieces s).drop 1).length 0 (by omega)
            rw [List.drop_zero] at this
            by_cases h6 : ((pieces s).drop 1).all nameB = true
            · rw [if_pos h6] at this ⊢; exact this
            · rw [if_neg h6] at this ⊢; exact this
          · rw [if_neg h3, if_neg (by simp)]
            exact ev_done fun k => by simp only [impl_PathFault.j1]; exact if_pos (by simp [h3])
/-- What is known of a path that has no fault. -/
theorem fault_zero {s : ByteArray} (h : faultR s = 0) : s.size ≤ 24 ∧ (s.data.toList = [47] ∨ s.data.toList ≠ [47] ∧ namesR s = ((pieces s).drop 1, true) ∧ 0 < s.data.toList.count 47) := by
  unfold faultR at h
  by_cases h1 : 24 < s.size
  · rw [if_pos h1] at h; omega
  · rw [if_neg h1] at h
    refine ⟨by omega, ?_⟩
    by_cases h2 : s.data.toList = [47]
    · exact .inl h2
    · rw [if_neg h2] at h
      refine .inr ⟨h2, ?_⟩
      by_cases h5 : 5 < (pieces s).length
      · rw [if_pos h5] at h; omega
      · rw [if_neg h5] at h
        have pl := pieces_len s
        by_cases h6 : (namesR s).2 = true
        · have h7 := h6
          unfold namesR at h6 ⊢
          rw [if_neg h2] at h6 ⊢
          by_cases h8 : (pieces s).length < 2
          · rw [if_pos h8] at h6; cases h6
          · rw [if_neg h8] at h6 ⊢
            by_cases h9 : (headR s).data.toList = []
            · rw [if_pos h9] at h6 ⊢
              by_cases h10 : ((pieces s).drop 1).all nameB = true
              · rw [if_pos h10]; exact ⟨rfl, by omega⟩
              · rw [if_neg h10] at h6; cases h6
            · rw [if_neg h9] at h6; cases h6
        · rw [if_neg h6] at h; omega
end Go.Proofs.YtlfhpljeeedbdaaDoor.Pure

/- JoinPath: the program's answer is the reference's, for all two texts. No condition. -/
namespace Go.Proofs.YtlfhpljeeedbdaaDoor.Pure
open Go.RowKit Go.Proofs.YtlfhpljeeedbdaaDoor.Qb Go.Proofs.YtlfhpljeeedbdaaDoorW.PrintWords Go.Proofs.YtlfhpljeeedbdaaDoorW.PrintLast Go.Proofs.YtlfhpljeeedbdaaDoor.Aid
def joinR (s n : ByteArray) : ByteArray := if s.data.toList = [47] then s ++ n else (s ++ (⟨#[47]⟩ : ByteArray)) ++ n
def joinPathR (s n : ByteArray) : Int × ByteArray := if faultR s = 0 then (if nameB n = true then (if faultR (joinR s n) = 0 then (0, joinR s n) else (faultR (joinR s n), (⟨#[]⟩ : ByteArray))) else (5, (⟨#[]⟩ : ByteArray))) else (faultR s, (⟨#[]⟩ : ByteArray))
theorem cat_size (s n : ByteArray) : (s ++ n).size = s.size + n.size := ByteArray.size_append
theorem join_spec (s n : ByteArray) (hs : s.size ≤ 24) (hn : n.size ≤ 1048576) : spec_l1Join.f s n = some (joinR s n) := by
  unfold spec_l1Join.f joinR
  rw [tl, cat_size]
  have e1 : (⟨#[47]⟩ : ByteArray).size = 1 := rfl
  by_cases h : s.data.toList = [47]
  · have e : s = (⟨#[47]⟩ : ByteArray) := eq_mk h
    rw [if_pos h, if_pos h, if_pos (by omega), e]
  · rw [if_neg h, if_neg h, if_pos (by omega), if_pos (by omega)]
theorem join_impl (s n : ByteArray) (hs : s.size ≤ 24) (hn : n.size ≤ 1048576) : impl_joined.f s n = some (joinR s n) := by
  unfold impl_joined.f joinR
  rw [tl, cat_size]
  have e1 : (⟨#[47]⟩ : ByteArray).size = 1 := rfl
  by_cases h : s.data.toList = [47]
  · rw [if_pos h, if_pos h, if_pos (by omega)]
  · rw [if_neg h, if_neg h, if_pos (by omega), if_pos (by omega)]
theorem joinPath_spec (s n : ByteArray) (hn : n.size ≤ 1048576) : Ev (fun k => spec_JoinPath.f k s n) (joinPathR s n) := by
  unfold spec_JoinPath.f
  refine ev_call (fault_spec s) ?_
  by_cases h : faultR s = 0
  · refine ev_cong (fun k => if_pos h) (ev_call (name_spec n (by omega)) ?_)
    rw [join_spec s n (fault_zero h).1 hn]
    by_cases h2 : nameB n = true
    · refine ev_cong (fun k => if_pos h2) (ev_call (g := fun k => some (joinR s n)) (Ev.now _) (ev_call (fault_spec (joinR s n)) ?_))
      by_cases h3 : faultR (joinR s n) = 0
      · rw [show joinPathR s n = (0, joinR s n) by unfold joinPathR; rw [if_pos h, if_pos h2, if_pos h3]]; exact ev_is fun k => if_pos h3
      · rw [show joinPathR s n = (faultR (joinR s n), (⟨#[]⟩ : ByteArray)) by unfold joinPathR; rw [if_pos h, if_pos h2, if_neg h3]]; exact ev_is fun k => if_neg h3
    · rw [show joinPathR s n = (5, (⟨#[]⟩ : ByteArray)) by unfold joinPathR; rw [if_pos h, if_neg h2]]
      exact ev_is fun k => if_neg h2
  · rw [show joinPathR s n = (faultR s, (⟨#[]⟩ : ByteArray)) by unfold joinPathR; rw [if_neg h]]
    exact ev_is fun k => if_neg h
theorem joinPath_impl (s n : ByteArray) (hn : n.size ≤ 1048576) : Ev (fun k => impl_JoinPath.f k s n) (joinPathR s n) := by
  unfold impl_JoinPath.f
  refine ev_call (fault_impl s) ?_
  by_cases h : faultR s = 0
  · refine ev_cong (fun k => if_pos h) (ev_call (name_impl n (by omega)) ?_)
    rw [join_impl s n (fault_zero h).1 hn]
    by_cases h2 : nameB n = true
    · refine ev_cong (fun k => if_pos h2) (ev_call (g := fun k => some (joinR s n)) (Ev.now _) (ev_call (fault_impl (joinR s n)) ?_))
      by_cases h3 : faultR (joinR s n) = 0
      · rw [show joinPathR s n = (0, joinR s n) by unfold joinPathR; rw [if_pos h, if_pos h2, if_pos h3]]; exact ev_is fun k => if_pos h3
      · rw [show joinPathR s n = (faultR (joinR s n), (⟨#[]⟩ : ByteArray)) by unfold joinPathR; rw [if_pos h, if_pos h2, if_neg h3]]; exact ev_is fun k => if_neg h3
    · rw [show joinPathR s n = (5, (⟨#[]⟩ : ByteArray)) by unfold joinPathR; rw [if_pos h, if_neg h2]]
      exact ev_is fun k => if_neg h2
  · rw [show joinPathR s n = (faultR s, (⟨#[]⟩ : ByteArray)) by unfold joinPathR; rw [if_neg h]]
    exact ev_is fun k => if_neg h
end Go.Proofs.YtlfhpljeeedbdaaDoor.Pure

/- The draws of paths: they answer, whatever the code. -/
namespace Go.Proofs.YtlfhpljeeedbdaaDoor.Pure
open Go.RowKit Go.Proofs.YtlfhpljeeedbdaaDoor.Qb Go.Proofs.YtlfhpljeeedbdaaDoorW.PrintWords Go.Proofs.YtlfhpljeeedbdaaDoorW.PrintLast Go.Proofs.YtlfhpljeeedbdaaDoor.Aid
theorem next_is (c : List Int) (at_ n : Int) (hc : ∀ y ∈ c, 0 ≤ y ∧ y ≤ 255) (hl : c.length ≤ 1048576) (h0 : 0 ≤ at_) (h1 : at_ ≤ 1000) (n0 : 1 ≤ n) (n1 : n ≤ 10) : ∃ r : Int, spec_l1Next.f c at_ n = some (r, at_ + 1) ∧ 0 ≤ r ∧ r < n := by
  have w1 : wrap64 (at_ + 1) = at_ + 1 := wrap_id (by omega) (by omega)
  have w2 : wrap64 (at_ + 1 - 1) = at_ := by rw [wrap_id (by omega) (by omega)]; omega
  have a1 : ¬ n < 1 := by omega
  have a2 : ¬ n = 0 := by omega
  have a3 : ¬ n > 200 := by omega
  unfold spec_l1Next.f
  rw [if_neg a1, w1, w2]
  by_cases hk : (c.length : Int) = 0
  · have w3 : wrap64 (at_ * 7) = at_ * 7 := wrap_id (by omega) (by omega)
    rw [if_pos hk, if_neg a2, w3]
    exact ⟨_, rfl, Int.tmod_nonneg _ (by omega), Int.tmod_lt_of_pos _ (by omega)⟩
  · have hp : (0 : Int) < (c.length : Int) := by omega
    have t0 : 0 ≤ Int.tmod at_ (c.length : Int) := Int.tmod_nonneg _ h0
    have t1 : Int.tmod at_ (c.length : Int) < (c.length : Int) := Int.tmod_lt_of_pos _ hp
    have t2 : Int.tdiv at_ (c.length : Int) = at_ / (c.length : Int) := Int.tdiv_eq_ediv_of_nonneg h0
    have t3 : 0 ≤ at_ / (c.length : Int) := Int.ediv_nonneg h0 (by omega)
    have t4 : at_ / (c.length : Int) ≤ at_ := Int.ediv_le_self _ h0
    rw [if_neg hk, if_pos t0, if_pos t1, if_neg a3, if_neg a2, t2]
    obtain ⟨j, hj⟩ : ∃ j : Nat, Int.tmod at_ (c.length : Int) = (j : Int) := ⟨(Int.tmod at_ (c.length : Int)).toNat, by omega⟩
    rw [hj] at t1 ⊢
    have hjl : j < c.length := by omega
    rw [rd_at hjl]
    obtain ⟨b0, b1⟩ := hc c[j] (List.getElem_mem hjl)
    generalize c[j] = v at b0 b1 ⊢
    generalize at_ / (c.length : Int) = q at t3 t4 ⊢
    have w3 : wrap64 q = q := wrap_id (by omega) (by omega)
    have w4 : wrap64 (q * 37) = q * 37 := wrap_id (by omega) (by omega)
    have w5 : wrap64 v = v := wrap_id (by omega) (by omega)
    have w6 : wrap64 (v + q * 37) = v + q * 37 := wrap_id (by omega) (by omega)
    rw [w3, w4, w5, w6]
    exact ⟨_, rfl, Int.tmod_nonneg _ (by omega), Int.tmod_lt_of_pos _ (by omega)⟩
theorem pick_of (l : List ByteArray) (b : Nat) (hl : ∀ x ∈ l, x.size ≤ b) (r : Int) (h0 : 0 ≤ r) (h1 : r < (l.length : Int)) : (rdOf ByteArray.empty l r).size ≤ b := by
  obtain ⟨j, rfl⟩ : ∃ j : Nat, r = (j : Int) := ⟨r.toNat, by omega⟩
  rw [rdOf_at (by omega)]
  exact hl _ (List.getElem_mem _)
theorem draw_l0 (c : List Int) (hc : ∀ y ∈ c, 0 ≤ y ∧ y ≤ 255) (hl : c.length ≤ 1048576) (d : Nat) : ∀ (p : ByteArray) (at_ : Int), d ≤ 3 → p.size + 2 * d ≤ 20 → 0 ≤ at_ → at_ + d ≤ 500 → ∃ (p' : ByteArray) (a' : Int), Ev (fun k => spec_l1Draw.l0 k p (d : Int) c at_) (p', a') ∧ p'.size ≤ 20 ∧ 0 ≤ a' ∧ a' ≤ at_ + d := by
  induction d with
  | zero => exact fun p at_ _ hp h0 h1 => ⟨p, at_, ev_done fun k => by simp only [spec_l1Draw.l0]; rw [if_neg (by omega)], by omega, h0, by omega⟩
  | succ d ih =>
    intro p at_ hd hp h0 h1
    obtain ⟨r, hr, r0, r1⟩ := next_is c at_ 3 hc hl h0 (by omega) (by omega) (by omega)
    have hz : (rdOf ByteArray.empty [(⟨#[97]⟩ : ByteArray), (⟨#[98]⟩ : ByteArray), (⟨#[99]⟩ : ByteArray)] r).size ≤ 1 := pick_of _ 1 (by decide) r r0 (by simpa using r1)
    have hj := join_spec p _ (show p.size ≤ 24 by omega) (show (rdOf ByteArray.empty [(⟨#[97]⟩ : ByteArray), (⟨#[98]⟩ : ByteArray), (⟨#[99]⟩ : ByteArray)] r).size ≤ 1048576 by omega)
    have hs : (joinR p (rdOf ByteArray.empty [(⟨#[97]⟩ : ByteArray), (⟨#[98]⟩ : ByteArray), (⟨#[99]⟩ : ByteArray)] r)).size ≤ p.size + 2 := by
      have e1 : (⟨#[47]⟩ : ByteArray).size = 1 := rfl
      unfold joinR
      split
      · rw [cat_size]; omega
      · rw [cat_size, cat_size]; omega
    obtain ⟨p', a', h2, h3, h4, h5⟩ := ih _ (at_ + 1) (by omega) (show (joinR p (rdOf ByteArray.empty [(⟨#[97]⟩ : ByteArray), (⟨#[98]⟩ : ByteArray), (⟨#[99]⟩ : ByteArray)] r)).size + 2 * d ≤ 20 by omega) (by omega) (by omega)
    refine ⟨p', a', ev_step _ (fun k => ?_) h2, h3, h4, by omega⟩
    have wd : wrap64 (((d + 1 : Nat) : Int) - 1) = (d : Int) := by rw [wrap_id (by omega) (by omega)]; omega
    have q0 : ((d + 1 : Nat) : Int) > 0 := by omega
    have q1 : r < (([(⟨#[97]⟩ : ByteArray), (⟨#[98]⟩ : ByteArray), (⟨#[99]⟩ : ByteArray)] : List ByteArray).length : Int) := by simpa using r1
    simp only [spec_l1Draw.l0]
    rw [if_pos q0, Option.bind_some, hr, Option.bind_some, if_pos r0, if_pos q1, hj, Option.bind_some, wd]
theorem bent_ev (c : List Int) (hc : ∀ y ∈ c, 0 ≤ y ∧ y ≤ 255) (hl : c.length ≤ 1048576) (at_ : Int) (h0 : 0 ≤ at_) (h1 : at_ ≤ 100) : ∃ (p' : ByteArray) (a' : Int), Ev (fun k => spec_l1Bent.f k c at_) (p', a') ∧ p'.size ≤ 25 ∧ 0 ≤ a' ∧ a' ≤ at_ + 10 := by
  obtain ⟨r, hr, r0, r1⟩ := next_is c at_ 4 hc hl h0 (by omega) (by omega) (by omega)
  obtain ⟨d, rfl⟩ : ∃ d : Nat, r = (d : Int) := ⟨r.toNat, by omega⟩
  obtain ⟨p, a, h2, h3, h4, h5⟩ := draw_l0 c hc hl d (⟨#[47]⟩ : ByteArray) (at_ + 1) (by omega) (by have e1 : (⟨#[47]⟩ : ByteArray).size = 1 := rfl; omega) (by omega) (by omega)
  have hd : Ev (fun k => spec_l1Draw.f k c at_) (p, a) := by
    unfold spec_l1Draw.f
    refine ev_cong (fun k => by rw [hr, Option.bind_some]) h2
  obtain ⟨r2, hr2, s0, s1⟩ := next_is c a 10 hc hl h4 (by omega) (by omega) (by omega)
  obtain ⟨r3, hr3, u0, u1⟩ := next_is c (a + 1) 7 hc hl (by omega) (by omega) (by omega) (by omega)
  have e1 : (⟨#[47]⟩ : ByteArray).size = 1 := rfl
  unfold spec_l1Bent.f
  by_cases c0 : r2 = 0
  · refine ⟨p ++ (⟨#[47]⟩ : ByteArray), a + 1, ev_call hd (ev_is fun k => ?_), by rw [cat_size]; omega, by omega, by omega⟩
    dsimp only
    rw [hr2, Option.bind_some, if_pos c0, if_pos (by omega)]
  · by_cases c1 : r2 = 1
    · refine ⟨rdOf ByteArray.empty [(⟨#[]⟩ : ByteArray), (⟨#[97]⟩ : ByteArray), (⟨#[47, 47]⟩ : ByteArray), (⟨#[47, 65]⟩ : ByteArray), (⟨#[47, 97, 47, 98, 47, 99, 47, 100, 47, 101]⟩ : ByteArray), (⟨#[47, 97, 98, 99, 100, 101, 102, 103, 104, 105]⟩ : ByteArray), (⟨#[47, 97, 97, 97, 97, 97, 97, 97, 97, 47, 97, 97, 97, 97, 97, 97, 97, 97, 47, 97, 97, 97, 97, 97, 97]⟩ : ByteArray)] r3, a + 1 + 1, ev_call hd (ev_is fun k => ?_), pick_of _ 25 (by decide) r3 u0 ?_, by omega, by omega⟩
      · dsimp only
        rw [hr2, Option.bind_some, if_neg c0, if_pos c1, Option.bind_some, hr3, Option.bind_some, if_pos u0, if_pos (by simpa using u1)]
      · simpa using u1
    · refine ⟨p, a + 1, ev_call hd (ev_is fun k => ?_), by omega, by omega, by omega⟩
      dsimp only
      rw [hr2, Option.bind_some, if_neg c0, if_neg c1]
theorem drawJoin_ev (c : List Int) (hc : ∀ y ∈ c, 0 ≤ y ∧ y ≤ 255) (hl : c.length ≤ 1048576) : ∃ (p n : ByteArray), Ev (fun k => spec_DrawJoinPath.f k c) (p, n) ∧ n.size ≤ 10 := by
  obtain ⟨p, a, h1, h2, h3, h4⟩ := bent_ev c hc hl 0 (by omega) (by omega)
  obtain ⟨r, hr, r0, r1⟩ := next_is c a 8 hc hl h3 (by omega) (by omega) (by omega)
  obtain ⟨r2, hr2, s0, s1⟩ := next_is c (a + 1) 4 hc hl (by omega) (by omega) (by omega) (by omega)
  obtain ⟨r3, hr3, u0, u1⟩ := next_is c (a + 1) 5 hc hl (by omega) (by omega) (by omega) (by omega)
  unfold spec_DrawJoinPath.f spec_l1Source.f spec_l1Chance.f
  by_cases c0 : (r == 0) = true
  · refine ⟨p, rdOf ByteArray.empty [(⟨#[]⟩ : ByteArray), (⟨#[65]⟩ : ByteArray), (⟨#[97, 47, 98]⟩ : ByteArray), (⟨#[97, 98, 99, 100, 101, 102, 103, 104, 105]⟩ : ByteArray)] r2, ev_cong (fun k => by rw [Option.bind_some]) (ev_call h1 (ev_is fun k => ?_)), pick_of _ 10 (by decide) r2 s0 ?_⟩
    · dsimp only
      rw [hr, Option.bind_some, Option.bind_some, if_pos c0, Option.bind_some, hr2, Option.bind_some, if_pos s0, if_pos (by simpa using s1)]
    · simpa using s1
  · refine ⟨p, rdOf ByteArray.empty [(⟨#[97]⟩ : ByteArray), (⟨#[98]⟩ : ByteArray), (⟨#[99]⟩ : ByteArray), (⟨#[113, 49]⟩ : ByteArray), (⟨#[108, 111, 99, 107]⟩ : ByteArray)] r3, ev_cong (fun k => by rw [Option.bind_some]) (ev_call h1 (ev_is fun k => ?_)), pick_of _ 10 (by decide) r3 u0 ?_⟩
    · unfold spec_l1DrawName.f
      dsimp only
      rw [hr, Option.bind_some, Option.bind_some, if_neg c0, Option.bind_some, hr3, Option.bind_some, if_pos u0, if_pos (by simpa using u1), Option.bind_some]
    · simpa using u1
theorem drawUnder_ev (c : List Int) (hc : ∀ y ∈ c, 0 ≤ y ∧ y ≤ 255) (hl : c.length ≤ 1048576) : ∃ (p n : ByteArray), Ev (fun k => spec_DrawIsUnder.f k c) (p, n) := by
  obtain ⟨p, a, h1, h2, h3, h4⟩ := bent_ev c hc hl 0 (by omega) (by omega)
  obtain ⟨p2, a2, h5, _⟩ := bent_ev c hc hl a h3 (by omega)
  unfold spec_DrawIsUnder.f spec_l1Source.f
  refine ⟨p, p2, ?_⟩
  refine ev_cong (fun k => by rw [Option.bind_some]) ?_
  refine ev_call h1 ?_
  refine ev_call h5 ?_
  exact Ev.now _
end Go.Proofs.YtlfhpljeeedbdaaDoor.Pure

/- The last mark of a path: by the program (strings.LastIndex) where it is. -/
namespace Go.Proofs.YtlfhpljeeedbdaaDoor.Pure
open Go.RowKit Go.Proofs.YtlfhpljeeedbdaaDoor.Qb Go.Proofs.YtlfhpljeeedbdaaDoorW.PrintWords Go.Proofs.YtlfhpljeeedbdaaDoorW.PrintLast Go.Proofs.YtlfhpljeeedbdaaDoor.Aid
theorem ne_int {c : UInt8} (h : c ≠ 47) : ¬ ((c.toNat : Int) = 47) := fun e => h (by
  have e2 : c.toNat = 47 := by omega
  exact UInt8.toNat_inj.1 e2)
theorem last_impl_l0 (s : ByteArray) (hs : s.size ≤ 24) (p : Nat) (hp : p < s.data.toList.length) (h1 : s.data.toList[p] = 47) (h2 : ∀ (j : Nat) (hj : j < s.data.toList.length), p < j → s.data.toList[j] ≠ 47) (d : Nat) : p + d < s.data.toList.length → Ev (fun k => bytealg_LastIndexByteString.l0 k s 47 ((p + d : Nat) : Int)) (p : Int) := by
  have hl := size_list s
  induction d with
  | zero =>
    intro _
    have q0 : ((p + 0 : Nat) : Int) < (s.size : Int) := by omega
    have q1 : (0 : Int) ≤ ((p + 0 : Nat) : Int) := by omega
    refine ev_done fun k => ?_
    simp only [bytealg_LastIndexByteString.l0]; rw [if_pos q1, if_pos q1, if_pos q0, bt_at (show p + 0 < s.data.toList.length from hp), if_pos (by simp only [Nat.add_zero, h1]; rfl)]
    rfl
  | succ d ih =>
    intro hd
    have q0 : ((p + (d + 1) : Nat) : Int) < (s.size : Int) := by omega
    have q1 : (0 : Int) ≤ ((p + (d + 1) : Nat) : Int) := by omega
    have wi : wrap64 (((p + (d + 1) : Nat) : Int) - 1) = ((p + d : Nat) : Int) := by rw [wrap_id (by omega) (by omega)]; omega
    refine ev_step (fun k => bytealg_LastIndexByteString.l0 k s 47 ((p + d : Nat) : Int)) (fun k => ?_) (ih (by omega))
    simp only [bytealg_LastIndexByteString.l0]; rw [if_pos q1, if_pos q1, if_pos q0, bt_at hd, if_neg (ne_int (h2 _ hd (by omega))), wi]
theorem parted_at (s : ByteArray) (hs : s.size ≤ 24) (p : Nat) (hp : p < s.data.toList.length) (h1 : s.data.toList[p] = 47) (h2 : ∀ (j : Nat) (hj : j < s.data.toList.length), p < j → s.data.toList[j] ≠ 47) : Ev (fun k => impl_parted.f k s) (if p = 0 then (⟨#[47]⟩ : ByteArray) else s.extract 0 p, s.extract (p + 1) s.size) := by
  have hl := size_list s
  have h3 : Ev (fun k => strings_LastIndex.f k s (⟨#[47]⟩ : ByteArray)) (p : Int) := by
    have hd := last_impl_l0 s hs p hp h1 h2 (s.data.toList.length - 1 - p) (by omega)
    have e : wrap64 ((s.size : Int) - 1) = ((p + (s.data.toList.length - 1 - p) : Nat) : Int) := by rw [wrap_id (by omega) (by omega)]; omega
    have e1 : ((⟨#[47]⟩ : ByteArray).size : Int) = 1 := rfl
    have e2 : bt (⟨#[47]⟩ : ByteArray) 0 = 47 := rfl
    unfold strings_LastIndex.f
    rw [e1, e2]
    refine ev_cong (fun k => (if_neg (by omega)).trans ((if_pos rfl).trans (if_pos (by omega)))) (ev_call (a := (p : Int)) ?_ (Ev.now _))
    unfold bytealg_LastIndexByteString.f
    rw [e]
    exact hd
  have hz : s.extract 0 1 = mkB [s.data.toList[0]] := by
    rw [ext_mk]
    congr 1
    rw [show (1 : Nat) - 0 = 0 + 1 from rfl, List.drop_zero, List.take_succ_eq_append_getElem (by omega)]
    rfl
  unfold impl_parted.f
  refine ev_call h3 (ev_is fun k => ?_)
  have q3 : (0 : Int) ≤ ((p + 1 : Nat) : Int) := by omega
  have q4 : ((p + 1 : Nat) : Int) ≤ (s.size : Int) := by omega
  by_cases c : p = 0
  · subst c
    have m : mx ((0 : Nat) : Int) 1 = 1 := rfl
    have q5 : (1 : Int) ≤ (s.size : Int) := by omega
    have wi := w_up 0 (by omega)
    rw [m, if_pos (by omega), if_pos q5, wi, if_pos q3, if_pos q4, if_pos rfl, show ((1 : Int).toNat) = 1 from rfl, hz, h1, Int.toNat_natCast]
    rfl
  · have m : mx (p : Int) 1 = (p : Int) := by unfold mx; rw [if_neg (by omega)]
    have q5 : (p : Int) ≤ (s.size : Int) := by omega
    have wi := w_up p (by omega)
    rw [m, if_pos (by omega), if_pos q5, wi, if_pos q3, if_pos q4, if_neg c, Int.toNat_natCast, Int.toNat_natCast]
end Go.Proofs.YtlfhpljeeedbdaaDoor.Pure

/- DeepIn: the program's answer is the reference's, for every text. No condition. -/
namespace Go.Proofs.YtlfhpljeeedbdaaDoor.Pure
open Go.RowKit Go.Proofs.YtlfhpljeeedbdaaDoor.Qb Go.Proofs.YtlfhpljeeedbdaaDoorW.PrintWords Go.Proofs.YtlfhpljeeedbdaaDoorW.PrintLast Go.Proofs.YtlfhpljeeedbdaaDoor.Aid
def deepR (s : ByteArray) : Int × Int := if faultR s = 0 then (0, (((namesR s).1.length : Nat) : Int)) else (faultR s, 0)
theorem deep_impl (s : ByteArray) : Ev (fun k => impl_DeepIn.f k s) (deepR s) := by
  unfold impl_DeepIn.f
  refine ev_call (fault_impl s) ?_
  by_cases h : faultR s = 0
  · have e0 : deepR s = (0, (((namesR s).1.length : Nat) : Int)) := if_pos h
    rw [e0]
    refine ev_cong (fun k => if_pos h) ?_
    rcases (fault_zero h).2 with h2 | ⟨h2, h3, h4⟩
    · have e : (namesR s).1.length = 0 := by unfold namesR; rw [if_pos h2]; rfl
      rw [e]
      exact ev_is fun k => if_pos (by rw [tl]; exact h2)
    · have e : (namesR s).1.length = s.data.toList.count 47 := by
        rw [h3]
        show ((pieces s).drop 1).length = _
        rw [List.length_drop, pieces_len]
        omega
      have ct : strings_Count.f s (⟨#[47]⟩ : ByteArray) = some ((s.data.toList.count 47 : Nat) : Int) := if_pos rfl
      rw [e]
      exact ev_is fun k => by rw [if_neg (by rw [tl]; exact h2), ct]; rfl
  · have e0 : deepR s = (faultR s, 0) := if_neg h
    rw [e0]
    exact ev_is fun k => if_neg h
theorem deep_of {s : ByteArray} (h : faultR s = 0) : deepR s = (0, if s.data.toList = [47] then 0 else ((s.data.toList.count 47 : Nat) : Int)) := by
  have e0 : deepR s = (0, (((namesR s).1.length : Nat) : Int)) := if_pos h
  rw [e0]
  rcases (fault_zero h).2 with h2 | ⟨h2, h3, h4⟩
  · have e : (namesR s).1.length = 0 := by unfold namesR; rw [if_pos h2]; rfl
    rw [e, if_pos h2]
    rfl
  · have e : (namesR s).1.length = s.data.toList.count 47 := by
      rw [h3]
      show ((pieces s).drop 1).length = _
      rw [List.length_drop, pieces_len]
      omega
    rw [e, if_neg h2]
end Go.Proofs.YtlfhpljeeedbdaaDoor.Pure

/- IsUnder: the program's answer is the reference's, for all two texts. No condition. -/
namespace Go.Proofs.YtlfhpljeeedbdaaDoor.Pure
open Go.RowKit Go.Proofs.YtlfhpljeeedbdaaDoor.Qb Go.Proofs.YtlfhpljeeedbdaaDoorW.PrintWords Go.Proofs.YtlfhpljeeedbdaaDoorW.PrintLast Go.Proofs.YtlfhpljeeedbdaaDoor.Aid
def underR (s t : ByteArray) : Bool := if s.data.toList = t.data.toList then true else if t.data.toList = [47] then true else decide (s.data.toList.take (t.data.toList.length + 1) = t.data.toList ++ [47])
theorem front_list (s : ByteArray) (n : Nat) : (s.extract 0 n).toList = s.data.toList.take n := by rw [tl, ext_list]; rfl
theorem beq_dec (a b : List UInt8) : (a == b) = decide (a = b) := by
  by_cases h : a = b
  · subst h; simp
  · rw [decide_eq_false h]; exact beq_false_of_ne h
theorem under_spec (s t : ByteArray) : spec_l1Under.f s t = some (underR s t) := by
  have hs := size_list s
  have ht := size_list t
  unfold spec_l1Under.f underR
  rw [tl, tl]
  by_cases h1 : s.data.toList = t.data.toList
  · rw [if_pos h1, if_pos h1]
  · rw [if_neg h1, if_neg h1]
    by_cases h2 : t.data.toList = [47]
    · rw [if_pos h2, if_pos h2]
    · rw [if_neg h2, if_neg h2]
      by_cases h3 : (s.size : Int) > (t.size : Int)
      · have hlt : t.data.toList.length < s.data.toList.length := by omega
        rw [if_pos h3, if_pos (by omega), if_pos (by omega), Int.toNat_natCast, front_list, List.take_succ_eq_append_getElem hlt]
        rw [ht]
        by_cases h4 : s.data.toList.take t.data.toList.length = t.data.toList
        · rw [if_pos h4, if_pos (by omega), bt_at hlt, h4]
          congr 1
          by_cases h5 : s.data.toList[t.data.toList.length] = 47
          · rw [h5]; simp
          · have h6 : ¬ (((s.data.toList[t.data.toList.length]).toNat : Int) = 47) := fun e => h5 (by
              have e2 : (s.data.toList[t.data.toList.length]).toNat = 47 := by omega
              exact UInt8.toNat_inj.1 e2)
            rw [decide_eq_false (fun e => h5 (List.cons.inj (List.append_cancel_left e)).1)]
            exact beq_false_of_ne h6
        · rw [if_neg h4]
          have ne : ¬ (s.data.toList.take t.data.toList.length ++ [s.data.toList[t.data.toList.length]] = t.data.toList ++ [47]) := fun e => h4 (List.append_inj' e (by simp)).1
          exact congrArg some (decide_eq_false ne).symm
      · rw [if_neg h3, decide_eq_false (fun e => by
          have := congrArg List.length e
          rw [List.length_take, List.length_append] at this
          simp at this
          omega)]
theorem cat_list (t : ByteArray) : (t ++ (⟨#[47]⟩ : ByteArray)).data.toList = t.data.toList ++ [47] := by
  rw [ByteArray.data_append, Array.toList_append]
theorem prefix_impl (s t : ByteArray) : strings_HasPrefix.f s (t ++ (⟨#[47]⟩ : ByteArray)) = some (decide (s.data.toList.take (t.data.toList.length + 1) = t.data.toList ++ [47])) := by
  have hs := size_list s
  have ht := size_list t
  have hc := cat_list t
  have hz : (t ++ (⟨#[47]⟩ : ByteArray)).size = t.data.toList.length + 1 := by rw [size_list, hc]; simp
  unfold strings_HasPrefix.f stringslite_HasPrefix.f
  rw [hz]
  by_cases h : (s.size : Int) ≥ ((t.data.toList.length + 1 : Nat) : Int)
  · rw [if_pos h, if_pos (by omega), if_pos (by omega), Int.toNat_natCast, front_list, tl, hc, beq_dec]
    rfl
  · rw [if_neg h, decide_eq_false (fun e => by
      have := congrArg List.length e
      rw [List.length_take, List.length_append] at this
      simp at this
      omega)]
    rfl
def isUnderR (s t : ByteArray) : Bool := if faultR s = 0 then (if faultR t = 0 then underR s t else false) else false
theorem isUnder_spec (s t : ByteArray) : Ev (fun k => spec_IsUnder.f k s t) (isUnderR s t) := by
  unfold spec_IsUnder.f
  refine ev_call (fault_spec s) ?_
  by_cases h : faultR s = 0
  · have e : isUnderR s t = (if faultR t = 0 then underR s t else false) := if_pos h
    rw [e]
    refine ev_cong (fun k => if_pos h) (ev_call (fault_spec t) ?_)
    by_cases h' : faultR t = 0
    · have e' : (if faultR t = 0 then underR s t else false) = underR s t := if_pos h'
      rw [e']
      exact ev_is fun k => by rw [if_pos h', under_spec]; rfl
    · have e' : (if faultR t = 0 then underR s t else false) = false := if_neg h'
      rw [e']
      exact ev_is fun k => if_neg h'
  · have e : isUnderR s t = false := if_neg h
    rw [e]
    exact ev_is fun k => if_neg h
theorem isUnder_impl (s t : ByteArray) : Ev (fun k => impl_IsUnder.f k s t) (isUnderR s t) := by
  unfold impl_IsUnder.f
  refine ev_call (fault_impl s) ?_
  by_cases h : faultR s = 0
  · have e : isUnderR s t = (if faultR t = 0 then underR s t else false) := if_pos h
    rw [e]
    refine ev_cong (fun k => if_pos h) (ev_call (fault_impl t) ?_)
    by_cases h' : faultR t = 0
    · have e' : (if faultR t = 0 then underR s t else false) = underR s t := if_pos h'
      rw [e']
      have hz := (fault_zero h').1
      unfold underR
      refine ev_is fun k => ?_
      rw [if_pos h', tl, tl, prefix_impl]
      by_cases h1 : s.data.toList = t.data.toList
      · rw [if_pos h1, if_pos h1]
      · rw [if_neg h1, if_neg h1]
        by_cases h2 : t.data.toList = [47]
        · rw [if_pos h2, if_pos h2]
        · rw [if_neg h2, if_neg h2, if_pos (by omega)]; rfl
    · have e' : (if faultR t = 0 then underR s t else false) = false := if_neg h'
      rw [e']
      exact ev_is fun k => if_neg h'
  · have e : isUnderR s t = false := if_neg h
    rw [e]
    exact ev_is fun k => if_neg h
end Go.Proofs.YtlfhpljeeedbdaaDoor.Pure

/- FnPaths: what is joined is its parent and its last name, and lies under what it was joined to: for every code. No condition. -/
namespace Go.Proofs.YtlfhpljeeedbdaaDoor.Pure
open Go.RowKit Go.Proofs.YtlfhpljeeedbdaaDoor.Qb Go.Proofs.YtlfhpljeeedbdaaDoorW.PrintWords Go.Proofs.YtlfhpljeeedbdaaDoorW.PrintLast Go.Proofs.YtlfhpljeeedbdaaDoor.Aid
theorem ok_ne {c : UInt8} (h : okU c = true) : c ≠ 47 := fun e => by
  subst e
  have : okU 47 = false := by decide
  rw [this] at h
  cases h
/-- A joined path, by its signs. -/
def frontL (s : ByteArray) : List UInt8 := if s.data.toList = [47] then [] else s.data.toList
theorem join_list (s n : ByteArray) : (joinR s n).data.toList = frontL s ++ 47 :: n.data.toList := by
  unfold joinR frontL
  by_cases h : s.data.toList = [47]
  · rw [if_pos h, if_pos h, ByteArray.data_append, Array.toList_append, h]
    rfl
  · rw [if_neg h, if_neg h, ByteArray.data_append, Array.toList_append, cat_list, List.append_assoc]
    rfl
theorem top_fault : faultR (⟨#[47]⟩ : ByteArray) = 0 := by
  unfold faultR
  rw [if_neg (by decide), if_pos rfl]
theorem FnPaths (l0 : List Int) (h : l0.length ≤ 9223372036854775807 ∧ ∀ y_ ∈ l0, (Lit.int .u8 y_).wf = true) : ∃ k, laws_FnPaths.f k l0 = some true := by
  refine Ev.rounds ?_
  have hc : ∀ y ∈ l0, 0 ≤ y ∧ y ≤ 255 := fun y hy => by
    have h' : (decide (IntKind.u8.min ≤ y) && decide (y ≤ IntKind.u8.max)) = true := h.2 y hy
    simp only [Bool.and_eq_true, decide_eq_true_eq] at h'
    exact h'
  unfold laws_FnPaths.f laws_lwBig.f
  by_cases hb : (l0.length : Int) > 1048576
  · exact ev_is fun k => by rw [Option.bind_some, if_pos (decide_eq_true hb)]
  · refine ev_cong (fun k => by rw [Option.bind_some, if_neg (by simpa using hb)]) ?_
    have hl : l0.length ≤ 1048576 := by omega
    obtain ⟨p, n, h1, hn⟩ := drawJoin_ev l0 hc hl
    refine ev_step _ (fun k => by simp only [laws_FnPaths.j0]; rfl) ?_
    refine ev_call h1 (ev_call (joinPath_impl p n (by omega)) ?_)
    by_cases g : (joinPathR p n).1 = 0
    · refine ev_cong (fun k => if_pos g) ?_
      have hf : faultR p = 0 := by
        by_cases hf : faultR p = 0
        · exact hf
        · rw [show joinPathR p n = (faultR p, (⟨#[]⟩ : ByteArray)) by unfold joinPathR; rw [if_neg hf]] at g
          exact absurd g hf
      have hnm : nameB n = true := by
        by_cases hnm : nameB n = true
        · exact hnm
        · rw [show joinPathR p n = (5, (⟨#[]⟩ : ByteArray)) by unfold joinPathR; rw [if_pos hf, if_neg hnm]] at g
          exact absurd g (by decide)
      have hfo : faultR (joinR p n) = 0 := by
        by_cases hfo : faultR (joinR p n) = 0
        · exact hfo
        · rw [show joinPathR p n = (faultR (joinR p n), (⟨#[]⟩ : ByteArray)) by unfold joinPathR; rw [if_pos hf, if_pos hnm, if_neg hfo]] at g
          exact absurd g hfo
      rw [show joinPathR p n = (0, joinR p n) by unfold joinPathR; rw [if_pos hf, if_pos hnm, if_pos hfo]]
      obtain ⟨a, b, h2⟩ := drawUnder_ev l0 hc hl
      refine ev_step _ (fun k => by simp only [laws_FnPaths.j1]; rfl) ?_
      refine ev_call h2 (ev_call (isUnder_impl a b) (ev_call (isUnder_spec a b) (ev_cong (fun k => if_neg (by simp)) ?_)))
      -- the joined path
      have hj := join_list p n
      have hso := (fault_zero hfo).1
      have hzo := size_list (joinR p n)
      have hzn := size_list n
      have hzp := size_list p
      have hnb := hnm
      unfold nameB at hnb
      rw [Bool.and_eq_true, decide_eq_true_eq, List.all_eq_true] at hnb
      obtain ⟨hall, hn1, hn8⟩ := hnb
      have hlen : (joinR p n).data.toList.length = (frontL p).length + 1 + n.data.toList.length := by rw [hj]; simp; omega
      have hne : (joinR p n).data.toList ≠ [47] := fun e => by
        have := congrArg List.length e
        rw [hlen] at this
        simp at this
        omega
      have hcn : n.data.toList.count 47 = 0 := List.count_eq_zero.2 (fun hm => ok_ne (hall _ hm) rfl)
      have hco : (joinR p n).data.toList.count 47 = (frontL p).count 47 + 1 := by rw [hj, List.count_append, List.count_cons_self, hcn]
      have hpos : (frontL p).length < (joinR p n).data.toList.length := by omega
      have hat : (joinR p n).data.toList[(frontL p).length] = 47 := by simp [hj]
      have hbe : ∀ (j : Nat) (hj : j < (joinR p n).data.toList.length), (frontL p).length < j → (joinR p n).data.toList[j] ≠ 47 := by
        intro j hjl hlt
        have e : (joinR p n).data.toList[j] = n.data.toList[j - (frontL p).length - 1]'(by omega) := by
          simp only [hj]
          rw [List.getElem_append_right (by omega), List.getElem_cons]
          rw [dif_neg (by omega)]
        rw [e]
        exact ok_ne (hall _ (List.getElem_mem _))
      have hpt := parted_at (joinR p n) hso (frontL p).length hpos hat hbe
      have hnx : (joinR p n).extract ((frontL p).length + 1) (joinR p n).size = n := by
        rw [ext_mk, hj, List.take_of_length_le (by rw [List.length_drop, ← hj]; omega)]
        have : (frontL p ++ 47 :: n.data.toList).drop ((frontL p).length + 1) = n.data.toList := by simp
        rw [this]
        rfl
      have hux : (if (frontL p).length = 0 then (⟨#[47]⟩ : ByteArray) else (joinR p n).extract 0 (frontL p).length) = p := by
        by_cases h47 : p.data.toList = [47]
        · rw [if_pos (by unfold frontL; rw [if_pos h47]; rfl)]
          exact (eq_mk h47).symm
        · have hfr : frontL p = p.data.toList := if_neg h47
          have hp0 : 0 < p.data.toList.length := by
            rcases (fault_zero hf).2 with h2 | ⟨_, _, h4⟩
            · exact absurd h2 h47
            · exact Nat.lt_of_lt_of_le h4 List.count_le_length
          rw [if_neg (by rw [hfr]; omega), ext_mk, hj, hfr]
          have : ((p.data.toList ++ 47 :: n.data.toList).drop 0).take (p.data.toList.length - 0) = p.data.toList := by simp
          rw [this]
          rfl
      rw [hnx, hux] at hpt
      have hup : Ev (fun k => impl_ParentOf.f k (joinR p n)) (0, p) := by
        unfold impl_ParentOf.f
        exact ev_call (fault_impl _) (ev_cong (fun k => (if_pos hfo).trans (if_neg (by rw [tl]; exact hne))) (ev_call hpt (Ev.now _)))
      have hnn : Ev (fun k => impl_NameIn.f k (joinR p n)) (0, n) := by
        unfold impl_NameIn.f
        exact ev_call (fault_impl _) (ev_cong (fun k => (if_pos hfo).trans (if_neg (by rw [tl]; exact hne))) (ev_call hpt (Ev.now _)))
      have u1 : isUnderR (joinR p n) p = true := by
        unfold isUnderR underR
        rw [if_pos hfo, if_pos hf]
        by_cases e1 : (joinR p n).data.toList = p.data.toList
        · rw [if_pos e1]
        · rw [if_neg e1]
          by_cases e2 : p.data.toList = [47]
          · rw [if_pos e2]
          · rw [if_neg e2]
            have hfr : frontL p = p.data.toList := if_neg e2
            refine decide_eq_true ?_
            rw [hj, hfr, show p.data.toList ++ 47 :: n.data.toList = (p.data.toList ++ [47]) ++ n.data.toList by rw [List.append_assoc]; rfl]
            exact List.take_left' (by rw [List.length_append]; rfl)
      have hlp : p.data.toList.length < (joinR p n).data.toList.length := by
        rw [hlen]
        by_cases e2 : p.data.toList = [47]
        · rw [e2]; simp; omega
        · have hfr : frontL p = p.data.toList := if_neg e2
          rw [hfr]; omega
      have u2 : isUnderR p (joinR p n) = false := by
        unfold isUnderR underR
        rw [if_pos hf, if_pos hfo, if_neg (fun e => by rw [e] at hlp; omega), if_neg hne]
        refine decide_eq_false (fun e => ?_)
        have := congrArg List.length e
        rw [List.length_take, List.length_append] at this
        simp at this
        omega
      have u3 : isUnderR (joinR p n) (⟨#[47]⟩ : ByteArray) = true := by
        unfold isUnderR underR
        rw [if_pos hfo, if_pos top_fault, if_neg hne, if_pos rfl]
      have d1 := deep_of hfo
      have d2 := deep_of hf
      rw [if_neg hne] at d1
      have dd : (deepR (joinR p n)).2 = wrap64 ((deepR p).2 + 1) := by
        rw [d1, d2]
        have hcl : p.data.toList.count 47 ≤ p.data.toList.length := List.count_le_length
        have hps := (fault_zero hf).1
        by_cases e2 : p.data.toList = [47]
        · rw [if_pos e2, hco]
          have hfr : frontL p = [] := if_pos e2
          have wi := w_up 0 (by omega)
          rw [hfr, List.count_nil]
          exact wi.symm
        · have hfr : frontL p = p.data.toList := if_neg e2
          have wi := w_up (p.data.toList.count 47) (by omega)
          rw [if_neg e2, hco, hfr, wi]
      refine ev_step _ (fun k => by simp only [laws_FnPaths.j2]; rfl) ?_
      refine ev_call hup (ev_call hnn (ev_call (fault_impl _) (ev_cong (fun k => (if_pos hfo).trans ((if_pos rfl).trans ((if_pos rfl).trans (if_pos rfl)))) ?_)))
      refine ev_call (isUnder_impl _ _) (ev_cong (fun k => if_pos u1) (ev_call (isUnder_impl _ _) (ev_cong (fun k => if_neg (by rw [u2]; simp)) ?_)))
      refine ev_call (isUnder_impl _ _) (ev_cong (fun k => if_pos u3) (ev_call (deep_impl _) (ev_call (deep_impl _) (ev_is fun k => ?_))))
      rw [dd]
      simp
    · exact ev_cong (fun k => if_neg g) (ev_call (joinPath_spec p n (by omega)) (ev_is fun k => by simp))
end Go.Proofs.YtlfhpljeeedbdaaDoor.Pure

/- For every input the law loop.example/g00369/laws.FnPaths returns true, and every argument reads behind the call as it read before. No condition. -/
namespace Go.Proofs.YtlfhpljeeedbdaaDoor.fnPaths
open Go.ChangeShapes Go.WideShapes Go.ChangeAt Go.RowKit Go.Proofs.YtlfhpljeeedbdaaDoor.Qb Go.Proofs.YtlfhpljeeedbdaaDoor.Tro Go.Proofs.YtlfhpljeeedbdaaDoorW.PrintWords
open Go.ChangeMaps (open_string shut_string)
set_option linter.unusedVariables false
set_option linter.unusedSimpArgs false
theorem own : ownKnob Tryd.prog.godebug = none := by kernel_rfl
theorem laidOut : laidOutB Tryd.prog = true := by kernel_rfl
set_option maxRecDepth 100000 in
theorem lifted (os : Os) (started : os.Started) (H : Type) (enc : TypeId × Value → H) :
    ReturnsInHanded {} Tryd.checked os 8 .any (fun w args => (Rows.fnPathsSpec.pre enc Tryd.prog Tryd.f8 [] false w args ∧ laidMetH Tryd.prog Rows.fnPathsRow.laid w) ∧ sizedMet enc Tryd.prog Tryd.f8 (OpenSpec.ofChange Rows.fnPathsSpec) false w args) (Rows.fnPathsSpec.post enc Tryd.prog Tryd.f8 false true false false) := by
  refine returnsInHanded_of_change_and (C := Tryd.checked) (X := fun w _ => laidMetH Tryd.prog Rows.fnPathsRow.laid w) (fun _ _ _ hh h => h.of_heap hh) own started (by kernel_rfl) Tryd.func8
    (ChangeSpec.witness_shaped (enc := enc) (C := Tryd.checked) (os := os) (X := fun w _ => laidMetH Tryd.prog Rows.fnPathsRow.laid w) false (World.laidAll Tryd.prog os Rows.fnPathsRow.laid) #[.slice none 0 0] 8 (World.laidAll_os _ _ _)
      (World.shaped_of_ZipB (by kernel_rfl) (by kernel_rfl)) (by kernel_rfl) (by kernel_rfl) (by kernel_rfl)
      (by rw [MakeChecks.laidMetH_plain _ _ _ (by kernel_rfl)]; exact laidMet_laidAll _ (by kernel_rfl) (by kernel_rfl))) ?_
  intro W base args ds gs before hval0 hW _ _ hL _
  have hval : ∀ (j : Nat) t v, Tryd.f8.params[j]? = some t → args[j]? = some v → Value.okWide Tryd.prog W .any base t v := hval0
  have hW' := hW
  obtain ⟨p, q, hA0, hV, rfl, hfz, hnd⟩ := hW
  have hA : DataW.TrodAll enc Tryd.prog W 0 (fun _ => true) true Tryd.f8.params.toList args.toList ds p := hA0
  rw [Tryd.params8] at hA hval
  obtain ⟨v0, vs0, d0, ds0, p0, q0, hargs, rfl, rfl, h0, r0⟩ := trodAll_cons hA
  obtain ⟨rfl, rfl, rfl⟩ := trodAll_nil r0
  obtain rfl : args = #[v0] := by cases args; simp_all
  obtain ⟨rfl, rfl⟩ := trodVars_none hV
  have k0 := h0
  have lt0 : ∀ x ∈ p0, x.block < W.heap.size := by obtain ⟨m, hm⟩ := k0; exact DataW.trod_lt m _ _ _ hm
  obtain ⟨a0, len0, cap0, rfl⟩ := okWide_slice Tryd.underlying33 (hval 0 33 v0 rfl rfl)
  obtain ⟨fuel0, hf0⟩ := h0
  obtain ⟨l0, hK0, hg0⟩ := (tr_slice Tryd.underlying33 (by kernel_rfl) (tr_int Tryd.underlying5)) enc W _ _ _ hf0
  obtain ⟨A0, c0, hcs0, hl0, hC0⟩ := hK0
  simp only [Value.cells, List.cons.injEq, Value.slice.injEq, and_true] at hcs0
  obtain ⟨rfl, rfl, rfl⟩ := hcs0
  obtain ⟨k, hk⟩ := Pure.FnPaths l0 hg0
  refine (laws_FnPaths.calls k _ _ l0 true W hC0 hl0 hk).mono fun e W' hE => ?_
  obtain ⟨he, hd⟩ := hE
  have bel : Below W.heap.size W W' := hd
  subst he
  exact ⟨_, rfl, _, _, _, [], _, [], hW', trodAll_mk1 (shut_bool Tryd.underlying4 _), (trodAll_cons_mk (Below.trod laidOut (by kernel_rfl) (of_decide_eq_true (by kernel_rfl)) k0 bel lt0) trodAll_mk0), rfl, bel.frame _, fun h => by cases h⟩
theorem over : Rows.fnPathsRow.holds Tryd.pinned (OpenSpec.ofChange Rows.fnPathsSpec) :=
  OpenClaim.holds_of_wide 8 Tryd.f8 rfl rfl rfl rfl rfl rfl rfl ⟨rfl, rfl, rfl, rfl, rfl⟩ rfl rfl rfl rfl rfl (by kernel_rfl) Tryd.func8 (by kernel_rfl)
    (of_decide_eq_true (by kernel_rfl)) (by unfold Func.isWrapper; first | (rw [if_pos (by decide +kernel)]; kernel_rfl) | (rw [if_neg (by decide +kernel)]; exact ⟨rfl, rfl⟩))
    (fun os started H enc _ => lifted os started H enc)
theorem proved : Rows.FnPathsCardSaid :=
  Claim7.holds_tied_plain_at .later [] [.data, .pinned] true (true, "9fa0d62fc799f098ea874e34acb53ff7ccc8894fa20a38f0b1fc25b4f989824a") false over (fun _ h => by cases h) (by kernel_rfl) (fun _ h => by cases h) fnPaths_row_tie rfl ⟨rfl, rfl⟩ (by kernel_rfl) rfl
    (fun f fn hf hfn => by
      obtain rfl : f = 8 := Option.some.inj ((show Tryd.prog.funcNamed "loop.example/g00369/laws.FnPaths" = some 8 by kernel_rfl).symm.trans hf) |>.symm
      obtain rfl : fn = Tryd.f8 := (Option.some.inj (Tryd.func8.symm.trans hfn)).symm
      exact ⟨by kernel_rfl, fun j t ht => by
        rw [Tryd.params8] at ht
        have hm : t ∈ [33] := by simpa using Array.mem_of_getElem? ht
        have hall : ([33].all fun u => !Tryd.prog.wantsStandIn u) = true := by kernel_rfl
        exact (show Tryd.prog.wantsStandIn t = false by simpa using List.all_eq_true.1 hall t hm)⟩)
    (by kernel_rfl)
#print axioms proved
end Go.Proofs.YtlfhpljeeedbdaaDoor.fnPaths
namespace Go.Proofs.YtlfhpljeeedbdaaDoor
/-- The row, under a short name, for the claim. -/
theorem fnPaths_holds : Rows.FnPathsCardSaid := fnPaths.proved
end Go.Proofs.YtlfhpljeeedbdaaDoor
