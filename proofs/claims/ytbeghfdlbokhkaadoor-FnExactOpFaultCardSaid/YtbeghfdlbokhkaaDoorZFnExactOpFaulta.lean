/- For every input the law FnExactOpFault returns true, and every argument reads behind the call as it read before: no condition. Here: the last part, the theorem in it. -/
import Derived.Test.YtbeghfdlbokhkaaDoorQcx18
import Derived.Test.YtbeghfdlbokhkaaDoorQcx2
import Derived.Test.YtbeghfdlbokhkaaDoorAid
import Derived.Test.YtbeghfdlbokhkaaDoorQcx22
import Derived.Test.YtbeghfdlbokhkaaDoorQcx7
import Derived.Test.YtbeghfdlbokhkaaDoorQcx15
import Derived.Test.YtbeghfdlbokhkaaDoorQcx19
import Derived.Test.YtbeghfdlbokhkaaDoorQcx20
import Derived.Test.YtbeghfdlbokhkaaDoorQcx21
import Derived.Test.YtbeghfdlbokhkaaDoorQcx6
import Derived.Test.YtbeghfdlbokhkaaDoorQcx23
import Derived.Test.YtbeghfdlbokhkaaDoorQcx8
import Derived.Test.YtbeghfdlbokhkaaDoorQcx9
import Derived.Test.YtbeghfdlbokhkaaDoorQcx10
import Derived.Test.YtbeghfdlbokhkaaDoorQcx11
import Derived.Test.YtbeghfdlbokhkaaDoorQcx14
import Derived.Test.YtbeghfdlbokhkaaDoorQcx17
import Derived.Test.YtbeghfdlbokhkaaDoorQcx24
import Derived.Test.YtbeghfdlbokhkaaDoorQcx25
import Derived.Test.YtbeghfdlbokhkaaDoorQcx3
import Derived.Test.YtbeghfdlbokhkaaDoorQcx4
import Derived.Test.YtbeghfdlbokhkaaDoorQcx5
import Derived.Test.YtbeghfdlbokhkaaDoorQcx1
import Derived.Test.YtbeghfdlbokhkaaDoorQcx12
import Derived.Test.YtbeghfdlbokhkaaDoorQcx13
import Derived.Test.YtbeghfdlbokhkaaDoorQcx26
import Derived.Test.YtbeghfdlbokhkaaDoorQcxr
import Derived.Test.YtbeghfdlbokhkaaDoorCards
import Derived.Test.YtbeghfdlbokhkaaDoorTie
import Derived.WalkKit
import Derived.ProofKit
import Derived.OpenShut
import Derived.ShutString
import Derived.ChangeOld
import Derived.Below
import Derived.SizedLaws
import Derived.Lay
import Derived.LaidOnce
import Derived.SevenTiedAt
/- A number within bounds, by the program and by the reference. -/
namespace Go.Proofs.YtbeghfdlbokhkaaDoor.Pure
open Go.RowKit Go.Proofs.YtbeghfdlbokhkaaDoor.Qc Go.Proofs.YtbeghfdlbokhkaaDoorW.PrintWords Go.Proofs.YtbeghfdlbokhkaaDoorW.PrintLast Go.Proofs.YtbeghfdlbokhkaaDoor.Aid
theorem spec_l1In_is (a lo hi : Int) : spec_l1In.f a lo hi = some (decide (lo ≤ a ∧ a ≤ hi)) := by
  unfold spec_l1In.f
  by_cases h : lo ≤ a
  · rw [if_pos h]; simp [h]
  · rw [if_neg h]; simp [h]
theorem impl_within_is (a lo hi : Int) : impl_within.f a lo hi = some (decide (lo ≤ a ∧ a ≤ hi)) := by
  unfold impl_within.f
  by_cases h : lo ≤ a
  · rw [if_pos h]; simp [h]
  · rw [if_neg h]; simp [h]
end Go.Proofs.YtbeghfdlbokhkaaDoor.Pure

/- Names: what is one, by the program and by the reference: the same, for every text. -/
namespace Go.Proofs.YtbeghfdlbokhkaaDoor.Pure
open Go.RowKit Go.Proofs.YtbeghfdlbokhkaaDoor.Qc Go.Proofs.YtbeghfdlbokhkaaDoorW.PrintWords Go.Proofs.YtbeghfdlbokhkaaDoorW.PrintLast Go.Proofs.YtbeghfdlbokhkaaDoor.Aid

theorem bt_at {s : ByteArray} {i : Nat} (h : i < s.data.toList.length) : bt s (i : Int) = ((s.data.toList[i]).toNat : Int) := by
  have h' : (i : Int).toNat < s.size := by rw [Int.toNat_natCast]; exact h
  unfold bt
  rw [dif_pos h']
  rfl
theorem size_list (s : ByteArray) : s.size = s.data.toList.length := rfl
/-- A sign of a name. -/
def okU (c : UInt8) : Bool := (decide (97 ≤ c.toNat) && decide (c.toNat ≤ 122)) || (decide (48 ≤ c.toNat) && decide (c.toNat ≤ 57))
def nameB (s : ByteArray) : Bool := s.data.toList.all okU && decide (1 ≤ (s.size : Int) ∧ (s.size : Int) ≤ 8)
theorem okU_true {c : UInt8} (h : okU c = true) : (97 ≤ (c.toNat : Int) ∧ (c.toNat : Int) ≤ 122) ∨ (48 ≤ (c.toNat : Int) ∧ (c.toNat : Int) ≤ 57) := by
  unfold okU at h
  simp only [Bool.or_eq_true, Bool.and_eq_true, decide_eq_true_eq] at h
  omega
theorem okU_false {c : UInt8} (h : okU c = false) : ¬ ((97 ≤ (c.toNat : Int) ∧ (c.toNat : Int) ≤ 122) ∨ (48 ≤ (c.toNat : Int) ∧ (c.toNat : Int) ≤ 57)) := by
  intro g
  have : okU c = true := by
    unfold okU
    simp only [Bool.or_eq_true, Bool.and_eq_true, decide_eq_true_eq]
    omega
  rw [h] at this
  cases this
theorem name_spec_l0 (s : ByteArray) (hl : s.size ≤ 4611686018427387904) (d : Nat) : ∀ (i : Nat), i + d = s.size → Ev (fun k => spec_l1Name.l0 k s (i : Int)) ((s.data.toList.drop i).all okU && decide (1 ≤ (s.size : Int) ∧ (s.size : Int) ≤ 8)) := by
  have hs := size_list s
  induction d with
  | zero =>
    intro i h
    rw [drop_end (by omega)]
    exact ev_done fun k => by simp only [spec_l1Name.l0]; rw [if_neg (by omega), spec_l1In_is]; rfl
  | succ d ih =>
    intro i h
    have hi : i < s.data.toList.length := by omega
    rw [drop_at hi, List.all_cons]
    cases c : okU s.data.toList[i] with
    | true =>
      have hc := okU_true c
      rw [Bool.true_and]
      refine ev_step (fun k => spec_l1Name.l0 k s ((i + 1 : Nat) : Int)) (fun k => ?_) (ih (i + 1) (by omega))
      simp only [spec_l1Name.l0]; rw [if_pos (by omega), if_pos (by omega), bt_at hi, wrap_up hi (by omega)]
      by_cases h1 : ((s.data.toList[i]).toNat : Int) < 97
      · rw [if_pos h1, if_neg (by omega), if_neg (by omega)]
      · rw [if_neg h1, if_neg (by omega)]
    | false =>
      have hc := okU_false c
      rw [Bool.false_and, Bool.false_and]
      refine ev_done fun k => ?_
      simp only [spec_l1Name.l0]; rw [if_pos (by omega), if_pos (by omega), bt_at hi]
      by_cases h1 : ((s.data.toList[i]).toNat : Int) < 97
      · rw [if_pos h1]
        by_cases h2 : ((s.data.toList[i]).toNat : Int) < 48
        · rw [if_pos h2]
        · rw [if_neg h2, if_pos (by omega)]
      · rw [if_neg h1, if_pos (by omega), if_neg (by omega), if_pos (by omega)]
theorem name_spec (s : ByteArray) (hl : s.size ≤ 4611686018427387904) : Ev (fun k => spec_l1Name.f k s) (nameB s) := by
  have h := name_spec_l0 s hl s.size 0 (by omega)
  rw [List.drop_zero] at h
  exact h
theorem name_impl_l0 (s : ByteArray) (hl : s.size ≤ 4611686018427387904) (d : Nat) : ∀ (i : Nat), i + d = s.size → Ev (fun k => impl_isName.l0 k s (s.size : Int) (i : Int)) ((s.data.toList.drop i).all okU && decide (1 ≤ (s.size : Int) ∧ (s.size : Int) ≤ 8)) := by
  have hs := size_list s
  induction d with
  | zero =>
    intro i h
    rw [drop_end (by omega)]
    exact ev_done fun k => by simp only [impl_isName.l0]; rw [if_neg (by omega), impl_within_is]; rfl
  | succ d ih =>
    intro i h
    have hi : i < s.data.toList.length := by omega
    rw [drop_at hi, List.all_cons]
    cases c : okU s.data.toList[i] with
    | true =>
      have hc := okU_true c
      rw [Bool.true_and]
      refine ev_step (fun k => impl_isName.l0 k s (s.size : Int) ((i + 1 : Nat) : Int)) (fun k => ?_) (ih (i + 1) (by omega))
      simp only [impl_isName.l0]; rw [if_pos (by omega), if_pos (by omega), if_pos (by omega), bt_at hi, wrap_up hi (by omega)]
      by_cases h1 : ((s.data.toList[i]).toNat : Int) < 97
      · rw [if_pos h1, if_neg (by omega), if_neg (by omega)]
      · rw [if_neg h1, if_neg (by omega)]
    | false =>
      have hc := okU_false c
      rw [Bool.false_and, Bool.false_and]
      refine ev_done fun k => ?_
      simp only [impl_isName.l0]; rw [if_pos (by omega), if_pos (by omega), if_pos (by omega), bt_at hi]
      by_cases h1 : ((s.data.toList[i]).toNat : Int) < 97
      · rw [if_pos h1]
        by_cases h2 : ((s.data.toList[i]).toNat : Int) < 48
        · rw [if_pos h2]
        · rw [if_neg h2, if_pos (by omega)]
      · rw [if_neg h1, if_pos (by omega), if_neg (by omega), if_pos (by omega)]
theorem name_impl (s : ByteArray) (hl : s.size ≤ 4611686018427387904) : Ev (fun k => impl_isName.f k s) (nameB s) := by
  have h := name_impl_l0 s hl s.size 0 (by omega)
  rw [List.drop_zero] at h
  exact h
end Go.Proofs.YtbeghfdlbokhkaaDoor.Pure

/- Paths: a text cut at the marks, by the program (strings.Split) and by the reference: the same; what is wrong with a path: the same, for every text. -/
namespace Go.Proofs.YtbeghfdlbokhkaaDoor.Pure
open Go.RowKit Go.Proofs.YtbeghfdlbokhkaaDoor.Qc Go.Proofs.YtbeghfdlbokhkaaDoorW.PrintWords Go.Proofs.YtbeghfdlbokhkaaDoorW.PrintLast Go.Proofs.YtbeghfdlbokhkaaDoor.Aid

def mkB (l : List UInt8) : ByteArray := ⟨⟨l⟩⟩
theorem eq_mk {t : ByteArray} {l : List UInt8} (h : t.data.toList = l) : t = mkB l := by subst h; rfl
theorem ext_list (s : ByteArray) (a b : Nat) : (s.extract a b).data.toList = (s.data.toList.drop a).take (b - a) := by
  rw [ByteArray.data_extract, Array.toList_extract]
theorem ext_mk (s : ByteArray) (a b : Nat) : s.extract a b = mkB ((s.data.toList.drop a).take (b - a)) := eq_mk (ext_list s a b)
theorem tl (s : ByteArray) : s.toList = s.data.toList := ByteArray.toList_eq s
/-- The pieces of a text between the marks; what stands ahead goes into the first one. -/
def splF : List UInt8 → List UInt8 → List (List UInt8)
  | P, [] => [P]
  | P, c :: l => if c = 47 then P :: splF [] l else splF (P ++ [c]) l
theorem splF_len (l : List UInt8) : ∀ P, (splF P l).length = l.count 47 + 1 := by
  induction l with
  | nil => intro P; rfl
  | cons c l ih =>
    intro P
    unfold splF
    by_cases h : c = 47
    · rw [if_pos h, List.length_cons, ih, h, List.count_cons_self]
    · rw [if_neg h, ih, List.count_cons_of_ne (by simpa using h)]
theorem splF_none (l : List UInt8) : ∀ P, l.count 47 = 0 → splF P l = [P ++ l] := by
  induction l with
  | nil => intro P _; simp [splF]
  | cons c l ih =>
    intro P h
    have hc : c ≠ 47 := fun e => by rw [e, List.count_cons_self] at h; omega
    rw [List.count_cons_of_ne (by simpa using hc)] at h
    unfold splF
    rw [if_neg hc, ih _ h, List.append_assoc]
    rfl
theorem splF_some (l : List UInt8) (h : 0 < l.count 47) : ∃ p, p < l.length ∧ Lib.indexByte l 47 = (p : Int) ∧ (∀ P, splF P l = (P ++ l.take p) :: splF [] (l.drop (p + 1))) ∧ (l.drop (p + 1)).count 47 + 1 = l.count 47 := by
  induction l with
  | nil => simp at h
  | cons c l ih =>
    by_cases hc : c = 47
    · subst hc
      refine ⟨0, by simp, by unfold Lib.indexByte; rfl, fun P => ?_, by simp⟩
      rw [show splF P (47 :: l) = P :: splF [] l from if_pos rfl]
      simp
    · rw [List.count_cons_of_ne (by simpa using hc)] at h ⊢
      obtain ⟨p, h1, h2, h3, h4⟩ := ih h
      refine ⟨p + 1, by simpa using h1, ?_, fun P => ?_, by simpa using h4⟩
      · unfold Lib.indexByte
        rw [if_neg (by simpa using hc), h2, if_neg (by simp)]
        omega
      · rw [show splF P (c :: l) = splF (P ++ [c]) l from if_neg hc, h3]
        simp
/-- The reference's cut. -/
theorem cut_l0 (s : ByteArray) (hs : s.size ≤ 4398046511104) (d : Nat) : ∀ (i f : Nat) (out : List ByteArray), i + d = s.size → f ≤ i → out.length ≤ i → Ev (fun k => spec_l1Cut.l0 k s 47 out (f : Int) (i : Int)) (out ++ (splF ((s.data.toList.drop f).take (i - f)) (s.data.toList.drop i)).map mkB) := by
  have hl := size_list s
  have fin : ∀ (n f : Nat) (out : List ByteArray), s.size < n → Ev (fun k => spec_l1Cut.l0 k s 47 out (f : Int) (n : Int)) out := fun n f out hn => ev_done fun k => by simp only [spec_l1Cut.l0]; rw [if_neg (by omega)]
  induction d with
  | zero =>
    intro i f out h hf ho
    have e : s.data.toList.drop i = [] := drop_end (by omega)
    rw [e]
    have hx := ext_mk s f i
    refine ev_step (fun k => spec_l1Cut.l0 k s 47 (out ++ [s.extract f i]) ((i + 1 : Nat) : Int) ((i + 1 : Nat) : Int)) (fun k => ?_) ?_
    · simp only [spec_l1Cut.l0]; rw [if_pos (by omega), if_pos (by omega), if_pos (by omega), if_pos (by omega), if_pos (by omega), wrap_id (by omega) (by omega)]; rfl
    · rw [hx]
      exact fin _ _ _ (by omega)
  | succ d ih =>
    intro i f out h hf ho
    have hi : i < s.data.toList.length := by omega
    rw [drop_at hi]
    by_cases c : s.data.toList[i] = 47
    · rw [splF, if_pos c]
      have IH := ih (i + 1) (i + 1) (out ++ [s.extract f i]) (by omega) (by omega) (by simp; omega)
      rw [Nat.sub_self, List.take_zero] at IH
      have e : out ++ (((s.data.toList.drop f).take (i - f)) :: splF [] (s.data.toList.drop (i + 1))).map mkB = (out ++ [s.extract f i]) ++ (splF [] (s.data.toList.drop (i + 1))).map mkB := by rw [ext_mk, List.map_cons, List.append_assoc]; rfl
      rw [e]
      refine ev_step (fun k => spec_l1Cut.l0 k s 47 (out ++ [s.extract f i]) ((i + 1 : Nat) : Int) ((i + 1 : Nat) : Int)) (fun k => ?_) IH
      simp only [spec_l1Cut.l0]; rw [if_pos (by omega), if_neg (by omega), if_pos (by omega), if_pos (by omega), bt_at hi, c, if_pos (show ((UInt8.toNat 47 : Nat) : Int) = 47 from rfl), if_pos (by omega), if_pos (by omega), if_pos (by omega), wrap_up hi (by omega)]; rfl
    · rw [splF, if_neg c]
      have e : (s.data.toList.drop f).take (i - f) ++ [s.data.toList[i]] = (s.data.toList.drop f).take (i + 1 - f) := by
        rw [show i + 1 - f = (i - f) + 1 by omega, List.take_succ_eq_append_getElem (by rw [List.length_drop]; omega)]
        congr 2
        rw [List.getElem_drop]
        congr 1
        omega
      rw [e]
      refine ev_step (fun k => spec_l1Cut.l0 k s 47 out (f : Int) ((i + 1 : Nat) : Int)) (fun k => ?_) (ih (i + 1) f out (by omega) (by omega) (by omega))
      have hne : ¬ (((s.data.toList[i]).toNat : Int) = 47) := fun e => c (by
        have e2 : (s.data.toList[i]).toNat = 47 := by omega
        exact UInt8.toNat_inj.1 e2)
      simp only [spec_l1Cut.l0]; rw [if_pos (by omega), if_neg (by omega), if_pos (by omega), if_pos (by omega), bt_at hi, if_neg hne, wrap_up hi (by omega)]
def pieces (s : ByteArray) : List ByteArray := (splF [] s.data.toList).map mkB
theorem pieces_len (s : ByteArray) : (pieces s).length = s.data.toList.count 47 + 1 := by unfold pieces; rw [List.length_map, splF_len]
theorem cut_spec (s : ByteArray) (hs : s.size ≤ 4398046511104) : Ev (fun k => spec_l1Cut.f k s 47) (pieces s) := by
  have h := cut_l0 s hs s.size 0 0 [] (by omega) (by omega) (by simp)
  rw [List.nil_append, Nat.sub_self, List.take_zero, List.drop_zero] at h
  exact h
theorem w_up (p : Nat) (h : p ≤ 4611686018427387904) : wrap64 ((p : Int) + 1) = ((p + 1 : Nat) : Int) := by rw [wrap_id (by omega) (by omega)]; omega
theorem w_one (p : Nat) (h : p ≤ 4611686018427387904) : wrap64 ((p : Int) + ((⟨#[47]⟩ : ByteArray).size : Int)) = ((p + 1 : Nat) : Int) := w_up p h
theorem w_zero (p : Nat) (h : p ≤ 4611686018427387904) : wrap64 ((p : Int) + 0) = (p : Int) := by rw [Int.add_zero]; exact wrap_id (by omega) (by omega)
/-- The program's cut. -/
theorem split_l0 (n : Nat) (hn : n ≤ 4398046511104) (d : Nat) : ∀ (i : Nat) (x : ByteArray) (a : List ByteArray), x.data.toList.count 47 = d → i + d = n → a.length = n + 1 → x.size ≤ 4398046511104 → Ev (fun k => strings_genSplit.l0 k x (⟨#[47]⟩ : ByteArray) 0 (n : Int) a (i : Int)) (a.take i ++ (splF [] x.data.toList).map mkB) := by
  have ix : ∀ x : ByteArray, strings_Index.f x (⟨#[47]⟩ : ByteArray) = some (Lib.indexByte x.data.toList 47) := fun x => if_pos rfl
  induction d with
  | zero =>
    intro i x a hc h ha hx
    have e : a.take i ++ (splF [] x.data.toList).map mkB = (a.set i x).take (i + 1) := by
      rw [splF_none _ _ hc, take_set_snoc (by omega)]
      rfl
    rw [e]
    refine ev_done fun k => ?_
    have q0 : ¬ ((i : Int) < (n : Int)) := by omega
    have q1 : (0 : Int) ≤ (i : Int) := by omega
    have q2 : (i : Int) < (a.length : Int) := by omega
    have q3 : (0 : Int) ≤ ((i + 1 : Nat) : Int) := by omega
    have q4 : ((i + 1 : Nat) : Int) ≤ (a.length : Int) := by omega
    have wi := w_up i (by omega)
    simp only [strings_genSplit.l0, wi, q0, q1, q2, q3, q4, if_true, if_false, Int.toNat_natCast]
  | succ d ih =>
    intro i x a hc h ha hx
    obtain ⟨p, h1, h2, h3, h4⟩ := splF_some x.data.toList (by omega)
    have hl := size_list x
    have e1 : x.extract 0 p = mkB (x.data.toList.take p) := by rw [ext_mk]; rfl
    have e2 : (x.extract (p + 1) x.size).data.toList = x.data.toList.drop (p + 1) := by rw [ext_list, List.take_of_length_le (by rw [List.length_drop]; omega)]
    have IH := ih (i + 1) (x.extract (p + 1) x.size) (a.set i (x.extract 0 p)) (by rw [e2]; omega) (by omega) (by rw [List.length_set]; exact ha) (by rw [size_list, e2, List.length_drop]; omega)
    have e : a.take i ++ (splF [] x.data.toList).map mkB = (a.set i (x.extract 0 p)).take (i + 1) ++ (splF [] (x.extract (p + 1) x.size).data.toList).map mkB := by
      rw [e2, h3, take_set_snoc (by omega), List.append_assoc, e1]
      rfl
    rw [e]
    refine ev_step (fun k => strings_genSplit.l0 k (x.extract (p + 1) x.size) (⟨#[47]⟩ : ByteArray) 0 (n : Int) (a.set i (x.extract 0 p)) ((i + 1 : Nat) : Int)) (fun k => ?_) IH
    have q0 : (i : Int) < (n : Int) := by omega
    have q1 : (0 : Int) ≤ (i : Int) := by omega
    have q2 : (i : Int) < (a.length : Int) := by omega
    have q3 : (0 : Int) ≤ ((p + 1 : Nat) : Int) := by omega
    have q4 : ((p + 1 : Nat) : Int) ≤ (x.size : Int) := by omega
    have q5 : (0 : Int) ≤ (p : Int) := by omega
    have q6 : (p : Int) ≤ (x.size : Int) := by omega
    have q7 : ¬ ((p : Int) < 0) := by omega
    have hp_ : p ≤ 4611686018427387904 := by omega
    have hi_ : i ≤ 4611686018427387904 := by omega
    have wi := w_up i hi_
    have w1 := w_one p hp_
    have w0 := w_zero p hp_
    simp only [strings_genSplit.l0]
    rw [if_pos q0, ix, Option.bind_some, h2, if_neg q7, w0, if_pos q5, if_pos q6, if_pos q1, if_pos q2, w1, if_pos q3, if_pos q4, wi, Int.toNat_natCast, Int.toNat_natCast, Int.toNat_natCast]
theorem split_impl (s : ByteArray) (hs : s.size ≤ 1099511627776) : Ev (fun k => strings_Split.f k s (⟨#[47]⟩ : ByteArray)) (pieces s) := by
  have hl := size_list s
  have hle : s.data.toList.count 47 ≤ s.size := by rw [hl]; exact List.count_le_length
  have h := split_l0 (s.data.toList.count 47) (by omega) (s.data.toList.count 47) 0 s (List.replicate (s.data.toList.count 47 + 1) (⟨#[]⟩ : ByteArray)) rfl (by omega) (by simp) (by omega)
  have ct : strings_Count.f s (⟨#[47]⟩ : ByteArray) = some ((s.data.toList.count 47 : Nat) : Int) := if_pos rfl
  have en : wrap64 (((s.data.toList.count 47 : Nat) : Int) + 1) = ((s.data.toList.count 47 + 1 : Nat) : Int) := by rw [wrap_id (by omega) (by omega)]; omega
  have hm : mn ((s.data.toList.count 47 + 1 : Nat) : Int) (wrap64 ((s.size : Int) + 1)) = ((s.data.toList.count 47 + 1 : Nat) : Int) := by
    rw [wrap_id (by omega) (by omega)]
    unfold mn
    by_cases h : (s.size : Int) + 1 < ((s.data.toList.count 47 + 1 : Nat) : Int)
    · omega
    · rw [if_neg h]
  have hm1 : wrap64 (((s.data.toList.count 47 + 1 : Nat) : Int) - 1) = ((s.data.toList.count 47 : Nat) : Int) := by rw [wrap_id (by omega) (by omega)]; omega
  rw [List.take_zero, List.nil_append] at h
  unfold strings_Split.f
  refine ev_call (a := pieces s) ?_ (Ev.now _)
  unfold strings_genSplit.f
  refine ev_cong (fun k => (if_neg (by omega)).trans ((if_neg (by rw [tl]; simp)).trans (if_pos (by omega)))) ?_
  simp only [ct, Option.bind_some, en]
  refine ev_step _ (fun k => ?_) h
  simp only [strings_genSplit.j0]; rw [hm, if_pos (by omega), if_pos (by omega), hm1, Int.toNat_natCast]; rfl
end Go.Proofs.YtbeghfdlbokhkaaDoor.Pure

/- What is wrong with a path: by the program and by the reference the same, for every text. -/
namespace Go.Proofs.YtbeghfdlbokhkaaDoor.Pure
open Go.RowKit Go.Proofs.YtbeghfdlbokhkaaDoor.Qc Go.Proofs.YtbeghfdlbokhkaaDoorW.PrintWords Go.Proofs.YtbeghfdlbokhkaaDoorW.PrintLast Go.Proofs.YtbeghfdlbokhkaaDoor.Aid

theorem splF_size (l : List UInt8) : ∀ P, ∀ x ∈ splF P l, x.length ≤ P.length + l.length := by
  induction l with
  | nil => intro P x hx; rw [splF, List.mem_singleton] at hx; subst hx; omega
  | cons c l ih =>
    intro P x hx
    unfold splF at hx
    by_cases h : c = 47
    · rw [if_pos h] at hx
      rcases List.mem_cons.1 hx with rfl | hx
      · omega
      · have := ih [] x hx; simp at this ⊢; omega
    · rw [if_neg h] at hx
      have := ih _ x hx
      simp at this ⊢
      omega
theorem pieces_size (s : ByteArray) : ∀ x ∈ pieces s, x.size ≤ s.size := by
  intro x hx
  obtain ⟨l, hl, rfl⟩ := List.mem_map.1 hx
  have := splF_size s.data.toList [] l hl
  have e : (mkB l).size = l.length := rfl
  rw [List.length_nil] at this
  rw [e, size_list s]
  omega
def headR (s : ByteArray) : ByteArray := rdOf ByteArray.empty (pieces s) 0
def namesR (s : ByteArray) : List ByteArray × Bool :=
  if s.data.toList = [47] then ([], true) else if (pieces s).length < 2 then ([], false) else if (headR s).data.toList = [] then (if ((pieces s).drop 1).all nameB = true then ((pieces s).drop 1, true) else ([], false)) else ([], false)
def faultR (s : ByteArray) : Int :=
  if 24 < s.size then 2 else if s.data.toList = [47] then 0 else if 5 < (pieces s).length then 2 else if (namesR s).2 = true then 0 else 5
theorem head_bne (s : ByteArray) : ((rdOf ByteArray.empty (pieces s) 0).toList != ([] : List UInt8)) = !decide ((headR s).data.toList = []) := by
  unfold headR
  rw [tl]
  by_cases h : (rdOf ByteArray.empty (pieces s) 0).data.toList = []
  · rw [h]; rfl
  · rw [decide_eq_false h]
    exact bne_iff_ne.2 h
theorem fault_l0 (W : List ByteArray) (hW : ∀ x ∈ W, x.size ≤ 1048576) (hl : W.length ≤ 1048576) (d : Nat) : ∀ (i : Nat), i + d = W.length → Ev (fun k => impl_PathFault.l0 k W (W.length : Int) (i : Int)) (if (W.drop i).all nameB = true then 0 else 5) := by
  induction d with
  | zero =>
    intro i h
    rw [drop_end (by omega)]
    exact ev_done fun k => by simp only [impl_PathFault.l0]; rw [if_neg (by omega)]; rfl
  | succ d ih =>
    intro i h
    have hi : i < W.length := by omega
    have hx := hW W[i] (List.getElem_mem hi)
    rw [drop_at hi, List.all_cons]
    refine ev_step _ (fun k => by simp only [impl_PathFault.l0]; rw [if_pos (by omega), if_pos (by omega), if_pos (by omega), rdOf_at hi, wrap_up hi (by omega)]) (ev_call (name_impl W[i] (by omega)) ?_)
    cases c : nameB W[i] with
    | true => exact ev_cong (fun k => if_pos rfl) (by rw [Bool.true_and]; exact ih (i + 1) (by omega))
    | false => exact ev_is fun k => if_neg (by simp)
theorem names_l0 (W : List ByteArray) (hW : ∀ x ∈ W, x.size ≤ 1048576) (hl : W.length ≤ 1048576) (h1 : 1 ≤ W.length) (d : Nat) : ∀ (i : Nat), i + d = W.length → Ev (fun k => spec_l1Names.l0 k W (i : Int)) (if (W.drop i).all nameB = true then (W.drop 1, true) else ([], false)) := by
  induction d with
  | zero =>
    intro i h
    rw [drop_end (by omega)]
    exact ev_done fun k => by simp only [spec_l1Names.l0]; rw [if_neg (by omega), if_pos (by omega)]; rfl
  | succ d ih =>
    intro i h
    have hi : i < W.length := by omega
    have hx := hW W[i] (List.getElem_mem hi)
    rw [drop_at hi, List.all_cons]
    refine ev_step _ (fun k => by simp only [spec_l1Names.l0]; rw [if_pos (by omega), if_pos (by omega), rdOf_at hi, wrap_up hi (by omega)]) (ev_call (name_spec W[i] (by omega)) ?_)
    cases c : nameB W[i] with
    | true => exact ev_cong (fun k => if_pos rfl) (by rw [Bool.true_and]; exact ih (i + 1) (by omega))
    | false => exact ev_is fun k => if_neg (by simp)
theorem pieces_le (s : ByteArray) : (pieces s).length ≤ s.size + 1 := by
  have : s.data.toList.count 47 ≤ s.data.toList.length := List.count_le_length
  rw [pieces_len, size_list]
  omega
theorem names_spec (s : ByteArray) (hs : s.size ≤ 24) : Ev (fun k => spec_l1Names.f k s) (namesR s) := by
  have hl := pieces_le s
  unfold spec_l1Names.f namesR
  by_cases h : s.data.toList = [47]
  · rw [if_pos h]
    exact ev_is fun k => if_pos (by rw [tl]; exact h)
  · rw [if_neg h]
    refine ev_cong (fun k => if_neg (by rw [tl]; exact h)) (ev_call (cut_spec s (by omega)) ?_)
    by_cases h2 : (pieces s).length < 2
    · rw [if_pos h2]
      exact ev_cong (fun k => if_pos (by omega)) (ev_done fun k => by simp only [spec_l1Names.j0]; exact if_pos trivial)
    · rw [if_neg h2]
      refine ev_cong (fun k => (if_neg (by omega)).trans (if_pos (by omega))) ?_
      rw [head_bne]
      by_cases h3 : (headR s).data.toList = []
      · rw [if_pos h3]
        refine ev_step _ (fun k => by simp only [spec_l1Names.j0]; rw [if_neg (by simp [h3])]) ?_
        exact names_l0 (pieces s) (fun x hx => by have := pieces_size s x hx; omega) (by omega) (by omega) ((pieces s).length - 1) 1 (by omega)
      · rw [if_neg h3]
        exact ev_done fun k => by simp only [spec_l1Names.j0]; exact if_pos (by simp [h3])
theorem fault_spec (s : ByteArray) : Ev (fun k => spec_l1Fault.f k s) (faultR s) := by
  unfold spec_l1Fault.f faultR
  by_cases h : 24 < s.size
  · rw [if_pos h]
    exact ev_cong (fun k => if_pos (by omega)) (ev_done fun k => by simp only [spec_l1Fault.j0]; exact if_pos trivial)
  · rw [if_neg h]
    have tail : Ev (fun k => spec_l1Fault.j0 k s false) (if (namesR s).2 = true then 0 else 5) := by
      refine ev_step _ (fun k => by simp only [spec_l1Fault.j0]; rw [if_neg (by simp)]) (ev_call (names_spec s (by omega)) ?_)
      exact ev_is fun k => by by_cases h4 : (namesR s).2 = true <;> simp [h4]
    refine ev_cong (fun k => if_neg (by omega)) ?_
    by_cases h47 : s.data.toList = [47]
    · rw [if_pos h47]
      refine ev_cong (fun k => if_pos (by rw [tl]; exact h47)) ?_
      have e : (namesR s).2 = true := by unfold namesR; rw [if_pos h47]
      rw [if_pos e] at tail
      exact tail
    · rw [if_neg h47]
      refine ev_cong (fun k => if_neg (by rw [tl]; exact h47)) (ev_call (cut_spec s (by omega)) ?_)
      by_cases h5 : 5 < (pieces s).length
      · rw [if_pos h5, show decide (((pieces s).length : Int) > 5) = true from decide_eq_true (by omega)]
        exact ev_done fun k => by simp only [spec_l1Fault.j0]; exact if_pos trivial
      · rw [if_neg h5, show decide (((pieces s).length : Int) > 5) = false from decide_eq_false (by omega)]
        exact tail
theorem fault_impl (s : ByteArray) : Ev (fun k => impl_PathFault.f k s) (faultR s) := by
  unfold impl_PathFault.f faultR
  by_cases h : 24 < s.size
  · rw [if_pos h]
    exact ev_cong (fun k => if_pos (by omega)) (ev_done fun k => by simp only [impl_PathFault.j0]; exact if_pos trivial)
  · rw [if_neg h]
    have ct : strings_Count.f s (⟨#[47]⟩ : ByteArray) = some ((s.data.toList.count 47 : Nat) : Int) := if_pos rfl
    have pl := pieces_len s
    have hl := pieces_le s
    refine ev_cong (fun k => (if_neg (by omega)).trans (by rw [ct, Option.bind_some])) ?_
    by_cases h47 : s.data.toList = [47]
    · rw [if_pos h47, h47]
      refine ev_done fun k => ?_
      simp only [impl_PathFault.j0]; rw [if_neg (by decide), if_pos (by rw [tl]; exact h47)]
    · rw [if_neg h47]
      by_cases h5 : 5 < (pieces s).length
      · rw [if_pos h5, show decide (((s.data.toList.count 47 : Nat) : Int) > 4) = true from decide_eq_true (by omega)]
        exact ev_done fun k => by simp only [impl_PathFault.j0]; exact if_pos trivial
      · rw [if_neg h5, show decide (((s.data.toList.count 47 : Nat) : Int) > 4) = false from decide_eq_false (by omega)]
        refine ev_step _ (fun k => by simp only [impl_PathFault.j0]; rw [if_neg (by simp), if_neg (by rw [tl]; exact h47)]) (ev_call (split_impl s (by omega)) ?_)
        unfold namesR
        rw [if_neg h47]
        by_cases h2 : (pieces s).length < 2
        · rw [if_pos h2, if_neg (by simp)]
          exact ev_cong (fun k => if_pos (by omega)) (ev_done fun k => by simp only [impl_PathFault.j1]; exact if_pos trivial)
        · rw [if_neg h2]
          refine ev_cong (fun k => (if_neg (by omega)).trans (if_pos (by omega))) ?_
          rw [head_bne]
          by_cases h3 : (headR s).data.toList = []
          · rw [if_pos h3]
            refine ev_step _ (fun k => by simp only [impl_PathFault.j1]; rw [if_neg (by simp [h3]), if_pos (by omega), Option.bind_some]) ?_
            have := fault_l0 ((pieces s).drop 1) (fun x hx => by have := pieces_size s x (List.mem_of_mem_drop hx); omega) (by rw [List.length_drop]; omega) ((pieces s).drop 1).length 0 (by omega)
            rw [List.drop_zero] at this
            by_cases h6 : ((pieces s).drop 1).all nameB = true
            · rw [if_pos h6] at this ⊢; exact this
            · rw [if_neg h6] at this ⊢; exact this
          · rw [if_neg h3, if_neg (by simp)]
            exact ev_done fun k => by simp only [impl_PathFault.j1]; exact if_pos (by simp [h3])
/-- What is known of a path that has no fault. -/
theorem fault_zero {s : ByteArray} (h : faultR s = 0) : s.size ≤ 24 ∧ (s.data.toList = [47] ∨ s.data.toList ≠ [47] ∧ namesR s = ((pieces s).drop 1, true) ∧ 0 < s.data.toList.count 47) := by
  unfold faultR at h
  by_cases h1 : 24 < s.size
  · rw [if_pos h1] at h; omega
  · rw [if_neg h1] at h
    refine ⟨by omega, ?_⟩
    by_cases h2 : s.data.toList = [47]
    · exact .inl h2
    · rw [if_neg h2] at h
      refine .inr ⟨h2, ?_⟩
      by_cases h5 : 5 < (pieces s).length
      · rw [if_pos h5] at h; omega
      · rw [if_neg h5] at h
        have pl := pieces_len s
        by_cases h6 : (namesR s).2 = true
        · have h7 := h6
          unfold namesR at h6 ⊢
          rw [if_neg h2] at h6 ⊢
          by_cases h8 : (pieces s).length < 2
          · rw [if_pos h8] at h6; cases h6
          · rw [if_neg h8] at h6 ⊢
            by_cases h9 : (headR s).data.toList = []
            · rw [if_pos h9] at h6 ⊢
              by_cases h10 : ((pieces s).drop 1).all nameB = true
              · rw [if_pos h10]; exact ⟨rfl, by omega⟩
              · rw [if_neg h10] at h6; cases h6
            · rw [if_neg h9] at h6; cases h6
        · rw [if_neg h6] at h; omega
end Go.Proofs.YtbeghfdlbokhkaaDoor.Pure

/- What is wrong with an operation: by the program and by the reference the same. -/
namespace Go.Proofs.YtbeghfdlbokhkaaDoor.Pure
open Go.RowKit Go.Proofs.YtbeghfdlbokhkaaDoor.Qc Go.Proofs.YtbeghfdlbokhkaaDoorW.PrintWords Go.Proofs.YtbeghfdlbokhkaaDoorW.PrintLast Go.Proofs.YtbeghfdlbokhkaaDoor.Aid
theorem st_no {α : Type} {b : Bool} {c : Prop} [Decidable c] {X J : α} : (if b = true then (if c then X else J) else X) = if (b && !decide c) = true then J else X := by
  cases b <;> by_cases h : c <;> simp [h]
theorem st_in {α : Type} {b s : Bool} {X J : α} : (if b = true then (if s = true then J else X) else X) = if (b && s) = true then J else X := by
  cases b <;> cases s <;> simp
/-- What an operation of a kind has not. -/
def noP (K : Int) : Bool := !decide (3 ≤ K ∧ K ≤ 8)
def noD (K : Int) : Bool := !decide (K = 3 ∨ K = 5)
def noV (K : Int) : Bool := !decide (K = 4 ∨ K = 5 ∨ K = 8)
def noS (K : Int) : Bool := !decide (K = 3)
def ownK (K : Int) : ByteArray := if K = 3 then ⟨#[112, 100, 115, 111]⟩ else if K = 4 then ⟨#[112, 118]⟩ else if K = 5 then ⟨#[112, 100, 118]⟩ else if K = 6 then ⟨#[112]⟩ else if K = 7 then ⟨#[112]⟩ else if K = 8 then ⟨#[112, 118]⟩ else ⟨#[]⟩
def opBad (K : Int) (P : ByteArray) (D V : Int) (s o : Bool) : Bool := (noP K && !decide (P.toList = [])) || ((noD K && !decide (D = 0)) || ((noV K && !decide (V = 0)) || (noS K && (s || o))))
def rngR (D V : Int) : Int := if (0 ≤ D ∧ D ≤ 9999) ∧ (-1 ≤ V ∧ V ≤ 999) then 0 else 3
noncomputable def opR (K : Int) (P : ByteArray) (D V : Int) (s o : Bool) : Int :=
  if 1 ≤ K ∧ K ≤ 8 then (if opBad K P D V s o = true then 1 else if noP K = true then 0 else if faultR P = 0 then rngR D V else faultR P) else 1
theorem eight {K : Int} (h : 1 ≤ K ∧ K ≤ 8) : K = 1 ∨ K = 2 ∨ K = 3 ∨ K = 4 ∨ K = 5 ∨ K = 6 ∨ K = 7 ∨ K = 8 := by omega
theorem has_is {K : Int} (h : 1 ≤ K ∧ K ≤ 8) : ∃ wd, impl_has.f K = some (wd, ownK K) := by
  rcases eight h with rfl | rfl | rfl | rfl | rfl | rfl | rfl | rfl <;> exact ⟨_, rfl⟩
theorem hasNo_is {K : Int} (h : 1 ≤ K ∧ K ≤ 8) : impl_OpFault_1.f (⟨#[112]⟩ : ByteArray) (ownK K) = some (noP K) ∧ impl_OpFault_1.f (⟨#[100]⟩ : ByteArray) (ownK K) = some (noD K) ∧ impl_OpFault_1.f (⟨#[118]⟩ : ByteArray) (ownK K) = some (noV K) ∧ impl_OpFault_1.f (⟨#[115]⟩ : ByteArray) (ownK K) = some (noS K) ∧ impl_OpFault_1.f (⟨#[111]⟩ : ByteArray) (ownK K) = some (noS K) := by
  rcases eight h with rfl | rfl | rfl | rfl | rfl | rfl | rfl | rfl <;> refine ⟨?_, ?_, ?_, ?_, ?_⟩ <;> decide +kernel
theorem within_is (n lo hi : Int) : impl_within.f n lo hi = some (decide (lo ≤ n ∧ n ≤ hi)) := impl_within_is n lo hi
theorem op_tail {K : Int} (h : 1 ≤ K ∧ K ≤ 8) {P : ByteArray} {D V : Int} {s o b : Bool} (hb : opBad K P D V s o = b) : Ev (fun k => impl_OpFault.j0 k b K P D V s o (ownK K)) (opR K P D V s o) := by
  obtain ⟨hp, _⟩ := hasNo_is h
  unfold opR
  rw [if_pos h, hb]
  cases b with
  | true => exact ev_done fun k => by simp only [impl_OpFault.j0]; rw [if_pos trivial]; rfl
  | false =>
    rw [if_neg (by decide)]
    by_cases c : noP K = true
    · rw [if_pos c]
      exact ev_done fun k => by
        simp only [impl_OpFault.j0]
        rw [if_neg (by decide), hp, Option.bind_some, if_pos c]
    · rw [if_neg c]
      refine ev_step (fun k => (impl_PathFault.f k P).bind fun t138 => (if t138 = 0 then ((impl_isData.f D).bind fun t139 => (if t139 = true then ((impl_within.f V (-1) 999).bind fun t140 => (if t140 = true then (some 0) else (some 3))) else (some 3))) else (some t138))) (fun k => by
        simp only [impl_OpFault.j0]
        rw [if_neg (by decide), hp, Option.bind_some, if_neg c]) (ev_call (fault_impl P) ?_)
      by_cases hf : faultR P = 0
      · have e : (if faultR P = 0 then rngR D V else faultR P) = rngR D V := if_pos hf
        rw [e]
        refine ev_is fun k => (if_pos hf).trans ?_
        unfold impl_isData.f rngR
        rw [within_is, within_is]
        by_cases h1 : 0 ≤ D ∧ D ≤ 9999 <;> by_cases h2 : -1 ≤ V ∧ V ≤ 999 <;> simp [h1, h2]
      · have e : (if faultR P = 0 then rngR D V else faultR P) = faultR P := if_neg hf
        rw [e]
        exact ev_is fun k => if_neg hf
theorem OpFault_impl (K : Int) (P : ByteArray) (D V : Int) (s o : Bool) : Ev (fun k => impl_OpFault.f k K P D V s o) (opR K P D V s o) := by
  by_cases h : 1 ≤ K ∧ K ≤ 8
  · obtain ⟨wd, hh⟩ := has_is h
    obtain ⟨hp, hd, hv, hs, ho⟩ := hasNo_is h
    refine ev_cong (fun k => ?_) (op_tail h (P := P) (D := D) (V := V) (s := s) (o := o) rfl)
    unfold impl_OpFault.f opBad
    rw [hh, Option.bind_some, within_is, Option.bind_some, if_pos (decide_eq_true h)]
    simp only [hp, hd, hv, hs, ho, Option.bind_some]
    generalize noP K = bp
    generalize noD K = bd
    generalize noV K = bv
    generalize noS K = bs
    simp only [st_no, st_in]
    generalize (bp && !decide (P.toList = [])) = x1
    generalize (bd && !decide (D = 0)) = x2
    generalize (bv && !decide (V = 0)) = x3
    cases x1 <;> cases x2 <;> cases x3 <;> cases bs <;> cases s <;> cases o <;> rfl
  · have e : opR K P D V s o = 1 := by unfold opR; exact if_neg h
    rw [e]
    obtain ⟨a, ha⟩ : ∃ a, impl_has.f K = some a := by
      unfold impl_has.f
      repeat (first | exact ⟨_, rfl⟩ | split)
    refine ev_cong (fun k => ?_) (ev_done (g := fun k => impl_OpFault.j0 k true K P D V s o a.2) fun k => by simp only [impl_OpFault.j0]; rw [if_pos trivial])
    unfold impl_OpFault.f
    rw [ha, Option.bind_some, within_is, Option.bind_some, if_neg (by simpa using h)]
theorem st_ref {α : Type} {b : Bool} {c : Prop} [Decidable c] {X J : α} : (if (!b) = true then X else (if c then X else J)) = if (b && !decide c) = true then J else X := by
  cases b <;> by_cases h : c <;> simp [h]
theorem ref_is {K : Int} (h : 1 ≤ K ∧ K ≤ 8) : spec_l5Path.f K = some (!noP K) ∧ spec_l5Data.f K = some (!noD K) ∧ spec_l5Version.f K = some (!noV K) := by
  rcases eight h with rfl | rfl | rfl | rfl | rfl | rfl | rfl | rfl <;> refine ⟨?_, ?_, ?_⟩ <;> decide +kernel
theorem op_range (K : Int) (P : ByteArray) (D V : Int) (s o : Bool) : Ev (fun k => spec_l5Op.j1 k K P D V s o) (rngR D V, K, P, D, V, s, o) := by
  refine ev_done fun k => ?_
  simp only [spec_l5Op.j1]
  unfold spec_l2Data.f rngR
  rw [spec_l1In_is, spec_l1In_is]
  by_cases h1 : 0 ≤ D ∧ D ≤ 9999 <;> by_cases h2 : -1 ≤ V ∧ V ≤ 999 <;> simp [h1, h2]
theorem op_none {K : Int} (h : 1 ≤ K ∧ K ≤ 8) {P : ByteArray} {D V : Int} {s o : Bool} (hb : opBad K P D V s o = false) (c : noP K = true) : rngR D V = 0 := by
  unfold opBad at hb
  simp only [Bool.or_eq_false_iff] at hb
  obtain ⟨_, h2, h3, _⟩ := hb
  have hk : K = 1 ∨ K = 2 := by
    unfold noP at c
    simp only [Bool.not_eq_true', decide_eq_false_iff_not] at c
    omega
  have hd : noD K = true := by rcases hk with rfl | rfl <;> decide
  have hv : noV K = true := by rcases hk with rfl | rfl <;> decide
  rw [hd] at h2
  rw [hv] at h3
  simp at h2 h3
  rw [h2, h3]
  rfl
theorem op_tail_ref {K : Int} (h : 1 ≤ K ∧ K ≤ 8) {P : ByteArray} {D V : Int} {s o b : Bool} (hb : opBad K P D V s o = b) : Ev (fun k => spec_l5Op.j0 k b K P D V s o) (opR K P D V s o, K, P, D, V, s, o) := by
  obtain ⟨hp, _⟩ := ref_is h
  unfold opR
  rw [if_pos h, hb]
  cases b with
  | true => exact ev_done fun k => by simp only [spec_l5Op.j0]; rw [if_pos trivial]; rfl
  | false =>
    rw [if_neg (by decide)]
    by_cases c : noP K = true
    · rw [if_pos c, ← op_none h hb c]
      refine ev_step _ (fun k => ?_) (op_range K P D V s o)
      simp only [spec_l5Op.j0]
      rw [if_neg (by decide), hp, Option.bind_some, c, if_neg (by decide)]
    · rw [if_neg c]
      have c' : noP K = false := by simpa using c
      refine ev_step (fun k => (spec_l1Fault.f k P).bind fun t110 => (if t110 = 0 then (spec_l5Op.j1 k K P D V s o) else (some (t110, K, P, D, V, s, o)))) (fun k => by
        simp only [spec_l5Op.j0]
        rw [if_neg (by decide), hp, Option.bind_some, c', if_pos (by decide)]) (ev_call (fault_spec P) ?_)
      by_cases hf : faultR P = 0
      · rw [if_pos hf]
        exact ev_cong (fun k => if_pos hf) (op_range K P D V s o)
      · rw [if_neg hf]
        exact ev_is fun k => if_neg hf
theorem op_spec (K : Int) (P : ByteArray) (D V : Int) (s o : Bool) : Ev (fun k => spec_l5Op.f k K P D V s o) (opR K P D V s o, K, P, D, V, s, o) := by
  by_cases h : 1 ≤ K ∧ K ≤ 8
  · obtain ⟨hp, hd, hv⟩ := ref_is h
    refine ev_cong (fun k => ?_) (op_tail_ref h (P := P) (D := D) (V := V) (s := s) (o := o) rfl)
    have hs : ∀ X : Bool → Option (Int × Int × ByteArray × Int × Int × Bool × Bool), (if K = 3 then X false else (if s = true then X true else X o)) = X (noS K && (s || o)) := fun X => by
      unfold noS
      by_cases c : K = 3
      · rw [if_pos c, decide_eq_true c]; rfl
      · rw [if_neg c, decide_eq_false c]
        cases s <;> cases o <;> rfl
    unfold spec_l5Op.f opBad
    rw [spec_l1In_is, Option.bind_some, if_pos (decide_eq_true h)]
    simp only [hp, hd, hv, Option.bind_some, hs (fun b => spec_l5Op.j0 k b K P D V s o), st_ref]
    generalize (noP K && !decide (P.toList = [])) = x1
    generalize (noD K && !decide (D = 0)) = x2
    generalize (noV K && !decide (V = 0)) = x3
    cases x1 <;> cases x2 <;> cases x3 <;> rfl
  · have e : opR K P D V s o = 1 := by unfold opR; exact if_neg h
    rw [e]
    refine ev_is fun k => ?_
    unfold spec_l5Op.f
    rw [spec_l1In_is, Option.bind_some, if_neg (by simpa using h)]
end Go.Proofs.YtbeghfdlbokhkaaDoor.Pure

/- OpFault: the program's answer is the reference's, for every operation; it writes into no argument. No condition. -/
namespace Go.Proofs.YtbeghfdlbokhkaaDoor.Pure
open Go.RowKit Go.Proofs.YtbeghfdlbokhkaaDoor.Qc Go.Proofs.YtbeghfdlbokhkaaDoorW.PrintWords Go.Proofs.YtbeghfdlbokhkaaDoorW.PrintLast Go.Proofs.YtbeghfdlbokhkaaDoor.Aid
theorem OpFault_spec (K : Int) (P : ByteArray) (D V : Int) (s o : Bool) : Ev (fun k => spec_OpFault.f k K P D V s o) (opR K P D V s o) := by
  unfold spec_OpFault.f spec_l5OpV.f
  exact ev_call (ev_call (op_spec K P D V s o) (Ev.now _)) (Ev.now _)
theorem FnExactOpFault (x0 : S23) (_ : g23 x0) : ∃ k, laws_FnExactOpFault.f k x0.f0 x0.f1 x0.f2 x0.f3 x0.f4 x0.f5 = some true := by
  refine Ev.rounds ?_
  obtain ⟨n, hn⟩ : ∃ n, laws_szOp.f x0.f0 x0.f1 x0.f2 x0.f3 x0.f4 x0.f5 1048576 = some n := by
    unfold laws_szOp.f
    split <;> exact ⟨_, rfl⟩
  unfold laws_FnExactOpFault.f
  refine ev_cong (fun k => by rw [hn, Option.bind_some]) ?_
  by_cases c : n < 0
  · exact ev_is fun k => if_pos c
  · refine ev_cong (fun k => if_neg c) (ev_step _ (fun k => by simp only [laws_FnExactOpFault.j0, laws_toOp.f, Option.bind_some]; rfl) ?_)
    exact ev_call (OpFault_spec x0.f0 x0.f1 x0.f2 x0.f3 x0.f4 x0.f5) (ev_call (OpFault_impl x0.f0 x0.f1 x0.f2 x0.f3 x0.f4 x0.f5) (ev_is fun k => if_pos rfl))
end Go.Proofs.YtbeghfdlbokhkaaDoor.Pure

/- For every input the law loop.example/g00369/laws.FnExactOpFault returns true, and every argument reads behind the call as it read before. No condition. -/
namespace Go.Proofs.YtbeghfdlbokhkaaDoor.fnExactOpFault
open Go.ChangeShapes Go.WideShapes Go.ChangeAt Go.RowKit Go.Proofs.YtbeghfdlbokhkaaDoor.Qc Go.Proofs.YtbeghfdlbokhkaaDoor.Tro Go.Proofs.YtbeghfdlbokhkaaDoorW.PrintWords
open Go.ChangeMaps (open_string shut_string)
set_option linter.unusedVariables false
set_option linter.unusedSimpArgs false
theorem own : ownKnob Tryd.prog.godebug = none := by kernel_rfl
theorem laidOut : laidOutB Tryd.prog = true := by kernel_rfl
set_option maxRecDepth 100000 in
theorem lifted (os : Os) (started : os.Started) (H : Type) (enc : TypeId × Value → H) :
    ReturnsInHanded {} Tryd.checked os 3 .any (fun w args => (Rows.fnExactOpFaultSpec.pre enc Tryd.prog Tryd.f3 [] false w args ∧ laidMetH Tryd.prog Rows.fnExactOpFaultRow.laid w) ∧ sizedMet enc Tryd.prog Tryd.f3 (OpenSpec.ofChange Rows.fnExactOpFaultSpec) false w args) (Rows.fnExactOpFaultSpec.post enc Tryd.prog Tryd.f3 false true false false) := by
  refine returnsInHanded_of_change_and (C := Tryd.checked) (X := fun w _ => laidMetH Tryd.prog Rows.fnExactOpFaultRow.laid w) (fun _ _ _ hh h => h.of_heap hh) own started (by kernel_rfl) Tryd.func3
    (ChangeSpec.witness_shaped (enc := enc) (C := Tryd.checked) (os := os) (X := fun w _ => laidMetH Tryd.prog Rows.fnExactOpFaultRow.laid w) false (World.laidAll Tryd.prog os Rows.fnExactOpFaultRow.laid) #[.agg #[.int .i64 0, .string ByteArray.empty, .int .i64 0, .int .i64 0, .bool false, .bool false]] 8 (World.laidAll_os _ _ _)
      (World.shaped_of_ZipB (by kernel_rfl) (by kernel_rfl)) (by kernel_rfl) (by kernel_rfl) (by kernel_rfl)
      (by rw [MakeChecks.laidMetH_plain _ _ _ (by kernel_rfl)]; exact laidMet_laidAll _ (by kernel_rfl) (by kernel_rfl))) ?_
  intro W base args ds gs before hval0 hW _ _ hL _
  have hval : ∀ (j : Nat) t v, Tryd.f3.params[j]? = some t → args[j]? = some v → Value.okWide Tryd.prog W .any base t v := hval0
  have hW' := hW
  obtain ⟨p, q, hA0, hV, rfl, hfz, hnd⟩ := hW
  have hA : DataW.TrodAll enc Tryd.prog W 0 (fun _ => true) true Tryd.f3.params.toList args.toList ds p := hA0
  rw [Tryd.params3] at hA hval
  obtain ⟨v0, vs0, d0, ds0, p0, q0, hargs, rfl, rfl, h0, r0⟩ := trodAll_cons hA
  obtain ⟨rfl, rfl, rfl⟩ := trodAll_nil r0
  obtain rfl : args = #[v0] := by cases args; simp_all
  obtain ⟨rfl, rfl⟩ := trodVars_none hV
  have k0 := h0
  have lt0 : ∀ x ∈ p0, x.block < W.heap.size := by obtain ⟨m, hm⟩ := k0; exact DataW.trod_lt m _ _ _ hm
  obtain ⟨cs0, rfl, hsz0⟩ := okWide_struct Tryd.underlying23 (hval 0 23 v0 rfl rfl)
  obtain ⟨fuel0, hf0⟩ := h0
  obtain ⟨x0, hK0, hg0⟩ := tr23 enc W _ _ _ hf0
  obtain hcs0 := k23_open hK0
  have hcs0' : cs0 = #[.int .i64 x0.f0, .string x0.f1, .int .i64 x0.f2, .int .i64 x0.f3, .bool x0.f4, .bool x0.f5] := Array.toList_inj.1 hcs0
  subst hcs0'
  obtain ⟨k, hk⟩ := Pure.FnExactOpFault x0 hg0
  refine (laws_FnExactOpFault.calls k x0.f0 x0.f1 x0.f2 x0.f3 x0.f4 x0.f5 true W hk).mono fun e W' hE => ?_
  obtain ⟨he, hd⟩ := hE
  have bel : Below W.heap.size W W' := hd
  subst he
  exact ⟨_, rfl, _, _, _, [], _, [], hW', trodAll_mk1 (shut_bool Tryd.underlying4 _), (trodAll_cons_mk (Below.trod laidOut (by kernel_rfl) (of_decide_eq_true (by kernel_rfl)) k0 bel lt0) trodAll_mk0), rfl, bel.frame _, fun h => by cases h⟩
theorem over : Rows.fnExactOpFaultRow.holds Tryd.pinned (OpenSpec.ofChange Rows.fnExactOpFaultSpec) :=
  OpenClaim.holds_of_wide 3 Tryd.f3 rfl rfl rfl rfl rfl rfl rfl ⟨rfl, rfl, rfl, rfl, rfl⟩ rfl rfl rfl rfl rfl (by kernel_rfl) Tryd.func3 (by kernel_rfl)
    (of_decide_eq_true (by kernel_rfl)) (by unfold Func.isWrapper; first | (rw [if_pos (by decide +kernel)]; kernel_rfl) | (rw [if_neg (by decide +kernel)]; exact ⟨rfl, rfl⟩))
    (fun os started H enc _ => lifted os started H enc)
theorem proved : Rows.FnExactOpFaultCardSaid :=
  Claim7.holds_tied_plain_at .later [] [.data, .pinned] true (true, "51b58521302bbc2800a4bc7918879e2c72a2515d14f21b5f6e244ca2783b6b1b") false over (fun _ h => by cases h) (by kernel_rfl) (fun _ h => by cases h) fnExactOpFault_row_tie rfl ⟨rfl, rfl⟩ (by kernel_rfl) rfl
    (fun f fn hf hfn => by
      obtain rfl : f = 3 := Option.some.inj ((show Tryd.prog.funcNamed "loop.example/g00369/laws.FnExactOpFault" = some 3 by kernel_rfl).symm.trans hf) |>.symm
      obtain rfl : fn = Tryd.f3 := (Option.some.inj (Tryd.func3.symm.trans hfn)).symm
      exact ⟨by kernel_rfl, fun j t ht => by
        rw [Tryd.params3] at ht
        have hm : t ∈ [23] := by simpa using Array.mem_of_getElem? ht
        have hall : ([23].all fun u => !Tryd.prog.wantsStandIn u) = true := by kernel_rfl
        exact (show Tryd.prog.wantsStandIn t = false by simpa using List.all_eq_true.1 hall t hm)⟩)
    (by kernel_rfl)
#print axioms proved
end Go.Proofs.YtbeghfdlbokhkaaDoor.fnExactOpFault
namespace Go.Proofs.YtbeghfdlbokhkaaDoor
/-- The row, under a short name, for the claim. -/
theorem fnExactOpFault_holds : Rows.FnExactOpFaultCardSaid := fnExactOpFault.proved
end Go.Proofs.YtbeghfdlbokhkaaDoor
