/- Paths: a text cut at the marks, by the program (strings.Split) and by the reference: the same; what is wrong with a path: the same, for every text. -/
import Derived.Test.YtlfhpljeeedbdaaDoorQax11
import Derived.Test.YtlfhpljeeedbdaaDoorQax12
import Derived.Test.YtlfhpljeeedbdaaDoorQax13
import Derived.Test.YtlfhpljeeedbdaaDoorQax3
import Derived.Test.YtlfhpljeeedbdaaDoorQax8
import Derived.Test.YtlfhpljeeedbdaaDoorName
namespace Go.Proofs.YtlfhpljeeedbdaaDoor.Pure
open Go.RowKit Go.Proofs.YtlfhpljeeedbdaaDoor.Qa Go.Proofs.YtlfhpljeeedbdaaDoorW.PrintWords Go.Proofs.YtlfhpljeeedbdaaDoorW.PrintLast Go.Proofs.YtlfhpljeeedbdaaDoor.Aid

def mkB (l : List UInt8) : ByteArray := ⟨⟨l⟩⟩
theorem eq_mk {t : ByteArray} {l : List UInt8} (h : t.data.toList = l) : t = mkB l := by subst h; rfl
theorem ext_list (s : ByteArray) (a b : Nat) : (s.extract a b).data.toList = (s.data.toList.drop a).take (b - a) := by
  rw [ByteArray.data_extract, Array.toList_extract]
theorem ext_mk (s : ByteArray) (a b : Nat) : s.extract a b = mkB ((s.data.toList.drop a).take (b - a)) := eq_mk (ext_list s a b)
theorem tl (s : ByteArray) : s.toList = s.data.toList := ByteArray.toList_eq s
/-- The pieces of a text between the marks; what stands ahead goes into the first one. -/
def splF : List UInt8 → List UInt8 → List (List UInt8)
  | P, [] => [P]
  | P, c :: l => if c = 47 then P :: splF [] l else splF (P ++ [c]) l
theorem splF_len (l : List UInt8) : ∀ P, (splF P l).length = l.count 47 + 1 := by
  induction l with
  | nil => intro P; rfl
  | cons c l ih =>
    intro P
    unfold splF
    by_cases h : c = 47
    · rw [if_pos h, List.length_cons, ih, h, List.count_cons_self]
    · rw [if_neg h, ih, List.count_cons_of_ne (by simpa using h)]
theorem splF_none (l : List UInt8) : ∀ P, l.count 47 = 0 → splF P l = [P ++ l] := by
  induction l with
  | nil => intro P _; simp [splF]
  | cons c l ih =>
    intro P h
    have hc : c ≠ 47 := fun e => by rw [e, List.count_cons_self] at h; omega
    rw [List.count_cons_of_ne (by simpa using hc)] at h
    unfold splF
    rw [if_neg hc, ih _ h, List.append_assoc]
    rfl
theorem splF_some (l : List UInt8) (h : 0 < l.count 47) : ∃ p, p < l.length ∧ Lib.indexByte l 47 = (p : Int) ∧ (∀ P, splF P l = (P ++ l.take p) :: splF [] (l.drop (p + 1))) ∧ (l.drop (p + 1)).count 47 + 1 = l.count 47 := by
  induction l with
  | nil => simp at h
  | cons c l ih =>
    by_cases hc : c = 47
    · subst hc
      refine ⟨0, by simp, by unfold Lib.indexByte; rfl, fun P => ?_, by simp⟩
      rw [show splF P (47 :: l) = P :: splF [] l from if_pos rfl]
      simp
    · rw [List.count_cons_of_ne (by simpa using hc)] at h ⊢
      obtain ⟨p, h1, h2, h3, h4⟩ := ih h
      refine ⟨p + 1, by simpa using h1, ?_, fun P => ?_, by simpa using h4⟩
      · unfold Lib.indexByte
        rw [if_neg (by simpa using hc), h2, if_neg (by simp)]
        omega
      · rw [show splF P (c :: l) = splF (P ++ [c]) l from if_neg hc, h3]
        simp
/-- The reference's cut. -/
theorem cut_l0 (s : ByteArray) (hs : s.size ≤ 4398046511104) (d : Nat) : ∀ (i f : Nat) (out : List ByteArray), i + d = s.size → f ≤ i → out.length ≤ i → Ev (fun k => spec_l1Cut.l0 k s 47 out (f : Int) (i : Int)) (out ++ (splF ((s.data.toList.drop f).take (i - f)) (s.data.toList.drop i)).map mkB) := by
  have hl := size_list s
  have fin : ∀ (n f : Nat) (out : List ByteArray), s.size < n → Ev (fun k => spec_l1Cut.l0 k s 47 out (f : Int) (n : Int)) out := fun n f out hn => ev_done fun k => by simp only [spec_l1Cut.l0]; rw [if_neg (by omega)]
  induction d with
  | zero =>
    intro i f out h hf ho
    have e : s.data.toList.drop i = [] := drop_end (by omega)
    rw [e]
    have hx := ext_mk s f i
    refine ev_step (fun k => spec_l1Cut.l0 k s 47 (out ++ [s.extract f i]) ((i + 1 : Nat) : Int) ((i + 1 : Nat) : Int)) (fun k => ?_) ?_
    · simp only [spec_l1Cut.l0]; rw [if_pos (by omega), if_pos (by omega), if_pos (by omega), if_pos (by omega), if_pos (by omega), wrap_id (by omega) (by omega)]; rfl
    · rw [hx]
      exact fin _ _ _ (by omega)
  | succ d ih =>
    intro i f out h hf ho
    have hi : i < s.data.toList.length := by omega
    rw [drop_at hi]
    by_cases c : s.data.toList[i] = 47
    · rw [splF, if_pos c]
      have IH := ih (i + 1) (i + 1) (out ++ [s.extract f i]) (by omega) (by omega) (by simp; omega)
      rw [Nat.sub_self, List.take_zero] at IH
      have e : out ++ (((s.data.toList.drop f).take (i - f)) :: splF [] (s.data.toList.drop (i + 1))).map mkB = (out ++ [s.extract f i]) ++ (splF [] (s.data.toList.drop (i + 1))).map mkB := by rw [ext_mk, List.map_cons, List.append_assoc]; rfl
      rw [e]
      refine ev_step (fun k => spec_l1Cut.l0 k s 47 (out ++ [s.extract f i]) ((i + 1 : Nat) : Int) ((i + 1 : Nat) : Int)) (fun k => ?_) IH
      simp only [spec_l1Cut.l0]; rw [if_pos (by omega), if_neg (by omega), if_pos (by omega), if_pos (by omega), bt_at hi, c, if_pos (show ((UInt8.toNat 47 : Nat) : Int) = 47 from rfl), if_pos (by omega), if_pos (by omega), if_pos (by omega), wrap_up hi (by omega)]; rfl
    · rw [splF, if_neg c]
      have e : (s.data.toList.drop f).take (i - f) ++ [s.data.toList[i]] = (s.data.toList.drop f).take (i + 1 - f) := by
        rw [show i + 1 - f = (i - f) + 1 by omega, List.take_succ_eq_append_getElem (by rw [List.length_drop]; omega)]
        congr 2
        rw [List.getElem_drop]
        congr 1
        omega
      rw [e]
      refine ev_step (fun k => spec_l1Cut.l0 k s 47 out (f : Int) ((i + 1 : Nat) : Int)) (fun k => ?_) (ih (i + 1) f out (by omega) (by omega) (by omega))
      have hne : ¬ (((s.data.toList[i]).toNat : Int) = 47) := fun e => c (by
        have e2 : (s.data.toList[i]).toNat = 47 := by omega
        exact UInt8.toNat_inj.1 e2)
      simp only [spec_l1Cut.l0]; rw [if_pos (by omega), if_neg (by omega), if_pos (by omega), if_pos (by omega), bt_at hi, if_neg hne, wrap_up hi (by omega)]
def pieces (s : ByteArray) : List ByteArray := (splF [] s.data.toList).map mkB
theorem pieces_len (s : ByteArray) : (pieces s).length = s.data.toList.count 47 + 1 := by unfold pieces; rw [List.length_map, splF_len]
theorem cut_spec (s : ByteArray) (hs : s.size ≤ 4398046511104) : Ev (fun k => spec_l1Cut.f k s 47) (pieces s) := by
  have h := cut_l0 s hs s.size 0 0 [] (by omega) (by omega) (by simp)
  rw [List.nil_append, Nat.sub_self, List.take_zero, List.drop_zero] at h
  exact h
theorem w_up (p : Nat) (h : p ≤ 4611686018427387904) : wrap64 ((p : Int) + 1) = ((p + 1 : Nat) : Int) := by rw [wrap_id (by omega) (by omega)]; omega
theorem w_one (p : Nat) (h : p ≤ 4611686018427387904) : wrap64 ((p : Int) + ((⟨#[47]⟩ : ByteArray).size : Int)) = ((p + 1 : Nat) : Int) := w_up p h
theorem w_zero (p : Nat) (h : p ≤ 4611686018427387904) : wrap64 ((p : Int) + 0) = (p : Int) := by rw [Int.add_zero]; exact wrap_id (by omega) (by omega)
/-- The program's cut. -/
theorem split_l0 (n : Nat) (hn : n ≤ 4398046511104) (d : Nat) : ∀ (i : Nat) (x : ByteArray) (a : List ByteArray), x.data.toList.count 47 = d → i + d = n → a.length = n + 1 → x.size ≤ 4398046511104 → Ev (fun k => strings_genSplit.l0 k x (⟨#[47]⟩ : ByteArray) 0 (n : Int) a (i : Int)) (a.take i ++ (splF [] x.data.toList).map mkB) := by
  have ix : ∀ x : ByteArray, strings_Index.f x (⟨#[47]⟩ : ByteArray) = some (Lib.indexByte x.data.toList 47) := fun x => if_pos rfl
  induction d with
  | zero =>
    intro i x a hc h ha hx
    have e : a.take i ++ (splF [] x.data.toList).map mkB = (a.set i x).take (i + 1) := by
      rw [splF_none _ _ hc, take_set_snoc (by omega)]
      rfl
    rw [e]
    refine ev_done fun k => ?_
    have q0 : ¬ ((i : Int) < (n : Int)) := by omega
    have q1 : (0 : Int) ≤ (i : Int) := by omega
    have q2 : (i : Int) < (a.length : Int) := by omega
    have q3 : (0 : Int) ≤ ((i + 1 : Nat) : Int) := by omega
    have q4 : ((i + 1 : Nat) : Int) ≤ (a.length : Int) := by omega
    have wi := w_up i (by omega)
    simp only [strings_genSplit.l0, wi, q0, q1, q2, q3, q4, if_true, if_false, Int.toNat_natCast]
  | succ d ih =>
    intro i x a hc h ha hx
    obtain ⟨p, h1, h2, h3, h4⟩ := splF_some x.data.toList (by omega)
    have hl := size_list x
    have e1 : x.extract 0 p = mkB (x.data.toList.take p) := by rw [ext_mk]; rfl
    have e2 : (x.extract (p + 1) x.size).data.toList = x.data.toList.drop (p + 1) := by rw [ext_list, List.take_of_length_le (by rw [List.length_drop]; omega)]
    have IH := ih (i + 1) (x.extract (p + 1) x.size) (a.set i (x.extract 0 p)) (by rw [e2]; omega) (by omega) (by rw [List.length_set]; exact ha) (by rw [size_list, e2, List.length_drop]; omega)
    have e : a.take i ++ (splF [] x.data.toList).map mkB = (a.set i (x.extract 0 p)).take (i + 1) ++ (splF [] (x.extract (p + 1) x.size).data.toList).map mkB := by
      rw [e2, h3, take_set_snoc (by omega), List.append_assoc, e1]
      rfl
    rw [e]
    refine ev_step (fun k => strings_genSplit.l0 k (x.extract (p + 1) x.size) (⟨#[47]⟩ : ByteArray) 0 (n : Int) (a.set i (x.extract 0 p)) ((i + 1 : Nat) : Int)) (fun k => ?_) IH
    have q0 : (i : Int) < (n : Int) := by omega
    have q1 : (0 : Int) ≤ (i : Int) := by omega
    have q2 : (i : Int) < (a.length : Int) := by omega
    have q3 : (0 : Int) ≤ ((p + 1 : Nat) : Int) := by omega
    have q4 : ((p + 1 : Nat) : Int) ≤ (x.size : Int) := by omega
    have q5 : (0 : Int) ≤ (p : Int) := by omega
    have q6 : (p : Int) ≤ (x.size : Int) := by omega
    have q7 : ¬ ((p : Int) < 0) := by omega
    have hp_ : p ≤ 4611686018427387904 := by omega
    have hi_ : i ≤ 4611686018427387904 := by omega
    have wi := w_up i hi_
    have w1 := w_one p hp_
    have w0 := w_zero p hp_
    simp only [strings_genSplit.l0]
    rw [if_pos q0, ix, Option.bind_some, h2, if_neg q7, w0, if_pos q5, if_pos q6, if_pos q1, if_pos q2, w1, if_pos q3, if_pos q4, wi, Int.toNat_natCast, Int.toNat_natCast, Int.toNat_natCast]
theorem split_impl (s : ByteArray) (hs : s.size ≤ 1099511627776) : Ev (fun k => strings_Split.f k s (⟨#[47]⟩ : ByteArray)) (pieces s) := by
  have hl := size_list s
  have hle : s.data.toList.count 47 ≤ s.size := by rw [hl]; exact List.count_le_length
  have h := split_l0 (s.data.toList.count 47) (by omega) (s.data.toList.count 47) 0 s (List.replicate (s.data.toList.count 47 + 1) (⟨#[]⟩ : ByteArray)) rfl (by omega) (by simp) (by omega)
  have ct : strings_Count.f s (⟨#[47]⟩ : ByteArray) = some ((s.data.toList.count 47 : Nat) : Int) := if_pos rfl
  have en : wrap64 (((s.data.toList.count 47 : Nat) : Int) + 1) = ((s.data.toList.count 47 + 1 : Nat) : Int) := by rw [wrap_id (by omega) (by omega)]; omega
  have hm : mn ((s.data.toList.count 47 + 1 : Nat) : Int) (wrap64 ((s.size : Int) + 1)) = ((s.data.toList.count 47 + 1 : Nat) : Int) := by
    rw [wrap_id (by omega) (by omega)]
    unfold mn
    by_cases h : (s.size : Int) + 1 < ((s.data.toList.count 47 + 1 : Nat) : Int)
    · omega
    · rw [if_neg h]
  have hm1 : wrap64 (((s.data.toList.count 47 + 1 : Nat) : Int) - 1) = ((s.data.toList.count 47 : Nat) : Int) := by rw [wrap_id (by omega) (by omega)]; omega
  rw [List.take_zero, List.nil_append] at h
  unfold strings_Split.f
  refine ev_call (a := pieces s) ?_ (Ev.now _)
  unfold strings_genSplit.f
  refine ev_cong (fun k => (if_neg (by omega)).trans ((if_neg (by rw [tl]; simp)).trans (if_pos (by omega)))) ?_
  simp only [ct, Option.bind_some, en]
  refine ev_step _ (fun k => ?_) h
  simp only [strings_genSplit.j0]; rw [hm, if_pos (by omega), if_pos (by omega), hm1, Int.toNat_natCast]; rfl
end Go.Proofs.YtlfhpljeeedbdaaDoor.Pure
