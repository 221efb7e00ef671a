/- SeqName: the program's answer is the reference's, for all texts and numbers. No condition. -/
import Derived.Test.YtpblgkenjoalpaaQax2
import Derived.Test.YtpblgkenjoalpaaQax3
import Derived.Test.YtpblgkenjoalpaaName
namespace Go.Proofs.Ytpblgkenjoalpaa.Pure
open Go.RowKit Go.Proofs.Ytpblgkenjoalpaa.Qa Go.Proofs.YtpblgkenjoalpaaW.PrintWords Go.Proofs.YtpblgkenjoalpaaW.PrintLast Go.Proofs.Ytpblgkenjoalpaa.Aid
def twoN (n : Int) : List Int := [(wrap64 (48 + (wrap64 (Int.tdiv n 10)))) % 256, (wrap64 (48 + (Int.tmod n 10))) % 256]
def seqT (s : ByteArray) (n : Int) : ByteArray := s ++ strOfNums (twoN n)
def seqR (s : ByteArray) (n : Int) : Int × ByteArray := if nameB s then (if 0 ≤ n ∧ n ≤ 99 then (if nameB (seqT s n) then (0, seqT s n) else (5, ⟨#[]⟩)) else (3, ⟨#[]⟩)) else (5, ⟨#[]⟩)
theorem strOfNums_two (a b : Int) : strOfNums [a] ++ strOfNums [b] = strOfNums [a, b] := by
  unfold strOfNums
  apply ByteArray.ext
  simp
theorem digit (d : Int) (h0 : 0 ≤ d) (h1 : d < 10) : Ev (fun k => spec_l1Digits.f k d) (strOfNums [(wrap64 (48 + d)) % 256]) :=
  ev_done fun k => by simp only [spec_l1Digits.f]; rw [if_neg (by omega), if_pos h1]
theorem tdiv10 {n : Int} (h : 0 ≤ n ∧ n ≤ 99) : wrap64 (Int.tdiv n 10) = n / 10 ∧ Int.tmod n 10 = n % 10 := by
  have h1 : Int.tdiv n 10 = n / 10 := Int.tdiv_eq_ediv_of_nonneg h.1
  have h2 : Int.tmod n 10 = n % 10 := Int.tmod_eq_emod_of_nonneg h.1
  rw [h1, h2, wrap_id (by omega) (by omega)]
  exact ⟨rfl, rfl⟩
theorem seq_spec (s : ByteArray) (n : Int) (hs : s.size ≤ 1048576) (hn : 0 ≤ n ∧ n ≤ 99) : Ev (fun k => spec_l1Seq.f k s n) (seqT s n) := by
  obtain ⟨e1, e2⟩ := tdiv10 hn
  unfold spec_l1Seq.f
  have e : seqT s n = (s ++ strOfNums [(wrap64 (48 + (wrap64 (Int.tdiv n 10)))) % 256]) ++ strOfNums [(wrap64 (48 + (Int.tmod n 10))) % 256] := by
    unfold seqT twoN
    rw [ByteArray.append_assoc, strOfNums_two]
  rw [e]
  refine ev_call (digit (wrap64 (Int.tdiv n 10)) (by rw [e1]; omega) (by rw [e1]; omega)) (ev_cong (fun k => if_pos (by rw [size_strOfNums]; simp; omega)) ?_)
  refine ev_call (digit (Int.tmod n 10) (by rw [e2]; omega) (by rw [e2]; omega)) (ev_is fun k => if_pos (by rw [ByteArray.size_append, size_strOfNums, size_strOfNums]; simp; omega))
theorem seqT_size (s : ByteArray) (n : Int) : (seqT s n).size = s.size + 2 := by
  unfold seqT twoN
  rw [ByteArray.size_append, size_strOfNums]
  rfl
theorem SeqName_spec (s : ByteArray) (n : Int) (hs : s.size ≤ 1048576) : Ev (fun k => spec_SeqName.f k s n) (seqR s n) := by
  unfold spec_SeqName.f seqR
  refine ev_call (name_spec s (by omega)) ?_
  cases h1 : nameB s with
  | false => exact ev_is fun k => by simp
  | true =>
    refine ev_cong (fun k => if_pos rfl) (ev_call (ev_is fun _ => spec_l1In_is n 0 99) ?_)
    by_cases h2 : 0 ≤ n ∧ n ≤ 99
    · have z := seqT_size s n
      refine ev_cong (fun k => if_pos (decide_eq_true h2)) (ev_call (seq_spec s n hs h2) (ev_call (name_spec _ (by omega)) (ev_is fun k => ?_)))
      rw [if_pos rfl, if_pos h2]
      cases nameB (seqT s n) <;> simp
    · exact ev_is fun k => by simp [h2]
theorem SeqName_impl (s : ByteArray) (n : Int) (hs : s.size ≤ 1048576) : Ev (fun k => impl_SeqName.f k s n) (seqR s n) := by
  unfold impl_SeqName.f seqR
  refine ev_call (name_impl s (by omega)) ?_
  cases h1 : nameB s with
  | false => exact ev_is fun k => by simp
  | true =>
    refine ev_cong (fun k => if_pos rfl) (ev_call (ev_is fun _ => impl_within_is n 0 99) ?_)
    by_cases h2 : 0 ≤ n ∧ n ≤ 99
    · have z := seqT_size s n
      refine ev_cong (fun k => if_pos (decide_eq_true h2)) ?_
      refine ev_call (a := twoN n) (ev_is fun k => rfl) (ev_cong (fun k => if_pos (by rw [size_strOfNums]; simp [twoN]; omega)) ?_)
      refine ev_call (name_impl (seqT s n) (by omega)) (ev_is fun k => ?_)
      rw [if_pos rfl, if_pos h2]
      show (if nameB (seqT s n) = true then some (0, seqT s n) else _) = _
      cases nameB (seqT s n) <;> simp
    · exact ev_is fun k => by simp [h2]
theorem FnExactSeqName (s : ByteArray) (n : Int) (_ : s.size ≤ 9223372036854775807) (_ : (Lit.int .i64 n).wf = true) : ∃ k, laws_FnExactSeqName.f k s n = some true := by
  refine Ev.rounds ?_
  unfold laws_FnExactSeqName.f
  by_cases h : (s.size : Int) > 1048576
  · exact ev_is fun k => if_pos h
  · refine ev_cong (fun k => if_neg h) ?_
    refine ev_call (SeqName_spec s n (by omega)) (ev_call (SeqName_impl s n (by omega)) ?_)
    exact ev_is fun k => by simp [laws_eqTextResult.f]
end Go.Proofs.Ytpblgkenjoalpaa.Pure
