/- IsUnder: the program's answer is the reference's, for all two texts. No condition. -/
import Derived.Test.YtlfhpljeeedbdaaDoorQax15
import Derived.Test.YtlfhpljeeedbdaaDoorQax16
import Derived.Test.YtlfhpljeeedbdaaDoorQax17
import Derived.Test.YtlfhpljeeedbdaaDoorQax18
import Derived.Test.YtlfhpljeeedbdaaDoorQax6
import Derived.Test.YtlfhpljeeedbdaaDoorQax7
import Derived.Test.YtlfhpljeeedbdaaDoorPath2
namespace Go.Proofs.YtlfhpljeeedbdaaDoor.Pure
open Go.RowKit Go.Proofs.YtlfhpljeeedbdaaDoor.Qa Go.Proofs.YtlfhpljeeedbdaaDoorW.PrintWords Go.Proofs.YtlfhpljeeedbdaaDoorW.PrintLast Go.Proofs.YtlfhpljeeedbdaaDoor.Aid
def underR (s t : ByteArray) : Bool := if s.data.toList = t.data.toList then true else if t.data.toList = [47] then true else decide (s.data.toList.take (t.data.toList.length + 1) = t.data.toList ++ [47])
theorem front_list (s : ByteArray) (n : Nat) : (s.extract 0 n).toList = s.data.toList.take n := by rw [tl, ext_list]; rfl
theorem beq_dec (a b : List UInt8) : (a == b) = decide (a = b) := by
  by_cases h : a = b
  · subst h; simp
  · rw [decide_eq_false h]; exact beq_false_of_ne h
theorem under_spec (s t : ByteArray) : spec_l1Under.f s t = some (underR s t) := by
  have hs := size_list s
  have ht := size_list t
  unfold spec_l1Under.f underR
  rw [tl, tl]
  by_cases h1 : s.data.toList = t.data.toList
  · rw [if_pos h1, if_pos h1]
  · rw [if_neg h1, if_neg h1]
    by_cases h2 : t.data.toList = [47]
    · rw [if_pos h2, if_pos h2]
    · rw [if_neg h2, if_neg h2]
      by_cases h3 : (s.size : Int) > (t.size : Int)
      · have hlt : t.data.toList.length < s.data.toList.length := by omega
        rw [if_pos h3, if_pos (by omega), if_pos (by omega), Int.toNat_natCast, front_list, List.take_succ_eq_append_getElem hlt]
        rw [ht]
        by_cases h4 : s.data.toList.take t.data.toList.length = t.data.toList
        · rw [if_pos h4, if_pos (by omega), bt_at hlt, h4]
          congr 1
          by_cases h5 : s.data.toList[t.data.toList.length] = 47
          · rw [h5]; simp
          · have h6 : ¬ (((s.data.toList[t.data.toList.length]).toNat : Int) = 47) := fun e => h5 (by
              have e2 : (s.data.toList[t.data.toList.length]).toNat = 47 := by omega
              exact UInt8.toNat_inj.1 e2)
            rw [decide_eq_false (fun e => h5 (List.cons.inj (List.append_cancel_left e)).1)]
            exact beq_false_of_ne h6
        · rw [if_neg h4]
          have ne : ¬ (s.data.toList.take t.data.toList.length ++ [s.data.toList[t.data.toList.length]] = t.data.toList ++ [47]) := fun e => h4 (List.append_inj' e (by simp)).1
          exact congrArg some (decide_eq_false ne).symm
      · rw [if_neg h3, decide_eq_false (fun e => by
          have := congrArg List.length e
          rw [List.length_take, List.length_append] at this
          simp at this
          omega)]
theorem cat_list (t : ByteArray) : (t ++ (⟨#[47]⟩ : ByteArray)).data.toList = t.data.toList ++ [47] := by
  rw [ByteArray.data_append, Array.toList_append]
theorem prefix_impl (s t : ByteArray) : strings_HasPrefix.f s (t ++ (⟨#[47]⟩ : ByteArray)) = some (decide (s.data.toList.take (t.data.toList.length + 1) = t.data.toList ++ [47])) := by
  have hs := size_list s
  have ht := size_list t
  have hc := cat_list t
  have hz : (t ++ (⟨#[47]⟩ : ByteArray)).size = t.data.toList.length + 1 := by rw [size_list, hc]; simp
  unfold strings_HasPrefix.f stringslite_HasPrefix.f
  rw [hz]
  by_cases h : (s.size : Int) ≥ ((t.data.toList.length + 1 : Nat) : Int)
  · rw [if_pos h, if_pos (by omega), if_pos (by omega), Int.toNat_natCast, front_list, tl, hc, beq_dec]
    rfl
  · rw [if_neg h, decide_eq_false (fun e => by
      have := congrArg List.length e
      rw [List.length_take, List.length_append] at this
      simp at this
      omega)]
    rfl
def isUnderR (s t : ByteArray) : Bool := if faultR s = 0 then (if faultR t = 0 then underR s t else false) else false
theorem isUnder_spec (s t : ByteArray) : Ev (fun k => spec_IsUnder.f k s t) (isUnderR s t) := by
  unfold spec_IsUnder.f
  refine ev_call (fault_spec s) ?_
  by_cases h : faultR s = 0
  · have e : isUnderR s t = (if faultR t = 0 then underR s t else false) := if_pos h
    rw [e]
    refine ev_cong (fun k => if_pos h) (ev_call (fault_spec t) ?_)
    by_cases h' : faultR t = 0
    · have e' : (if faultR t = 0 then underR s t else false) = underR s t := if_pos h'
      rw [e']
      exact ev_is fun k => by rw [if_pos h', under_spec]; rfl
    · have e' : (if faultR t = 0 then underR s t else false) = false := if_neg h'
      rw [e']
      exact ev_is fun k => if_neg h'
  · have e : isUnderR s t = false := if_neg h
    rw [e]
    exact ev_is fun k => if_neg h
theorem isUnder_impl (s t : ByteArray) : Ev (fun k => impl_IsUnder.f k s t) (isUnderR s t) := by
  unfold impl_IsUnder.f
  refine ev_call (fault_impl s) ?_
  by_cases h : faultR s = 0
  · have e : isUnderR s t = (if faultR t = 0 then underR s t else false) := if_pos h
    rw [e]
    refine ev_cong (fun k => if_pos h) (ev_call (fault_impl t) ?_)
    by_cases h' : faultR t = 0
    · have e' : (if faultR t = 0 then underR s t else false) = underR s t := if_pos h'
      rw [e']
      have hz := (fault_zero h').1
      unfold underR
      refine ev_is fun k => ?_
      rw [if_pos h', tl, tl, prefix_impl]
      by_cases h1 : s.data.toList = t.data.toList
      · rw [if_pos h1, if_pos h1]
      · rw [if_neg h1, if_neg h1]
        by_cases h2 : t.data.toList = [47]
        · rw [if_pos h2, if_pos h2]
        · rw [if_neg h2, if_neg h2, if_pos (by omega)]; rfl
    · have e' : (if faultR t = 0 then underR s t else false) = false := if_neg h'
      rw [e']
      exact ev_is fun k => if_neg h'
  · have e : isUnderR s t = false := if_neg h
    rw [e]
    exact ev_is fun k => if_neg h
theorem FnExactIsUnder (s t : ByteArray) (_hs : s.size ≤ 9223372036854775807) (_ht : t.size ≤ 9223372036854775807) : ∃ k, laws_FnExactIsUnder.f k s t = some true := by
  refine Ev.rounds ?_
  unfold laws_FnExactIsUnder.f
  by_cases h : (s.size : Int) > 1048576
  · exact ev_is fun k => if_pos h
  · refine ev_cong (fun k => if_neg h) ?_
    by_cases h' : (t.size : Int) > 1048576
    · exact ev_done fun k => by simp only [laws_FnExactIsUnder.j0]; exact if_pos h'
    · refine ev_step (fun k => laws_FnExactIsUnder.j1 k s t) (fun k => by simp only [laws_FnExactIsUnder.j0]; exact if_neg h') ?_
      refine ev_step _ (fun k => by simp only [laws_FnExactIsUnder.j1]; rfl) ?_
      exact ev_call (isUnder_spec s t) (ev_call (isUnder_impl s t) (ev_is fun k => if_neg (by simp)))
end Go.Proofs.YtlfhpljeeedbdaaDoor.Pure
