/- For every input the law FnSessions returns true, and every argument reads behind the call as it read before: no condition. Here: the last part, the theorem in it. -/
import Derived.Test.YtdhmohidnidnfaaQcx14
import Derived.Test.YtdhmohidnidnfaaQcx15
import Derived.Test.YtdhmohidnidnfaaQcx16
import Derived.Test.YtdhmohidnidnfaaQcx17
import Derived.Test.YtdhmohidnidnfaaQcx18
import Derived.Test.YtdhmohidnidnfaaQcx22
import Derived.Test.YtdhmohidnidnfaaQcx27
import Derived.Test.YtdhmohidnidnfaaQcx28
import Derived.Test.YtdhmohidnidnfaaQcx30
import Derived.Test.YtdhmohidnidnfaaQcx5
import Derived.Test.YtdhmohidnidnfaaZFnSessionsa
import Derived.Test.YtdhmohidnidnfaaQcx19
import Derived.Test.YtdhmohidnidnfaaQcx20
import Derived.Test.YtdhmohidnidnfaaQcx21
import Derived.Test.YtdhmohidnidnfaaQcx29
import Derived.Test.YtdhmohidnidnfaaQcx6
import Derived.Test.YtdhmohidnidnfaaQcx3
import Derived.Test.YtdhmohidnidnfaaQcx4
import Derived.Test.YtdhmohidnidnfaaQcx10
import Derived.Test.YtdhmohidnidnfaaQcx2
import Derived.Test.YtdhmohidnidnfaaQcx7
import Derived.Test.YtdhmohidnidnfaaQcx8
import Derived.Test.YtdhmohidnidnfaaQcx9
import Derived.Test.YtdhmohidnidnfaaQcx23
import Derived.Test.YtdhmohidnidnfaaQcx31
import Derived.Test.YtdhmohidnidnfaaQcx1
import Derived.Test.YtdhmohidnidnfaaQcx13
import Derived.Test.YtdhmohidnidnfaaRows
import Derived.WalkKit
import Derived.ProofKit
import Derived.OpenShut
import Derived.ShutString
import Derived.ChangeOld
import Derived.Below
import Derived.SizedLaws
/- Sessions: who is there, by the program (a search by halves) and by the reference (one by one): the same in every right list. -/
namespace Go.Proofs.Ytdhmohidnidnfaa.Pure
open Go.RowKit Go.Proofs.Ytdhmohidnidnfaa.Qc Go.Proofs.YtdhmohidnidnfaaW.PrintWords Go.Proofs.YtdhmohidnidnfaaW.PrintLast Go.Proofs.Ytdhmohidnidnfaa.Aid

theorem sFrom_ok : ∀ (l : List SS) (prev : Option Int), sFrom prev l = 0 → (∀ s ∈ l, 1 ≤ s.f0 ∧ s.f0 ≤ 9 ∧ 0 ≤ s.f1 ∧ s.f1 ≤ 9999) ∧ l.Pairwise (fun x y => x.f0 < y.f0) ∧ ∀ p, prev = some p → ∀ s ∈ l, p < s.f0
  | [], _, _ => ⟨by simp, List.Pairwise.nil, by simp⟩
  | s :: r, prev, h => by
    rw [sFrom_cons] at h
    by_cases h1 : sOne prev s = 0
    · rw [if_pos h1] at h
      obtain ⟨g1, g2, g3⟩ := sFrom_ok r (some s.f0) h
      have hb : sBad s = false := by
        cases hb : sBad s with
        | false => rfl
        | true => unfold sOne at h1; rw [if_pos hb] at h1; cases h1
      have hg : 1 ≤ s.f0 ∧ s.f0 ≤ 9 ∧ 0 ≤ s.f1 ∧ s.f1 ≤ 9999 := by
        unfold sBad at hb
        simp only [Bool.not_eq_false', Bool.and_eq_true, decide_eq_true_eq] at hb
        omega
      have hp : ∀ p, prev = some p → p < s.f0 := by
        intro p hp
        subst hp
        unfold sOne at h1
        rw [if_neg (by simp [hb])] at h1
        by_cases c : s.f0 ≤ p
        · simp [c] at h1
        · omega
      refine ⟨?_, List.pairwise_cons.2 ⟨fun y hy => g3 s.f0 rfl y hy, g2⟩, ?_⟩
      · intro x hx
        rcases List.mem_cons.1 hx with rfl | hx
        · exact hg
        · exact g1 x hx
      · intro p he x hx
        rcases List.mem_cons.1 hx with rfl | hx
        · exact hp p he
        · have := hp p he
          have := g3 s.f0 rfl x hx
          omega
    · rw [if_neg h1] at h
      exact absurd h h1
structure Right (l : List SS) : Prop where
  few : l.length ≤ 6
  good : ∀ s ∈ l, 1 ≤ s.f0 ∧ s.f0 ≤ 9 ∧ 0 ≤ s.f1 ∧ s.f1 ≤ 9999
  rise : l.Pairwise (fun x y => x.f0 < y.f0)
theorem right_of {l : List SS} (h : sFault l = 0) : Right l := by
  unfold sFault at h
  by_cases h6 : l.length > 6
  · rw [if_pos h6] at h; cases h
  · rw [if_neg h6] at h
    obtain ⟨h1, h2, _⟩ := sFrom_ok l none h
    exact ⟨by omega, h1, h2⟩
/-- How many have a lower Id. -/
def pos (l : List SS) (a : Int) : Nat := (l.takeWhile fun s => decide (s.f0 < a)).length
/-- Is it there. -/
def here (l : List SS) (a : Int) : Bool := match l[pos l a]? with
  | some s => decide (s.f0 = a)
  | none => false
theorem pos_le (l : List SS) (a : Int) : pos l a ≤ l.length := take_pos_le _ l
theorem pos_iff {l : List SS} (h : Right l) (a : Int) (j : Nat) (hj : j < l.length) : (l[j]).f0 < a ↔ j < pos l a := by
  have := take_pos (fun s : SS => decide (s.f0 < a)) l (h.rise.imp (fun {x y} hxy hy => by
    have := of_decide_eq_true hy
    exact decide_eq_true (by omega))) j hj
  rw [decide_eq_true_eq] at this
  exact this
theorem search_l0 {l : List SS} (h : Right l) (a : Int) (ha : 1 ≤ a ∧ a ≤ 9) (d : Nat) : ∀ (lo hi : Nat), hi - lo ≤ d → lo ≤ pos l a → pos l a ≤ hi → hi ≤ l.length → Ev (fun k => slices_BinarySearchFunc_impl_Session_impl_Session_int64.l0 k l a (l.length : Int) (lo : Int) (hi : Int)) ((pos l a : Int), here l a) := by
  have h6 := h.few
  induction d with
  | zero =>
    intro lo hi hd h1 h2 h3
    have e : lo = pos l a := by omega
    subst e
    refine ev_done fun k => ?_
    simp only [slices_BinarySearchFunc_impl_Session_impl_Session_int64.l0]
    rw [if_neg (by omega)]
    by_cases hp : pos l a < l.length
    · have hg := h.good _ (List.getElem_mem hp)
      rw [if_pos (by omega), if_pos (by omega), if_pos (by omega), rd_T57_at hp]
      simp only [impl_sessionAt_1.f, Option.bind_some]
      rw [wrap_id (by omega) (by omega)]
      have e : here l a = decide ((l[pos l a]).f0 = a) := by unfold here; rw [List.getElem?_eq_getElem hp]
      rw [e]
      congr 2
      rw [Bool.eq_iff_iff]
      simp
      omega
    · rw [if_neg (by omega)]
      have e : here l a = false := by unfold here; rw [List.getElem?_eq_none (by omega)]
      rw [e]
  | succ d ih =>
    intro lo hi hd h1 h2 h3
    by_cases hlt : lo < hi
    · have hm : (lo + hi) / 2 < l.length := by omega
      have hg := h.good _ (List.getElem_mem hm)
      have hiff := pos_iff h a _ hm
      by_cases c : (l[(lo + hi) / 2]).f0 < a
      · refine ev_step (fun k => slices_BinarySearchFunc_impl_Session_impl_Session_int64.l0 k l a (l.length : Int) (((lo + hi) / 2 + 1 : Nat) : Int) (hi : Int)) (fun k => ?_) (ih _ _ (by omega) (by have := hiff.1 c; omega) h2 h3)
        simp only [slices_BinarySearchFunc_impl_Session_impl_Session_int64.l0]
        rw [mid_eq (by omega), if_pos (by omega), if_pos (by omega), if_pos (by omega), rd_T57_at hm]
        simp only [impl_sessionAt_1.f, Option.bind_some]
        rw [wrap_id (by omega) (by omega), if_pos (by omega), wrap_up hm (by omega)]
      · refine ev_step (fun k => slices_BinarySearchFunc_impl_Session_impl_Session_int64.l0 k l a (l.length : Int) (lo : Int) (((lo + hi) / 2 : Nat) : Int)) (fun k => ?_) (ih _ _ (by omega) h1 (by have := (not_congr hiff).1 c; omega) (by omega))
        simp only [slices_BinarySearchFunc_impl_Session_impl_Session_int64.l0]
        rw [mid_eq (by omega), if_pos (by omega), if_pos (by omega), if_pos (by omega), rd_T57_at hm]
        simp only [impl_sessionAt_1.f, Option.bind_some]
        rw [wrap_id (by omega) (by omega), if_neg (by omega)]
    · exact (fun e : hi - lo ≤ d => ih lo hi e h1 h2 h3) (by omega)
theorem at_impl {l : List SS} (h : Right l) (a : Int) (ha : 1 ≤ a ∧ a ≤ 9) : Ev (fun k => impl_sessionAt.f k l a) ((pos l a : Int), here l a) := by
  unfold impl_sessionAt.f slices_BinarySearchFunc_impl_Session_impl_Session_int64.f
  exact ev_call (search_l0 h a ha l.length 0 l.length (by omega) (by omega) (pos_le l a) (Nat.le_refl _)) (Ev.now _)
theorem at_spec_l0 {l : List SS} (h : Right l) (a : Int) (d : Nat) : ∀ (i : Nat), i + d = l.length → i ≤ pos l a → Ev (fun k => spec_l4At.l0 k l a (i : Int)) (if here l a then (pos l a : Int) else -1) := by
  have h6 := h.few
  induction d with
  | zero =>
    intro i hd hi
    have e : here l a = false := by unfold here; rw [List.getElem?_eq_none (by omega)]
    rw [e]
    exact ev_done fun k => by simp only [spec_l4At.l0]; rw [if_neg (by omega)]; simp
  | succ d ih =>
    intro i hd hi
    have hl : i < l.length := by omega
    by_cases c : (l[i]).f0 = a
    · have hp : pos l a = i := by
        have := (not_congr (pos_iff h a i hl)).1 (by omega)
        omega
      have e : here l a = true := by unfold here; rw [hp, List.getElem?_eq_getElem hl]; simp [c]
      rw [e, hp]
      exact ev_done fun k => by simp only [spec_l4At.l0]; rw [if_pos (by omega), if_pos (by omega), rd_T57_at hl, if_pos c]; simp
    · by_cases c2 : i < pos l a
      · refine ev_step (fun k => spec_l4At.l0 k l a ((i + 1 : Nat) : Int)) (fun k => ?_) (ih (i + 1) (by omega) c2)
        simp only [spec_l4At.l0]; rw [if_pos (by omega), if_pos (by omega), rd_T57_at hl, if_neg c, wrap_up hl (by omega)]
      · -- behind its place all are greater
        have hp : pos l a = i := by omega
        have e : here l a = false := by unfold here; rw [hp, List.getElem?_eq_getElem hl]; simp [c]
        have hgt : a < (l[i]).f0 := by
          have := (not_congr (pos_iff h a i hl)).2 c2
          omega
        have all : ∀ (d : Nat) (j : Nat), j + d = l.length → i ≤ j → Ev (fun k => spec_l4At.l0 k l a (j : Int)) (-1) := by
          intro d
          induction d with
          | zero => exact fun j hj _ => ev_done fun k => by simp only [spec_l4At.l0]; rw [if_neg (by omega)]
          | succ d ihd =>
            intro j hj hij
            have hjl : j < l.length := by omega
            have hne : ¬ (l[j]).f0 = a := by
              rcases Nat.eq_or_lt_of_le hij with e | e
              · subst e; exact c
              · have := List.pairwise_iff_getElem.1 h.rise i j hl hjl e
                omega
            refine ev_step (fun k => spec_l4At.l0 k l a ((j + 1 : Nat) : Int)) (fun k => ?_) (ihd (j + 1) (by omega) (by omega))
            simp only [spec_l4At.l0]; rw [if_pos (by omega), if_pos (by omega), rd_T57_at hjl, if_neg hne, wrap_up hjl (by omega)]
        rw [e]
        simpa using all (d + 1) i hd (Nat.le_refl i)
theorem at_spec {l : List SS} (h : Right l) (a : Int) : Ev (fun k => spec_l4At.f k l a) (if here l a then (pos l a : Int) else -1) := at_spec_l0 h a l.length 0 (by omega) (by omega)

theorem now_spec (a : Int) : spec_l4Now.f a = some (decide (0 ≤ a ∧ a ≤ 9000)) := by unfold spec_l4Now.f; rw [in_spec]; rfl
theorem now_impl (a : Int) : impl_isTime.f a = some (decide (0 ≤ a ∧ a ≤ 9000)) := by unfold impl_isTime.f; rw [in_impl]; rfl
/-- The code of sessions, an id and a time. -/
def askC (l : List SS) (a n : Int) : Int := if sFault l = 0 then (if (1 ≤ a ∧ a ≤ 9) ∧ (0 ≤ n ∧ n ≤ 9000) then 0 else 3) else sFault l
theorem ask_spec (l : List SS) (hl : l.length ≤ 4611686018427387904) (a n : Int) : Ev (fun k => spec_l4Asked.f k l a n) (askC l a n) := by
  unfold spec_l4Asked.f askC
  refine ev_call (specFault l hl) (ev_is fun k => ?_)
  by_cases h : sFault l = 0
  · rw [if_pos h, if_pos h, id_spec, now_spec]
    by_cases h1 : 1 ≤ a ∧ a ≤ 9 <;> by_cases h2 : 0 ≤ n ∧ n ≤ 9000 <;> simp [h1, h2]
  · rw [if_neg h, if_neg h]
theorem ask_impl (l : List SS) (hl : l.length ≤ 4611686018427387904) (a n : Int) : Ev (fun k => impl_sessionCode.f k l a n) (askC l a n) := by
  unfold impl_sessionCode.f askC
  refine ev_call (implFault l hl) (ev_is fun k => ?_)
  by_cases h : sFault l = 0
  · rw [if_pos h, if_pos h, id_impl, now_impl]
    by_cases h1 : 1 ≤ a ∧ a ≤ 9 <;> by_cases h2 : 0 ≤ n ∧ n ≤ 9000 <;> simp [h1, h2]
  · rw [if_neg h, if_neg h]
theorem askC_ok {l : List SS} {a n : Int} (h : askC l a n = 0) : Right l ∧ (1 ≤ a ∧ a ≤ 9) ∧ (0 ≤ n ∧ n ≤ 9000) := by
  unfold askC at h
  by_cases h1 : sFault l = 0
  · rw [if_pos h1] at h
    by_cases h2 : (1 ≤ a ∧ a ≤ 9) ∧ (0 ≤ n ∧ n ≤ 9000)
    · exact ⟨right_of h1, h2⟩
    · rw [if_neg h2] at h; cases h
  · rw [if_neg h1] at h; exact absurd h h1
def liveB (l : List SS) (a n : Int) : Bool := here l a && decide ((rd_T57 l (pos l a : Int)).f1 ≥ n)
theorem here_lt {l : List SS} {a : Int} (h : here l a = true) : pos l a < l.length := by
  unfold here at h
  cases hp : l[pos l a]? with
  | none => rw [hp] at h; cases h
  | some s => exact (List.getElem?_eq_some_iff.1 hp).1
theorem live_spec {l : List SS} (h : Right l) (a n : Int) : Ev (fun k => spec_l4Live.f k l a n) (liveB l a n) := by
  unfold spec_l4Live.f liveB
  refine ev_call (at_spec h a) (ev_is fun k => ?_)
  cases hh : here l a with
  | true =>
    have := here_lt hh
    rw [if_pos rfl, if_pos (by omega), if_pos (by omega), if_pos (by omega)]; simp
  | false => rw [if_neg (by simp)]; rfl
theorem live_impl {l : List SS} (h : Right l) (a n : Int) (ha : 1 ≤ a ∧ a ≤ 9) : Ev (fun k => impl_live.f k l a n) (liveB l a n) := by
  unfold impl_live.f liveB
  refine ev_call (at_impl h a ha) (ev_is fun k => ?_)
  cases hh : here l a with
  | true =>
    have := here_lt hh
    rw [if_pos rfl, if_pos (by show 0 ≤ (pos l a : Int); omega), if_pos (by show (pos l a : Int) < (l.length : Int); omega)]; simp
  | false => simp
end Go.Proofs.Ytdhmohidnidnfaa.Pure

/- A session opened: the program and the reference answer alike. -/
namespace Go.Proofs.Ytdhmohidnidnfaa.Pure
open Go.RowKit Go.Proofs.Ytdhmohidnidnfaa.Qc Go.Proofs.YtdhmohidnidnfaaW.PrintWords Go.Proofs.YtdhmohidnidnfaaW.PrintLast Go.Proofs.Ytdhmohidnidnfaa.Aid
def insS (l : List SS) (p : Nat) (z : SS) : List SS := l.take p ++ [z] ++ l.drop p
def openR (l : List SS) (a n : Int) : Int × List SS := if askC l a n = 0 then (if here l a = true then (6, []) else if l.length = 6 then (2, []) else (0, insS l (pos l a) ⟨a, wrap64 (n + 10)⟩)) else (askC l a n, [])
theorem clone_sess (l : List SS) (hl : l.length ≤ 1048576000) : slices_Clone_impl_Session_impl_Session.f l = some l := by
  unfold slices_Clone_impl_Session_impl_Session.f
  simp only [Option.bind_some, List.nil_append, List.length_nil, Nat.zero_add]
  rw [if_pos (by omega)]
theorem insert_sess {l : List SS} (hl : l.length ≤ 6) (p : Nat) (hp : p ≤ l.length) (z : SS) : slices_Insert_impl_Session_impl_Session.f l (p : Int) [z] = some (insS l p z) := by
  unfold slices_Insert_impl_Session_impl_Session.f
  rw [if_pos (by omega), if_pos (by omega), if_pos (show [z].length = 1 from rfl), if_pos (by omega), Int.toNat_natCast]
  rfl
theorem put_l0 {l : List SS} (h : Right l) (a n : Int) (d : Nat) : ∀ (i : Nat), i + d = l.length → i ≤ pos l a → Ev (fun k => spec_l4Open.l0 k l a n (i : Int)) (0, insS l (pos l a) ⟨a, wrap64 (n + 10)⟩) := by
  have h6 := h.few
  have fin : ∀ i : Nat, i ≤ l.length → (i < l.length → ¬ (rd_T57 l (i : Int)).f0 < a) → Ev (fun k => spec_l4Open.l0 k l a n (i : Int)) (0, insS l i ⟨a, wrap64 (n + 10)⟩) := by
    intro i hi hn
    have ht : (l.take i).length ≤ 6 := by rw [List.length_take]; omega
    have hd : (l.drop i).length ≤ 6 := by rw [List.length_drop]; omega
    refine ev_done fun k => ?_
    simp only [spec_l4Open.l0, Option.bind_some, List.nil_append, List.length_nil, Nat.zero_add, Int.toNat_natCast]
    have hs : ∀ z : SS, (l.take i ++ [z]).length ≤ 7 := fun z => by rw [List.length_append, List.length_singleton]; omega
    by_cases c : i < l.length
    · have hs' := hs (⟨a, wrap64 (n + 10)⟩ : SS)
      have q := hn c
      rw [if_pos (show (i : Int) < (l.length : Int) by omega), if_pos (show (0 : Int) ≤ (i : Int) by omega), if_neg q, if_pos (show (i : Int) ≤ (l.length : Int) by omega), if_pos (show (l.take i).length < 8796093022208 by omega), if_pos (show (l.take i).length < 8796093022208 by omega), if_pos (Nat.lt_of_le_of_lt (Nat.add_le_add hs' hd) (by omega))]
      rfl
    · have hs' := hs (⟨a, wrap64 (n + 10)⟩ : SS)
      rw [if_neg (show ¬ (i : Int) < (l.length : Int) by omega), if_pos (show (0 : Int) ≤ (i : Int) by omega), if_pos (show (i : Int) ≤ (l.length : Int) by omega), if_pos (show (l.take i).length < 8796093022208 by omega), if_pos (show (l.take i).length < 8796093022208 by omega), if_pos (Nat.lt_of_le_of_lt (Nat.add_le_add hs' hd) (by omega))]
      rfl
  induction d with
  | zero =>
    intro i hd hp
    have e : i = pos l a := by have := pos_le l a; omega
    rw [← e]
    exact fin i (by omega) (fun c => by omega)
  | succ d ih =>
    intro i hd hp
    have hi : i < l.length := by omega
    have hrd := rd_T57_at hi
    by_cases c : (l[i]).f0 < a
    · refine ev_step (fun k => spec_l4Open.l0 k l a n ((i + 1 : Nat) : Int)) (fun k => ?_) (ih (i + 1) (by omega) ((pos_iff h a i hi).1 c))
      simp only [spec_l4Open.l0]; rw [if_pos (by omega), if_pos (by omega), hrd, if_pos c, wrap_up hi (by omega)]
    · have e : i = pos l a := by have := (not_congr (pos_iff h a i hi)).1 c; omega
      rw [← e]
      exact fin i (by omega) (fun _ => by rw [hrd]; exact c)
theorem openR_bad {l : List SS} {a n : Int} (h : ¬ askC l a n = 0) : openR l a n = (askC l a n, []) := by unfold openR; exact if_neg h
theorem openR_here {l : List SS} {a n : Int} (h : askC l a n = 0) (hh : here l a = true) : openR l a n = (6, []) := by unfold openR; exact (if_pos h).trans (if_pos hh)
theorem openR_full {l : List SS} {a n : Int} (h : askC l a n = 0) (hh : ¬ here l a = true) (c : l.length = 6) : openR l a n = (2, []) := by unfold openR; exact (if_pos h).trans ((if_neg hh).trans (if_pos c))
theorem openR_put {l : List SS} {a n : Int} (h : askC l a n = 0) (hh : ¬ here l a = true) (c : ¬ l.length = 6) : openR l a n = (0, insS l (pos l a) ⟨a, wrap64 (n + 10)⟩) := by unfold openR; exact (if_pos h).trans ((if_neg hh).trans (if_neg c))
theorem OpenSession_spec (l : List SS) (hl : l.length ≤ 4611686018427387904) (a n : Int) : Ev (fun k => spec_OpenSession.f k l a n) (openR l a n) := by
  unfold spec_OpenSession.f
  refine ev_call (ask_spec l hl a n) ?_
  by_cases h : askC l a n = 0
  · obtain ⟨hR, ha, hn⟩ := askC_ok h
    have h6 := hR.few
    refine ev_cong (fun k => if_pos h) (ev_call (a := openR l a n) ?_ (Ev.now _))
    unfold spec_l4Open.f
    refine ev_call (at_spec hR a) ?_
    by_cases hh : here l a = true
    · rw [openR_here h hh, hh]
      exact ev_is fun k => if_pos (by show (0 : Int) ≤ if true = true then (pos l a : Int) else -1; rw [if_pos rfl]; omega)
    · have hf : here l a = false := Bool.eq_false_iff.2 hh
      have hneg : ¬ ((if here l a = true then (pos l a : Int) else -1) ≥ 0) := by rw [if_neg hh]; omega
      refine ev_cong (fun k => if_neg hneg) ?_
      by_cases c : l.length = 6
      · rw [openR_full h hh c]
        exact ev_is fun k => if_pos (by omega)
      · rw [openR_put h hh c]
        exact ev_cong (fun k => if_neg (by omega)) (put_l0 hR a n l.length 0 (by omega) (Nat.zero_le _))
  · rw [openR_bad h]
    exact ev_is fun k => if_neg h
theorem OpenSession_impl (l : List SS) (hl : l.length ≤ 4611686018427387904) (a n : Int) : Ev (fun k => impl_OpenSession.f k l a n) (openR l a n) := by
  unfold impl_OpenSession.f
  refine ev_call (ask_impl l hl a n) ?_
  by_cases h : askC l a n = 0
  · obtain ⟨hR, ha, hn⟩ := askC_ok h
    have h6 := hR.few
    refine ev_cong (fun k => if_pos h) (ev_call (at_impl hR a ha) ?_)
    by_cases hh : here l a = true
    · rw [openR_here h hh]
      exact ev_is fun k => if_pos hh
    · by_cases c : l.length = 6
      · rw [openR_full h hh c]
        exact ev_is fun k => (if_neg hh).trans (if_pos (by omega))
      · rw [openR_put h hh c]
        refine ev_is fun k => (if_neg hh).trans ((if_neg (by omega)).trans ?_)
        rw [clone_sess l (by omega), Option.bind_some]
        show (slices_Insert_impl_Session_impl_Session.f l (pos l a : Int) [(⟨a, wrap64 (n + 10)⟩ : SS)]).bind _ = _
        rw [insert_sess h6 _ (pos_le l a)]
        rfl
  · rw [openR_bad h]
    exact ev_is fun k => if_neg h
theorem openR_len (l : List SS) (a n : Int) : (openR l a n).2.length ≤ l.length + 1 := by
  unfold openR
  split
  · split
    · simp
    · split
      · simp
      · show (insS l _ _).length ≤ _
        unfold insS
        rw [List.length_append, List.length_append, List.length_take, List.length_drop, List.length_singleton]
        omega
  · simp
end Go.Proofs.Ytdhmohidnidnfaa.Pure

/- The draws' numbers: they answer, whatever the code, within what is asked. -/
namespace Go.Proofs.Ytdhmohidnidnfaa.Pure
open Go.RowKit Go.Proofs.Ytdhmohidnidnfaa.Qc Go.Proofs.YtdhmohidnidnfaaW.PrintWords Go.Proofs.YtdhmohidnidnfaaW.PrintLast Go.Proofs.Ytdhmohidnidnfaa.Aid
/-- A code that is drawn from. -/
structure CodeT (c : List Int) : Prop where
  byte : ∀ y ∈ c, 0 ≤ y ∧ y ≤ 255
  len : c.length ≤ 1048576
theorem next_is {c : List Int} (hc : CodeT c) (a n : Int) (h0 : 0 ≤ a) (h1 : a ≤ 1000000) (n0 : 1 ≤ n) (n1 : n ≤ 1000000) : ∃ r : Int, spec_l1Next.f c a n = some (r, a + 1) ∧ 0 ≤ r ∧ r < n := by
  have w1 : wrap64 (a + 1) = a + 1 := wrap_id (by omega) (by omega)
  have w2 : wrap64 (a + 1 - 1) = a := by rw [wrap_id (by omega) (by omega)]; omega
  have a1 : ¬ n < 1 := by omega
  have a2 : ¬ n = 0 := by omega
  have hl := hc.len
  unfold spec_l1Next.f
  rw [if_neg a1, w1, w2]
  by_cases hk : (c.length : Int) = 0
  · have w3 : wrap64 (a * 7) = a * 7 := wrap_id (by omega) (by omega)
    rw [if_pos hk, if_neg a2, w3]
    exact ⟨_, rfl, Int.tmod_nonneg _ (by omega), Int.tmod_lt_of_pos _ (by omega)⟩
  · have hp : (0 : Int) < (c.length : Int) := by omega
    have t0 : 0 ≤ Int.tmod a (c.length : Int) := Int.tmod_nonneg _ h0
    have t1 : Int.tmod a (c.length : Int) < (c.length : Int) := Int.tmod_lt_of_pos _ hp
    have u0 : 0 ≤ Int.tmod (a + 1) (c.length : Int) := Int.tmod_nonneg _ (by omega)
    have u1 : Int.tmod (a + 1) (c.length : Int) < (c.length : Int) := Int.tmod_lt_of_pos _ hp
    have t2 : Int.tdiv a (c.length : Int) = a / (c.length : Int) := Int.tdiv_eq_ediv_of_nonneg h0
    have t3 : 0 ≤ a / (c.length : Int) := Int.ediv_nonneg h0 (by omega)
    have t4 : a / (c.length : Int) ≤ a := Int.ediv_le_self _ h0
    rw [if_neg hk, if_pos t0, if_pos t1, t2]
    obtain ⟨j, hj⟩ : ∃ j : Nat, Int.tmod a (c.length : Int) = (j : Int) := ⟨(Int.tmod a (c.length : Int)).toNat, by omega⟩
    obtain ⟨j2, hj2⟩ : ∃ j2 : Nat, Int.tmod (a + 1) (c.length : Int) = (j2 : Int) := ⟨(Int.tmod (a + 1) (c.length : Int)).toNat, by omega⟩
    rw [hj2] at u0 u1
    rw [hj] at t1
    rw [w1, hj2, hj]
    have hjl : j < c.length := by omega
    have hjl2 : j2 < c.length := by omega
    rw [rd_at hjl, rd_at hjl2, if_pos u0, if_pos u1, if_neg a2, if_neg a2]
    obtain ⟨b0, b1⟩ := hc.byte c[j] (List.getElem_mem hjl)
    obtain ⟨d0, d1⟩ := hc.byte c[j2] (List.getElem_mem hjl2)
    generalize c[j] = v at b0 b1 ⊢
    generalize c[j2] = x at d0 d1 ⊢
    generalize a / (c.length : Int) = q at t3 t4 ⊢
    have w3 : wrap64 q = q := wrap_id (by omega) (by omega)
    have w4 : wrap64 (q * 37) = q * 37 := wrap_id (by omega) (by omega)
    have w5 : wrap64 v = v := wrap_id (by omega) (by omega)
    have w6 : wrap64 (v + q * 37) = v + q * 37 := wrap_id (by omega) (by omega)
    have w7 : wrap64 ((v + q * 37) * 251) = (v + q * 37) * 251 := wrap_id (by omega) (by omega)
    have w8 : wrap64 x = x := wrap_id (by omega) (by omega)
    have w9 : wrap64 (x * 13) = x * 13 := wrap_id (by omega) (by omega)
    have w10 : wrap64 ((v + q * 37) * 251 + x * 13) = (v + q * 37) * 251 + x * 13 := wrap_id (by omega) (by omega)
    have w11 : wrap64 ((v + q * 37) * 251 + x * 13 + a) = (v + q * 37) * 251 + x * 13 + a := wrap_id (by omega) (by omega)
    rw [w3, w4, w5, w6, w7, w8, w9, w10, w11]
    by_cases a3 : n > 200
    · rw [if_pos a3]
      exact ⟨_, rfl, Int.tmod_nonneg _ (by omega), Int.tmod_lt_of_pos _ (by omega)⟩
    · rw [if_neg a3]
      exact ⟨_, rfl, Int.tmod_nonneg _ (by omega), Int.tmod_lt_of_pos _ (by omega)⟩
theorem pick_is {c : List Int} (hc : CodeT c) (a : Int) (l : List Int) (h0 : 0 ≤ a) (h1 : a ≤ 1000000) (n0 : 1 ≤ l.length) (n1 : l.length ≤ 1000) : ∃ r : Int, spec_l1Pick.f c a l = some (r, a + 1) ∧ r ∈ l := by
  obtain ⟨r, hr, r0, r1⟩ := next_is hc a (l.length : Int) h0 h1 (by omega) (by omega)
  obtain ⟨j, rfl⟩ : ∃ j : Nat, r = (j : Int) := ⟨r.toNat, by omega⟩
  have hj : j < l.length := by omega
  refine ⟨l[j], ?_, List.getElem_mem hj⟩
  unfold spec_l1Pick.f
  rw [hr, Option.bind_some, if_pos r0, if_pos r1, rd_at hj]
theorem code_of {c : List Int} (h : c.length ≤ 9223372036854775807 ∧ ∀ y_ ∈ c, (Lit.int .u8 y_).wf = true) (hb : ¬ (c.length : Int) > 1048576) : CodeT c := by
  refine ⟨fun y hy => ?_, by omega⟩
  have h' : (decide (IntKind.u8.min ≤ y) && decide (y ≤ IntKind.u8.max)) = true := h.2 y hy
  simp only [Bool.and_eq_true, decide_eq_true_eq] at h'
  exact h'
end Go.Proofs.Ytdhmohidnidnfaa.Pure

/- Sessions: a right list stays right when one is opened; who is there then. -/
namespace Go.Proofs.Ytdhmohidnidnfaa.Pure
open Go.RowKit Go.Proofs.Ytdhmohidnidnfaa.Qc Go.Proofs.YtdhmohidnidnfaaW.PrintWords Go.Proofs.YtdhmohidnidnfaaW.PrintLast Go.Proofs.Ytdhmohidnidnfaa.Aid
theorem fault_from : ∀ (l : List SS) (prev : Option Int), (∀ s ∈ l, 1 ≤ s.f0 ∧ s.f0 ≤ 9 ∧ 0 ≤ s.f1 ∧ s.f1 ≤ 9999) → l.Pairwise (fun x y => x.f0 < y.f0) → (∀ p, prev = some p → ∀ s ∈ l, p < s.f0) → sFrom prev l = 0
  | [], _, _, _, _ => rfl
  | s :: r, prev, h1, h2, h3 => by
    obtain ⟨g1, g2⟩ := List.pairwise_cons.1 h2
    have hs := h1 s (by simp)
    have hb : sBad s = false := by
      unfold sBad
      rw [decide_eq_true (show 1 ≤ s.f0 ∧ s.f0 ≤ 9 from ⟨hs.1, hs.2.1⟩), decide_eq_true (show 0 ≤ s.f1 ∧ s.f1 ≤ 9999 from hs.2.2)]
      rfl
    have ho : sOne prev s = 0 := by
      unfold sOne
      rw [if_neg (by rw [hb]; decide)]
      cases prev with
      | none => rfl
      | some p =>
        have := h3 p rfl s (by simp)
        exact if_neg (by omega)
    rw [sFrom_cons, if_pos ho]
    exact fault_from r (some s.f0) (fun x hx => h1 x (List.mem_cons_of_mem _ hx)) g2 (fun p hp x hx => by cases hp; exact g1 x hx)
theorem fault_of {l : List SS} (h : Right l) : sFault l = 0 := by
  have h6 := h.few
  unfold sFault
  rw [if_neg (by omega)]
  exact fault_from l none h.good h.rise (fun p hp => by cases hp)
theorem ask_of {l : List SS} (h : Right l) {a n : Int} (ha : 1 ≤ a ∧ a ≤ 9) (hn : 0 ≤ n ∧ n ≤ 9000) : askC l a n = 0 := by
  unfold askC
  rw [if_pos (fault_of h), if_pos ⟨ha, hn⟩]
/-- Whose Id it is: its place, and it is there. -/
theorem place_of {l : List SS} (h : Right l) (j : Nat) (hj : j < l.length) : pos l (l[j]).f0 = j ∧ here l (l[j]).f0 = true := by
  have h1 := pos_iff h (l[j]).f0 j hj
  have h2 : ¬ j < pos l (l[j]).f0 := fun c => by have := h1.2 c; omega
  have h3 : ¬ pos l (l[j]).f0 < j := fun c => by
    have hp : pos l (l[j]).f0 < l.length := by omega
    have := (List.pairwise_iff_getElem.1 h.rise) _ _ hp hj c
    have := (pos_iff h (l[j]).f0 _ hp).1 this
    omega
  have e : pos l (l[j]).f0 = j := by omega
  refine ⟨e, ?_⟩
  unfold here
  rw [e, List.getElem?_eq_getElem hj]
  exact decide_eq_true rfl
theorem not_here {l : List SS} (h : Right l) {a : Int} (hh : ¬ here l a = true) {s : SS} (hs : s ∈ l) : s.f0 ≠ a := by
  intro e
  obtain ⟨j, hj, rfl⟩ := List.getElem_of_mem hs
  exact hh (by rw [← e]; exact (place_of h j hj).2)
theorem right_ins {l : List SS} (h : Right l) {a v : Int} (hh : ¬ here l a = true) (h6 : ¬ l.length = 6) (ha : 1 ≤ a ∧ a ≤ 9) (hv : 0 ≤ v ∧ v ≤ 9999) : Right (insS l (pos l a) ⟨a, v⟩) := by
  have hp := pos_le l a
  have hf := h.few
  have lo : ∀ s ∈ l.take (pos l a), s.f0 < a := by
    intro s hs
    obtain ⟨j, hj, rfl⟩ := List.getElem_of_mem hs
    rw [List.length_take] at hj
    rw [List.getElem_take]
    exact (pos_iff h a j (by omega)).2 (by omega)
  have hi : ∀ s ∈ l.drop (pos l a), a < s.f0 := by
    intro s hs
    have hne := not_here h hh (List.mem_of_mem_drop hs)
    obtain ⟨j, hj, rfl⟩ := List.getElem_of_mem hs
    rw [List.length_drop] at hj
    rw [List.getElem_drop] at hne ⊢
    have := (not_congr (pos_iff h a (pos l a + j) (by omega))).2 (by omega)
    omega
  refine ⟨?_, ?_, ?_⟩
  · unfold insS
    rw [List.length_append, List.length_append, List.length_take, List.length_drop, List.length_singleton]
    omega
  · intro s hs
    unfold insS at hs
    rcases List.mem_append.1 hs with hs | hs
    · rcases List.mem_append.1 hs with hs | hs
      · exact h.good s (List.mem_of_mem_take hs)
      · rw [List.mem_singleton] at hs
        subst hs
        exact ⟨ha.1, ha.2, hv.1, hv.2⟩
    · exact h.good s (List.mem_of_mem_drop hs)
  · unfold insS
    refine List.pairwise_append.2 ⟨List.pairwise_append.2 ⟨h.rise.sublist (List.take_sublist _ _), List.pairwise_singleton _ _, ?_⟩, h.rise.sublist (List.drop_sublist _ _), ?_⟩
    · intro x hx y hy
      rw [List.mem_singleton] at hy
      subst hy
      exact lo x hx
    · intro x hx y hy
      rcases List.mem_append.1 hx with hx | hx
      · have := lo x hx; have := hi y hy; omega
      · rw [List.mem_singleton] at hx
        subst hx
        exact hi y hy
theorem ins_at {l : List SS} {p : Nat} (hp : p ≤ l.length) (z : SS) : ∃ h : p < (insS l p z).length, (insS l p z)[p] = z := by
  have hl : (insS l p z).length = l.length + 1 := by
    unfold insS
    rw [List.length_append, List.length_append, List.length_take, List.length_drop, List.length_singleton]
    omega
  refine ⟨by omega, ?_⟩
  have e : (insS l p z)[p]? = some z := by
    unfold insS
    have ht : (l.take p).length = p := by rw [List.length_take]; omega
    rw [List.append_assoc, List.getElem?_append_right (by omega), ht, Nat.sub_self]
    rfl
  rw [List.getElem?_eq_getElem (by omega)] at e
  exact Option.some.inj e
theorem live_ins {l : List SS} (h : Right l) {a v : Int} (hh : ¬ here l a = true) (h6 : ¬ l.length = 6) (ha : 1 ≤ a ∧ a ≤ 9) (hv : 0 ≤ v ∧ v ≤ 9999) (n : Int) : here (insS l (pos l a) ⟨a, v⟩) a = true ∧ liveB (insS l (pos l a) ⟨a, v⟩) a n = decide (v ≥ n) := by
  have hr := right_ins h hh h6 ha hv
  obtain ⟨hp, hz⟩ := ins_at (pos_le l a) (⟨a, v⟩ : SS)
  obtain ⟨e1, e2⟩ := place_of hr _ hp
  rw [hz] at e1 e2
  have e1' : pos (insS l (pos l a) ⟨a, v⟩) a = pos l a := e1
  have e2' : here (insS l (pos l a) ⟨a, v⟩) a = true := e2
  refine ⟨e2', ?_⟩
  unfold liveB
  rw [e2', e1', rd_T57_at hp, hz]
  rfl
/-- One session opened in a right list, by the reference. -/
theorem open_in {l : List SS} (h : Right l) {a n : Int} (ha : 1 ≤ a ∧ a ≤ 9) (hn : 0 ≤ n ∧ n ≤ 9000) : ∃ r : Int × List SS, Ev (fun k => spec_l4Open.f k l a n) r ∧ (r.1 = 0 → Right r.2) := by
  have h6 := h.few
  have wn : wrap64 (n + 10) = n + 10 := wrap_id (by omega) (by omega)
  by_cases hh : here l a = true
  · refine ⟨(6, []), ?_, fun e => by cases e⟩
    unfold spec_l4Open.f
    refine ev_call (at_spec h a) ?_
    rw [hh]
    exact ev_is fun k => if_pos (by show (0 : Int) ≤ if true = true then (pos l a : Int) else -1; rw [if_pos rfl]; omega)
  · have hneg : ¬ ((if here l a = true then (pos l a : Int) else -1) ≥ 0) := by rw [if_neg hh]; omega
    by_cases c : l.length = 6
    · refine ⟨(2, []), ?_, fun e => by cases e⟩
      unfold spec_l4Open.f
      refine ev_call (at_spec h a) (ev_cong (fun k => if_neg hneg) (ev_is fun k => if_pos (by omega)))
    · refine ⟨(0, insS l (pos l a) ⟨a, wrap64 (n + 10)⟩), ?_, fun _ => ?_⟩
      · unfold spec_l4Open.f
        exact ev_call (at_spec h a) (ev_cong (fun k => if_neg hneg) (ev_cong (fun k => if_neg (by omega)) (put_l0 h a n l.length 0 (by omega) (Nat.zero_le _))))
      · rw [wn]
        exact right_ins h hh c ha (by omega)
theorem right_nil : Right [] := ⟨by simp, by simp, List.Pairwise.nil⟩
theorem sRight_l0 {c : List Int} (hc : CodeT c) (d : Nat) : ∀ (out : List SS) (a : Int), Right out → d ≤ 10 → 0 ≤ a → a + 2 * d ≤ 1000 → ∃ (x : List SS) (b : Int), Ev (fun k => spec_l4Right.l0 k out (d : Int) c a) (x, b) ∧ Right x ∧ a ≤ b ∧ b ≤ a + 2 * d := by
  induction d with
  | zero => exact fun out a ho _ h0 h1 => ⟨out, a, ev_done fun k => by simp only [spec_l4Right.l0]; rw [if_neg (by omega)], ho, by omega, by omega⟩
  | succ d ih =>
    intro out a ho hd h0 h1
    obtain ⟨r, hr, r0, r1⟩ := next_is hc a 4 h0 (by omega) (by omega) (by omega)
    obtain ⟨s, hs, s0, s1⟩ := next_is hc (a + 1) 20 (by omega) (by omega) (by omega) (by omega)
    have w1 : wrap64 (1 + r) = 1 + r := wrap_id (by omega) (by omega)
    have wd : wrap64 (((d + 1 : Nat) : Int) - 1) = (d : Int) := by rw [wrap_id (by omega) (by omega)]; omega
    obtain ⟨q, hq, hg⟩ := open_in ho (a := 1 + r) (n := s) (by omega) (by omega)
    by_cases g : q.1 = 0
    · obtain ⟨x, b, hx, hR, hb⟩ := ih q.2 (a + 1 + 1) (hg g) (by omega) (by omega) (by omega)
      refine ⟨x, b, ev_step (fun k => (spec_l4Open.f k out (1 + r) s).bind fun bt => if bt.1 = 0 then spec_l4Right.l0 k bt.2 (d : Int) c (a + 1 + 1) else spec_l4Right.l0 k out (d : Int) c (a + 1 + 1)) (fun k => ?_) (ev_call hq (ev_cong (fun k => if_pos g) hx)), hR, by omega⟩
      simp only [spec_l4Right.l0]
      rw [if_pos (by omega), hr, Option.bind_some, hs, Option.bind_some, w1, wd]
    · obtain ⟨x, b, hx, hR, hb⟩ := ih out (a + 1 + 1) ho (by omega) (by omega) (by omega)
      refine ⟨x, b, ev_step (fun k => (spec_l4Open.f k out (1 + r) s).bind fun bt => if bt.1 = 0 then spec_l4Right.l0 k bt.2 (d : Int) c (a + 1 + 1) else spec_l4Right.l0 k out (d : Int) c (a + 1 + 1)) (fun k => ?_) (ev_call hq (ev_cong (fun k => if_neg g) hx)), hR, by omega⟩
      simp only [spec_l4Right.l0]
      rw [if_pos (by omega), hr, Option.bind_some, hs, Option.bind_some, w1, wd]
theorem sRight_ev {c : List Int} (hc : CodeT c) (a : Int) (h0 : 0 ≤ a) (h1 : a ≤ 500) : ∃ (x : List SS) (b : Int), Ev (fun k => spec_l4Right.f k c a) (x, b) ∧ Right x ∧ a ≤ b ∧ b ≤ a + 9 := by
  obtain ⟨r, hr, r0, r1⟩ := next_is hc a 5 h0 (by omega) (by omega) (by omega)
  obtain ⟨d, rfl⟩ : ∃ d : Nat, r = (d : Int) := ⟨r.toNat, by omega⟩
  obtain ⟨x, b, hx, hR, hb⟩ := sRight_l0 hc d [] (a + 1) right_nil (by omega) (by omega) (by omega)
  refine ⟨x, b, ?_, hR, by omega⟩
  unfold spec_l4Right.f
  exact ev_cong (fun k => by rw [hr, Option.bind_some]) hx
theorem sBent_ev {c : List Int} (hc : CodeT c) (a : Int) (h0 : 0 ≤ a) (h1 : a ≤ 500) : ∃ (x : List SS) (b : Int), Ev (fun k => spec_l4Bent.f k c a) (x, b) ∧ x.length ≤ 7 ∧ a ≤ b ∧ b ≤ a + 20 := by
  obtain ⟨x, b, hx, hR, hb⟩ := sRight_ev hc a h0 h1
  have h6 := hR.few
  obtain ⟨r, hr, r0, r1⟩ := next_is hc b 12 (by omega) (by omega) (by omega) (by omega)
  obtain ⟨p, hp, _⟩ := pick_is hc (b + 1) [0, 1, 9, 10] (by omega) (by omega) (by simp) (by simp)
  obtain ⟨q, hq, _⟩ := pick_is hc (b + 1 + 1) [5, (-1)] (by omega) (by omega) (by simp) (by simp)
  by_cases c0 : r = 0
  · refine ⟨x ++ [(⟨p, q⟩ : SS)], b + 1 + 1 + 1, ?_, by simp; omega, by omega, by omega⟩
    unfold spec_l4Bent.f
    refine ev_call hx (ev_is fun k => ?_)
    dsimp only
    rw [hr, Option.bind_some, if_pos c0, hp, Option.bind_some, hq, Option.bind_some, if_pos (by omega)]
  · by_cases c1 : r = 1
    · refine ⟨List.replicate 7 z57, b + 1, ?_, by rw [List.length_replicate]; omega, by omega, by omega⟩
      unfold spec_l4Bent.f
      refine ev_call hx (ev_is fun k => ?_)
      dsimp only
      rw [hr, Option.bind_some, if_neg c0, if_pos c1, if_pos (by omega)]
    · refine ⟨x, b + 1, ?_, by omega, by omega, by omega⟩
      unfold spec_l4Bent.f
      refine ev_call hx (ev_is fun k => ?_)
      dsimp only
      rw [hr, Option.bind_some, if_neg c0, if_neg c1]
theorem drawOpen_ev {c : List Int} (hc : CodeT c) : ∃ (x : List SS) (i n : Int), Ev (fun k => spec_DrawOpenSession.f k c) (x, i, n) ∧ x.length ≤ 7 := by
  obtain ⟨x, b, hx, hl, hb0, hb⟩ := sBent_ev hc 0 (by omega) (by omega)
  obtain ⟨r1, e1, r10, r11⟩ := next_is hc b 4 (by omega) (by omega) (by omega) (by omega)
  obtain ⟨r2, e2, r20, r21⟩ := next_is hc (b + 1) 4 (by omega) (by omega) (by omega) (by omega)
  obtain ⟨i, e3, _⟩ := pick_is hc (b + 1 + 1) [wrap64 (1 + r1), wrap64 (1 + r2), 0, 10] (by omega) (by omega) (by simp) (by simp)
  obtain ⟨r4, e4, r40, r41⟩ := next_is hc (b + 1 + 1 + 1) 40 (by omega) (by omega) (by omega) (by omega)
  obtain ⟨r5, e5, r50, r51⟩ := next_is hc (b + 1 + 1 + 1 + 1) 40 (by omega) (by omega) (by omega) (by omega)
  obtain ⟨n, e6, _⟩ := pick_is hc (b + 1 + 1 + 1 + 1 + 1) [r4, r5, 9000, 9001, (-1)] (by omega) (by omega) (by simp) (by simp)
  refine ⟨x, i, n, ?_, hl⟩
  unfold spec_DrawOpenSession.f spec_l4With.f spec_l1Source.f
  refine ev_call (a := (x, i, n)) (ev_cong (fun k => by rw [Option.bind_some]) (ev_call hx (ev_is fun k => ?_))) (Ev.now _)
  dsimp only
  rw [e1, Option.bind_some, e2, Option.bind_some, e3, Option.bind_some, e4, Option.bind_some, e5, Option.bind_some, e6, Option.bind_some]
end Go.Proofs.Ytdhmohidnidnfaa.Pure

/- A session touched: the program and the reference answer alike. -/
namespace Go.Proofs.Ytdhmohidnidnfaa.Pure
open Go.RowKit Go.Proofs.Ytdhmohidnidnfaa.Qc Go.Proofs.YtdhmohidnidnfaaW.PrintWords Go.Proofs.YtdhmohidnidnfaaW.PrintLast Go.Proofs.Ytdhmohidnidnfaa.Aid
def touched (l : List SS) (a n : Int) : List SS := l.set (pos l a) ⟨(rd_T57 l (pos l a : Int)).f0, wrap64 (n + 10)⟩
def touchR (l : List SS) (a n : Int) : Int × List SS := if askC l a n = 0 then (if liveB l a n then (0, touched l a n) else (9, [])) else (askC l a n, [])
theorem live_here {l : List SS} {a n : Int} (h : liveB l a n = true) : here l a = true := by
  unfold liveB at h
  cases hh : here l a with
  | true => rfl
  | false => rw [hh] at h; simp at h
theorem touch_spec {l : List SS} (h : Right l) (a n : Int) : Ev (fun k => spec_l4Touch.f k l a n) (if liveB l a n then (0, touched l a n) else (9, [])) := by
  have h6 := h.few
  unfold spec_l4Touch.f
  refine ev_call (live_spec h a n) ?_
  cases hb : liveB l a n with
  | false => exact ev_is fun k => by simp
  | true =>
    have hh := live_here hb
    have hp := here_lt hh
    refine ev_cong (f := fun k => (spec_l4At.f k l a).bind fun t109 => (if 0 ≤ t109 then (if t109 < (l.length : Int) then (some ((0 : Int), (l.set (t109 : Int).toNat (⟨(rd_T57 l t109).f0, wrap64 (n + 10)⟩ : SS)))) else (none)) else (none))) (fun k => ?_) ?_
    · rw [if_pos rfl]
      simp only [Option.bind_some, List.nil_append, List.length_nil, Nat.zero_add]
      rw [if_pos (by omega)]
    · refine ev_call (at_spec h a) (ev_is fun k => ?_)
      rw [if_pos hh, if_pos (by omega), if_pos (by omega), Int.toNat_natCast]
      rfl
theorem TouchSession_spec (l : List SS) (hl : l.length ≤ 4611686018427387904) (a n : Int) : Ev (fun k => spec_TouchSession.f k l a n) (touchR l a n) := by
  unfold spec_TouchSession.f touchR
  refine ev_call (ask_spec l hl a n) ?_
  by_cases h : askC l a n = 0
  · rw [if_pos h]
    refine ev_cong (fun k => if_pos h) (ev_call (touch_spec (askC_ok h).1 a n) (Ev.now _))
  · rw [if_neg h]
    exact ev_is fun k => if_neg h
theorem TouchSession_impl (l : List SS) (hl : l.length ≤ 4611686018427387904) (a n : Int) : Ev (fun k => impl_TouchSession.f k l a n) (touchR l a n) := by
  unfold impl_TouchSession.f touchR
  refine ev_call (ask_impl l hl a n) ?_
  by_cases h : askC l a n = 0
  · rw [if_pos h]
    obtain ⟨hR, ha, hn⟩ := askC_ok h
    have h6 := hR.few
    refine ev_cong (fun k => if_pos h) (ev_call (live_impl hR a n ha) ?_)
    cases hb : liveB l a n with
    | false => exact ev_is fun k => by simp
    | true =>
      have hh := live_here hb
      have hp := here_lt hh
      refine ev_cong (fun k => if_pos rfl) (ev_call (ev_is fun _ => clone_sess l (by omega)) (ev_call (at_impl hR a ha) (ev_is fun k => ?_)))
      rw [if_pos (by show 0 ≤ (pos l a : Int); omega), if_pos (by show (pos l a : Int) < (l.length : Int); omega), Int.toNat_natCast]
      rfl
  · rw [if_neg h]
    exact ev_is fun k => if_neg h
end Go.Proofs.Ytdhmohidnidnfaa.Pure

/- Sessions split: the program answers what is told. -/
namespace Go.Proofs.Ytdhmohidnidnfaa.Pure
open Go.RowKit Go.Proofs.Ytdhmohidnidnfaa.Qc Go.Proofs.YtdhmohidnidnfaaW.PrintWords Go.Proofs.YtdhmohidnidnfaaW.PrintLast Go.Proofs.Ytdhmohidnidnfaa.Aid
def liveL (n : Int) (l : List SS) : List SS := l.filter fun s => decide (s.f1 ≥ n)
def overL (n : Int) (l : List SS) : List Int := (l.filter fun s => !decide (s.f1 ≥ n)).map fun s => s.f0
theorem split_impl_l0 (l : List SS) (hl : l.length ≤ 1000) (n : Int) (d : Nat) : ∀ (i : Nat) (u : List SS) (v : List Int), i + d = l.length → u.length ≤ i → v.length ≤ i → Ev (fun k => impl_SplitSessions.l0 k n l (l.length : Int) (i : Int) 0 u v) ((0 : Int), u ++ liveL n (l.drop i), v ++ overL n (l.drop i)) := by
  induction d with
  | zero =>
    intro i u v h hu hv
    rw [drop_end (by omega)]
    exact ev_done fun k => by simp only [impl_SplitSessions.l0]; rw [if_neg (by omega)]; simp [liveL, overL]
  | succ d ih =>
    intro i u v h hu hv
    have hi : i < l.length := by omega
    rw [drop_at hi]
    by_cases c : (l[i]).f1 ≥ n
    · have e1 : liveL n (l[i] :: l.drop (i + 1)) = [l[i]] ++ liveL n (l.drop (i + 1)) := by unfold liveL; rw [List.filter_cons_of_pos (by simpa using c)]; rfl
      have e2 : overL n (l[i] :: l.drop (i + 1)) = overL n (l.drop (i + 1)) := by unfold overL; rw [List.filter_cons_of_neg (by simpa using c)]
      rw [e1, e2, ← List.append_assoc]
      refine ev_step (fun k => impl_SplitSessions.l0 k n l (l.length : Int) ((i + 1 : Nat) : Int) 0 (u ++ [l[i]]) v) (fun k => ?_) (ih (i + 1) (u ++ [l[i]]) v (by omega) (by simp; omega) (by omega))
      simp only [impl_SplitSessions.l0]; rw [if_pos (by omega), if_pos (by omega), if_pos (by omega), rd_T57_at hi, if_pos c, if_pos (by omega), wrap_up hi (by omega)]
    · have e1 : liveL n (l[i] :: l.drop (i + 1)) = liveL n (l.drop (i + 1)) := by unfold liveL; rw [List.filter_cons_of_neg (by simpa using c)]
      have e2 : overL n (l[i] :: l.drop (i + 1)) = [(l[i]).f0] ++ overL n (l.drop (i + 1)) := by unfold overL; rw [List.filter_cons_of_pos (by simpa using c)]; rfl
      rw [e1, e2, ← List.append_assoc]
      refine ev_step (fun k => impl_SplitSessions.l0 k n l (l.length : Int) ((i + 1 : Nat) : Int) 0 u (v ++ [(l[i]).f0])) (fun k => ?_) (ih (i + 1) u (v ++ [(l[i]).f0]) (by omega) (by omega) (by simp; omega))
      simp only [impl_SplitSessions.l0]; rw [if_pos (by omega), if_pos (by omega), if_pos (by omega), rd_T57_at hi, if_neg c, if_pos (by omega), wrap_up hi (by omega)]
def splitR (l : List SS) (n : Int) : Int × List SS × List Int := if askC l 1 n = 0 then (0, liveL n l, overL n l) else (askC l 1 n, [], [])
theorem SplitSessions_impl (l : List SS) (hl : l.length ≤ 4611686018427387904) (n : Int) : Ev (fun k => impl_SplitSessions.f k l n) (splitR l n) := by
  unfold impl_SplitSessions.f splitR
  refine ev_call (ask_impl l hl 1 n) ?_
  by_cases h : askC l 1 n = 0
  · rw [if_pos h]
    have h6 := (askC_ok h).1.few
    exact ev_cong (fun k => if_pos h) (split_impl_l0 l (by omega) n l.length 0 [] [] (by omega) (by simp) (by simp))
  · rw [if_neg h]
    exact ev_is fun k => if_neg h
theorem split_len (l : List SS) (n : Int) : (splitR l n).2.1.length ≤ l.length ∧ (splitR l n).2.2.length ≤ l.length := by
  unfold splitR liveL overL
  split
  · exact ⟨List.length_filter_le _ _, by simpa using List.length_filter_le _ _⟩
  · simp
end Go.Proofs.Ytdhmohidnidnfaa.Pure

/- Whether a session lives: the program answers what is told. -/
namespace Go.Proofs.Ytdhmohidnidnfaa.Pure
open Go.RowKit Go.Proofs.Ytdhmohidnidnfaa.Qc Go.Proofs.YtdhmohidnidnfaaW.PrintWords Go.Proofs.YtdhmohidnidnfaaW.PrintLast Go.Proofs.Ytdhmohidnidnfaa.Aid
def liveR (l : List SS) (a n : Int) : Bool := if askC l a n = 0 then liveB l a n else false
theorem LiveSession_impl (l : List SS) (hl : l.length ≤ 4611686018427387904) (a n : Int) : Ev (fun k => impl_LiveSession.f k l a n) (liveR l a n) := by
  unfold impl_LiveSession.f liveR
  refine ev_call (ask_impl l hl a n) ?_
  by_cases h : askC l a n = 0
  · rw [if_pos h]
    exact ev_cong (fun k => if_pos h) (ev_call (live_impl (askC_ok h).1 a n (askC_ok h).2.1) (Ev.now _))
  · rw [if_neg h]
    exact ev_is fun k => if_neg h
end Go.Proofs.Ytdhmohidnidnfaa.Pure

/- FnSessions: a session that is opened lives for its time, and no longer: for every code. No condition. -/
namespace Go.Proofs.Ytdhmohidnidnfaa.Pure
open Go.RowKit Go.Proofs.Ytdhmohidnidnfaa.Qc Go.Proofs.YtdhmohidnidnfaaW.PrintWords Go.Proofs.YtdhmohidnidnfaaW.PrintLast Go.Proofs.Ytdhmohidnidnfaa.Aid
theorem has_l0 (l : List Int) (v : Int) (hl : l.length ≤ 1000) (hv : ¬ v ∈ l) (d : Nat) : ∀ (i : Nat), i + d = l.length → Ev (fun k => laws_lwHas.l0 k l v (i : Int)) false := by
  induction d with
  | zero => exact fun i h => ev_done fun k => by simp only [laws_lwHas.l0]; rw [if_neg (by omega)]
  | succ d ih =>
    intro i h
    have hi : i < l.length := by omega
    have hne : ¬ l[i] = v := fun e => hv (e ▸ List.getElem_mem hi)
    refine ev_step _ (fun k => ?_) (ih (i + 1) (by omega))
    simp only [laws_lwHas.l0]
    rw [if_pos (by omega), if_pos (by omega), rd_at hi, if_neg hne, wrap_up hi (by omega)]
theorem has_not {l : List Int} {v : Int} (hl : l.length ≤ 1000) (hv : ¬ v ∈ l) : Ev (fun k => laws_lwHas.f k l v) false := has_l0 l v hl hv l.length 0 (by omega)
theorem split_sum (n : Int) : ∀ l : List SS, (liveL n l).length + (overL n l).length = l.length
  | [] => rfl
  | s :: l => by
    have := split_sum n l
    unfold liveL overL at this ⊢
    by_cases c : s.f1 ≥ n
    · rw [List.filter_cons_of_pos (by simpa using c), List.filter_cons_of_neg (by simpa using c)]
      simp only [List.length_cons, List.length_map] at this ⊢
      omega
    · rw [List.filter_cons_of_neg (by simpa using c), List.filter_cons_of_pos (by simpa using c)]
      simp only [List.length_cons, List.length_map] at this ⊢
      omega
theorem same_of {l : List SS} (h : Right l) {x y : SS} (hx : x ∈ l) (hy : y ∈ l) (e : x.f0 = y.f0) : x = y := by
  obtain ⟨i, hi, rfl⟩ := List.getElem_of_mem hx
  obtain ⟨j, hj, rfl⟩ := List.getElem_of_mem hy
  have h1 := (place_of h i hi).1
  have h2 := (place_of h j hj).1
  rw [e, h2] at h1
  subst h1
  rfl
theorem FnSessions (l0 : List Int) (h : l0.length ≤ 9223372036854775807 ∧ ∀ y_ ∈ l0, (Lit.int .u8 y_).wf = true) : ∃ k, laws_FnSessions.f k l0 = some true := by
  refine Ev.rounds ?_
  unfold laws_FnSessions.f laws_lwBig.f
  by_cases hb : (l0.length : Int) > 1048576
  · exact ev_is fun k => by rw [Option.bind_some, if_pos (decide_eq_true hb)]
  · refine ev_cong (fun k => by rw [Option.bind_some, if_neg (by simpa using hb)]) ?_
    have hc := code_of h hb
    obtain ⟨l, a, n, hx, hl⟩ := drawOpen_ev hc
    have hl' : l.length ≤ 4611686018427387904 := by omega
    refine ev_step _ (fun k => by simp only [laws_FnSessions.j0]; rfl) (ev_call hx (ev_call (OpenSession_impl l hl' a n) ?_))
    by_cases g : (openR l a n).1 = 0
    · refine ev_cong (fun k => if_pos g) ?_
      have hask : askC l a n = 0 := Decidable.byContradiction fun c => by rw [openR_bad c] at g; exact c g
      obtain ⟨hR, ha, hn⟩ := askC_ok hask
      have hh : ¬ here l a = true := fun c => by rw [openR_here hask c] at g; exact absurd g (by decide)
      have h6 : ¬ l.length = 6 := fun c => by rw [openR_full hask hh c] at g; exact absurd g (by decide)
      have wn : wrap64 (n + 10) = n + 10 := wrap_id (by omega) (by omega)
      have wm : wrap64 (n + 10 + 1) = n + 10 + 1 := wrap_id (by omega) (by omega)
      have e := openR_put hask hh h6
      rw [wn] at e
      rw [e]
      have hv : 0 ≤ n + 10 ∧ n + 10 ≤ 9999 := by omega
      have hM := right_ins hR hh h6 ha hv
      have hliv := live_ins hR hh h6 ha hv
      obtain ⟨hpz, hzz⟩ := ins_at (pos_le l a) (⟨a, n + 10⟩ : SS)
      have hmem : (⟨a, n + 10⟩ : SS) ∈ insS l (pos l a) ⟨a, n + 10⟩ := by
        have := List.getElem_mem hpz
        rwa [hzz] at this
      generalize insS l (pos l a) ⟨a, n + 10⟩ = m at hM hliv hmem ⊢
      have hm6 := hM.few
      have hm' : m.length ≤ 4611686018427387904 := by omega
      have hS : Ev (fun k => impl_SplitSessions.f k m n) (0, liveL n m, overL n m) := by
        have := SplitSessions_impl m hm' n
        unfold splitR at this
        rwa [if_pos (ask_of hM (by omega) hn)] at this
      have hF : Ev (fun k => impl_SessionsFault.f k m) 0 := by
        have := implFault m hm'
        rwa [fault_of hM] at this
      have hL : ∀ x : Int, 0 ≤ x ∧ x ≤ 9000 → Ev (fun k => impl_LiveSession.f k m a x) (decide (n + 10 ≥ x)) := fun x hx => by
        have := LiveSession_impl m hm' a x
        unfold liveR at this
        rwa [if_pos (ask_of hM ha hx), (hliv x).2] at this
      have hN : Ev (fun k => impl_LiveSession.f k l a n) false := by
        have := LiveSession_impl l hl' a n
        unfold liveR liveB at this
        rw [if_pos hask, Bool.eq_false_iff.2 hh] at this
        exact this
      have hO : Ev (fun k => impl_OpenSession.f k m a n) (6, []) := by
        have := OpenSession_impl m hm' a n
        rwa [openR_here (ask_of hM ha hn) (hliv n).1] at this
      have hsum := split_sum n m
      have hover : ¬ a ∈ overL n m := by
        intro c
        unfold overL at c
        obtain ⟨s, hs, hsa⟩ := List.mem_map.1 c
        obtain ⟨hs1, hs2⟩ := List.mem_filter.1 hs
        have := same_of hM hs1 hmem hsa
        subst this
        simp at hs2
        omega
      have hH := has_not (l := overL n m) (v := a) (by omega) hover
      have wsum : wrap64 ((((liveL n m).length : Int)) + ((overL n m).length : Int)) = (m.length : Int) := by
        rw [wrap_id (by omega) (by omega)]
        omega
      have last : Ev (fun k => if (0 : Int) = 0 then (if wrap64 ((((liveL n m).length : Int)) + ((overL n m).length : Int)) = (m.length : Int) then ((laws_lwHas.f k (overL n m) a).bind fun t137 => (if t137 = true then (some false) else ((impl_OpenSession.f k m a n).bind fun bt138 => (some (bt138.1 == 6))))) else (some false)) else (some false)) true :=
        ev_cong (fun k => (if_pos rfl).trans (if_pos wsum)) (ev_call hH (ev_cong (fun k => if_neg (by decide)) (ev_call hO (ev_is fun k => rfl))))
      have l1 := hL n hn
      rw [decide_eq_true (show n + 10 ≥ n by omega)] at l1
      refine ev_step _ (fun k => by simp only [laws_FnSessions.j1]; rfl) (ev_call hS (ev_call hF (ev_cong (fun k => if_pos rfl) ?_)))
      refine ev_call l1 (ev_cong (fun k => if_pos rfl) (ev_call hN (ev_cong (fun k => if_neg (by decide)) ?_)))
      rw [wn, wm]
      by_cases c1 : n + 10 > 9000
      · exact ev_cong (fun k => (if_pos c1).trans (if_pos (by omega))) last
      · have l2 := hL (n + 10) (by omega)
        rw [decide_eq_true (show n + 10 ≥ n + 10 by omega)] at l2
        refine ev_cong (fun k => if_neg c1) (ev_call l2 (ev_cong (fun k => if_pos rfl) ?_))
        by_cases c2 : n + 10 ≥ 9000
        · exact ev_cong (fun k => if_pos c2) last
        · have l3 := hL (n + 10 + 1) (by omega)
          rw [decide_eq_false (show ¬ n + 10 ≥ n + 10 + 1 by omega)] at l3
          exact ev_cong (fun k => if_neg c2) (ev_call l3 (ev_cong (fun k => if_neg (by decide)) last))
    · refine ev_cong (fun k => if_neg g) ?_
      refine ev_call (TouchSession_impl l hl' a n) (ev_call (OpenSession_spec l hl' a n) (ev_cong (fun k => if_pos rfl) (ev_call (TouchSession_spec l hl' a n) (ev_cong (fun k => if_pos rfl) (ev_call (LiveSession_impl l hl' a n) (ev_is fun k => ?_))))))
      unfold touchR liveR
      by_cases hask : askC l a n = 0
      · rw [if_pos hask, if_pos hask]
        cases liveB l a n <;> rfl
      · rw [if_neg hask, if_neg hask]
        simp [hask]
end Go.Proofs.Ytdhmohidnidnfaa.Pure

/- For every input the law loop.example/g00369/laws.FnSessions returns true, and every argument reads behind the call as it read before. No condition. -/
namespace Go.Proofs.Ytdhmohidnidnfaa.fnSessions
open Go.ChangeShapes Go.WideShapes Go.ChangeAt Go.RowKit Go.Proofs.Ytdhmohidnidnfaa.Qc Go.Proofs.Ytdhmohidnidnfaa.Tro Go.Proofs.YtdhmohidnidnfaaW.PrintWords
open Go.ChangeMaps (open_string shut_string)
set_option linter.unusedVariables false
set_option linter.unusedSimpArgs false
theorem own : ownKnob Try.prog.godebug = none := by kernel_rfl
theorem laidOut : laidOutB Try.prog = true := by kernel_rfl
set_option maxRecDepth 100000 in
theorem lifted (os : Os) (started : os.Started) (H : Type) (enc : TypeId × Value → H) :
    ReturnsInHanded {} Try.checked os 4 .any (Rows.fnSessionsSpec.pre6 enc Try.prog Try.f4 Rows.fnSessionsRow.domain false) (Rows.fnSessionsSpec.post enc Try.prog Try.f4 false true false false) := by
  refine returnsInHanded_of_change_sized (C := Try.checked) own started (by kernel_rfl) Try.func4
    (ChangeSpec.witness6 (enc := enc) (C := Try.checked) false ⟨#[], #[.slice none 0 0], []⟩ 8 (by kernel_rfl) (by kernel_rfl) (by kernel_rfl) (by kernel_rfl)) ?_
  intro W base args ds gs before hval0 hW hcnd hsz0 _
  have hval : ∀ (j : Nat) t v, Try.f4.params[j]? = some t → args[j]? = some v → Value.okWide Try.prog W .any base t v := hval0
  have hW' := hW
  obtain ⟨p, q, hA0, hV, rfl, hfz, hnd⟩ := hW
  have hA : DataW.TrodAll enc Try.prog W 0 (fun _ => true) true Try.f4.params.toList args.toList ds p := hA0
  rw [Try.params4] at hA hval
  obtain ⟨v0, vs0, d0, ds0, p0, q0, hargs, rfl, rfl, h0, r0⟩ := trodAll_cons hA
  obtain ⟨rfl, rfl, rfl⟩ := trodAll_nil r0
  obtain rfl : args = #[v0] := by cases args; simp_all
  obtain ⟨rfl, rfl⟩ := trodVars_none hV
  have k0 := h0
  have lt0 : ∀ x ∈ p0, x.block < W.heap.size := by obtain ⟨m, hm⟩ := k0; exact DataW.trod_lt m _ _ _ hm
  obtain ⟨a0, len0, cap0, rfl⟩ := okWide_slice Try.underlying22 (hval 0 22 v0 rfl rfl)
  obtain ⟨fuel0, hf0⟩ := h0
  obtain ⟨l0, hK0, hg0⟩ := (tr_slice Try.underlying22 (by kernel_rfl) (tr_int Try.underlying5)) enc W _ _ _ hf0
  obtain ⟨A0, c0, hcs0, hl0, hC0⟩ := hK0
  simp only [Value.cells, List.cons.injEq, Value.slice.injEq, and_true] at hcs0
  obtain ⟨rfl, rfl, rfl⟩ := hcs0
  obtain ⟨k, hk⟩ := Pure.FnSessions l0 hg0
  refine (laws_FnSessions.calls k _ _ l0 true W hC0 hl0 hk rfl).mono fun e W' hE => ?_
  obtain ⟨he, hd⟩ := hE
  have bel : Below W.heap.size W W' := hd
  subst he
  exact ⟨_, rfl, _, _, _, [], _, [], hW', trodAll_mk1 (shut_bool Try.underlying4 _), (trodAll_cons_mk (Below.trod laidOut (by kernel_rfl) (of_decide_eq_true (by kernel_rfl)) k0 bel lt0) trodAll_mk0), rfl, bel.frame _, fun h => by cases h⟩
theorem over : Rows.fnSessionsRow.holds Try.pinned (OpenSpec.ofChange Rows.fnSessionsSpec) :=
  OpenClaim.holds_of_wide 4 Try.f4 rfl rfl rfl rfl rfl rfl rfl ⟨rfl, rfl, rfl, rfl, rfl⟩ rfl rfl rfl rfl rfl (by kernel_rfl) Try.func4 (by kernel_rfl)
    (of_decide_eq_true (by kernel_rfl)) (by unfold Func.isWrapper; first | (rw [if_pos (by decide +kernel)]; kernel_rfl) | (rw [if_neg (by decide +kernel)]; exact ⟨rfl, rfl⟩))
    (fun os started H enc _ => lifted os started H enc)
theorem proved : Rows.FnSessionsSaid := over
#print axioms proved
end Go.Proofs.Ytdhmohidnidnfaa.fnSessions
namespace Go.Proofs.Ytdhmohidnidnfaa
/-- The row, under a short name, for the claim. -/
theorem fnSessions_holds : Rows.FnSessionsSaid := fnSessions.proved
end Go.Proofs.Ytdhmohidnidnfaa
