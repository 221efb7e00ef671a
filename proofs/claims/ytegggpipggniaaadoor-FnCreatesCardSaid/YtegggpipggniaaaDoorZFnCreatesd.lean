/- For every input the law FnCreates returns true, and every argument reads behind the call as it read before: no condition. Here: the last part, the theorem in it. -/
import Derived.Test.YtegggpipggniaaaDoorZFnCreatesc
import Derived.Test.YtegggpipggniaaaDoorQax0
import Derived.Test.YtegggpipggniaaaDoorQax6
import Derived.Test.YtegggpipggniaaaDoorQax21
import Derived.Test.YtegggpipggniaaaDoorQax56
import Derived.Test.YtegggpipggniaaaDoorZFnCreatesa
import Derived.Test.YtegggpipggniaaaDoorZFnCreatesb
import Derived.Test.YtegggpipggniaaaDoorQax19
import Derived.Test.YtegggpipggniaaaDoorQax63
import Derived.Test.YtegggpipggniaaaDoorQax64
import Derived.Test.YtegggpipggniaaaDoorQax65
import Derived.Test.YtegggpipggniaaaDoorQax66
import Derived.Test.YtegggpipggniaaaDoorQax8
import Derived.Test.YtegggpipggniaaaDoorQax9
import Derived.Test.YtegggpipggniaaaDoorQax22
import Derived.Test.YtegggpipggniaaaDoorQax17
import Derived.Test.YtegggpipggniaaaDoorQax18
import Derived.Test.YtegggpipggniaaaDoorQax2
import Derived.Test.YtegggpipggniaaaDoorCards
import Derived.Test.YtegggpipggniaaaDoorTie
import Derived.WalkKit
import Derived.ProofKit
import Derived.OpenShut
import Derived.ShutString
import Derived.ChangeOld
import Derived.Below
import Derived.SizedLaws
import Derived.Lay
import Derived.LaidOnce
import Derived.SevenTiedAt
/- Trees turned: what is set, taken or put, and what stays right. -/
namespace Go.Proofs.YtegggpipggniaaaDoor.Pure
open Go.RowKit Go.Proofs.YtegggpipggniaaaDoor.Qa Go.Proofs.YtegggpipggniaaaDoorW.PrintWords Go.Proofs.YtegggpipggniaaaDoorW.PrintLast Go.Proofs.YtegggpipggniaaaDoor.Aid
structure GoodT (n : Nat) (l : List ZZ) : Prop where
  few : l.length ≤ n
  good : ∀ z ∈ l, zOwn z = 0
  rise : Rises pk l
  top : ∃ z ∈ l, pk z = [47]
theorem GoodT.some {n : Nat} {l : List ZZ} (h : GoodT n l) : 1 ≤ l.length := by
  obtain ⟨z, hz, _⟩ := h.top
  cases l with
  | nil => cases hz
  | cons => simp
theorem GoodT.mono {n m : Nat} {l : List ZZ} (h : GoodT n l) (hm : n ≤ m) : GoodT m l := ⟨Nat.le_trans h.few hm, h.good, h.rise, h.top⟩
theorem TreeM.goodT {l : List ZZ} (h : TreeM l) : GoodT 20 l := ⟨h.few, h.good, h.rise, h.top⟩
theorem zOwn_of {z : ZZ} (h1 : faultR z.f0 = 0) (h2 : zIn z = true) : zOwn z = 0 := by unfold zOwn; rw [if_pos h1, if_pos h2]
theorem zIn_of {z : ZZ} (h1 : 0 ≤ z.f1 ∧ z.f1 ≤ 9999) (h2 : 0 ≤ z.f2 ∧ z.f2 ≤ 999) (h3 : 0 ≤ z.f3 ∧ z.f3 ≤ 9) (h4 : 0 ≤ z.f4 ∧ z.f4 ≤ 100) : zIn z = true := by
  unfold zIn
  rw [decide_eq_true h1, decide_eq_true h2, decide_eq_true h3, decide_eq_true h4]
  rfl
theorem zIn_ok {z : ZZ} (h : zIn z = true) : (0 ≤ z.f1 ∧ z.f1 ≤ 9999) ∧ (0 ≤ z.f2 ∧ z.f2 ≤ 999) ∧ (0 ≤ z.f3 ∧ z.f3 ≤ 9) ∧ (0 ≤ z.f4 ∧ z.f4 ≤ 100) := by
  unfold zIn at h
  simp only [Bool.and_eq_true, decide_eq_true_eq] at h
  exact h
theorem mem_set {l : List ZZ} (hr : Rises pk l) {p : Nat} (hp : p < l.length) (z x : ZZ) : x ∈ l.set p z ↔ x = z ∨ (x ∈ l ∧ x ≠ l[p]) := by
  constructor
  · intro hx
    obtain ⟨j, hj, rfl⟩ := List.getElem_of_mem hx
    rw [List.length_set] at hj
    rw [List.getElem_set]
    by_cases c : p = j
    · left; rw [if_pos c]
    · right
      rw [if_neg c]
      refine ⟨List.getElem_mem hj, fun e => c ?_⟩
      have h1 := (hereK_at hr j hj).1
      have h2 := (hereK_at hr p hp).1
      rw [e, h2] at h1
      exact h1
  · rintro (rfl | ⟨hx, hne⟩)
    · exact List.mem_set hp x
    · obtain ⟨j, hj, rfl⟩ := List.getElem_of_mem hx
      have c : p ≠ j := fun e => hne (by subst e; rfl)
      have : (l.set p z)[j]'(by rw [List.length_set]; exact hj) = l[j] := by rw [List.getElem_set, if_neg c]
      rw [← this]
      exact List.getElem_mem _
theorem set_good {n : Nat} {l : List ZZ} (h : GoodT n l) {p : Nat} (hp : p < l.length) {z : ZZ} (hk : pk z = pk l[p]) (ho : zOwn z = 0) : GoodT n (l.set p z) := by
  refine ⟨by rw [List.length_set]; exact h.few, fun x hx => ?_, same_rise (set_keys hp hk).symm h.rise, ?_⟩
  · rcases (mem_set h.rise hp z x).1 hx with rfl | ⟨hx, _⟩
    · exact ho
    · exact h.good x hx
  · obtain ⟨t, ht, e⟩ := h.top
    by_cases c : t = l[p]
    · exact ⟨z, (mem_set h.rise hp z z).2 (.inl rfl), by rw [hk, ← c]; exact e⟩
    · exact ⟨t, (mem_set h.rise hp z t).2 (.inr ⟨ht, c⟩), e⟩
theorem set_tree {l : List ZZ} (h : TreeM l) {p : Nat} (hp : p < l.length) {z : ZZ} (hk : pk z = pk l[p]) (hu : z.f0 = l[p].f0) (h3 : z.f3 = l[p].f3) (ho : zOwn z = 0) : TreeM (l.set p z) := by
  have hg := set_good h.goodT hp hk ho
  have tom : ∀ y ∈ l, ∃ y' ∈ l.set p z, pk y' = pk y ∧ y'.f3 = y.f3 := by
    intro y hy
    by_cases c : y = l[p]
    · exact ⟨z, (mem_set h.rise hp z z).2 (.inl rfl), by rw [c, hk], by rw [c, h3]⟩
    · exact ⟨y, (mem_set h.rise hp z y).2 (.inr ⟨hy, c⟩), rfl, rfl⟩
  refine ⟨hg.few, hg.good, hg.rise, hg.top, fun x hx => ?_⟩
  rcases (mem_set h.rise hp z x).1 hx with rfl | ⟨hx, _⟩
  · obtain ⟨y, hy, e, h0⟩ := h.ups l[p] (List.getElem_mem hp)
    obtain ⟨y', hy', e1, e2⟩ := tom y hy
    refine ⟨y', hy', ?_, by rw [e2, h0]⟩
    rw [e1, e]
    unfold upK
    rw [hu]
  · obtain ⟨y, hy, e, h0⟩ := h.ups x hx
    obtain ⟨y', hy', e1, e2⟩ := tom y hy
    exact ⟨y', hy', by rw [e1, e], by rw [e2, h0]⟩
theorem putVD {l : List ZZ} {p : Nat} (hp : p < l.length) (d : Int) : putV (putD l (p : Int) d) (p : Int) = l.set p (⟨l[p].f0, d, wrap64 (l[p].f2 + 1), l[p].f3, l[p].f4⟩ : ZZ) := by
  unfold putV putD
  rw [Int.toNat_natCast, rd_T32_set hp, rd_T32_at hp, List.set_set]
theorem nextUpD {l : List ZZ} {p : Nat} (hp : p < l.length) : nextUp l (p : Int) = l.set p (⟨l[p].f0, l[p].f1, l[p].f2, l[p].f3, wrap64 (l[p].f4 + 1)⟩ : ZZ) := by
  unfold nextUp
  rw [Int.toNat_natCast, rd_T32_at hp]
theorem setV_ok {z : ZZ} (h : zOwn z = 0) (h9 : ¬ z.f2 = 999) {d : Int} (hd : 0 ≤ d ∧ d ≤ 9999) : zOwn (⟨z.f0, d, wrap64 (z.f2 + 1), z.f3, z.f4⟩ : ZZ) = 0 := by
  obtain ⟨h1, h2⟩ := zOwn_ok h
  obtain ⟨_, b, c, e⟩ := zIn_ok h2
  have w : wrap64 (z.f2 + 1) = z.f2 + 1 := wrap_id (by omega) (by omega)
  exact zOwn_of h1 (zIn_of hd (by show 0 ≤ wrap64 (z.f2 + 1) ∧ wrap64 (z.f2 + 1) ≤ 999; rw [w]; omega) c e)
theorem nextV_ok {z : ZZ} (h : zOwn z = 0) (h9 : ¬ z.f4 = 100) : zOwn (⟨z.f0, z.f1, z.f2, z.f3, wrap64 (z.f4 + 1)⟩ : ZZ) = 0 := by
  obtain ⟨h1, h2⟩ := zOwn_ok h
  obtain ⟨a, b, c, e⟩ := zIn_ok h2
  have w : wrap64 (z.f4 + 1) = z.f4 + 1 := wrap_id (by omega) (by omega)
  exact zOwn_of h1 (zIn_of a b c (by show 0 ≤ wrap64 (z.f4 + 1) ∧ wrap64 (z.f4 + 1) ≤ 100; rw [w]; omega))
theorem gone_len {l : List ZZ} {p : Nat} (hp : p < l.length) : (goneAt l p).length = l.length - 1 := by
  unfold goneAt
  rw [List.length_append, List.length_take, List.length_drop]
  omega
theorem mem_gone {l : List ZZ} (hr : Rises pk l) {p : Nat} (hp : p < l.length) (x : ZZ) : x ∈ goneAt l p ↔ x ∈ l ∧ x ≠ l[p] := by
  have hs : l = l.take p ++ l[p] :: l.drop (p + 1) := by rw [← drop_at hp, List.take_append_drop]
  have hp2 := hr
  rw [hs] at hp2
  obtain ⟨_, h2, h3⟩ := List.pairwise_append.1 hp2
  obtain ⟨h4, _⟩ := List.pairwise_cons.1 h2
  unfold goneAt
  constructor
  · intro hx
    rcases List.mem_append.1 hx with hx | hx
    · refine ⟨List.mem_of_mem_take hx, fun e => ?_⟩
      have := h3 x hx l[p] (List.mem_cons.2 (.inl rfl))
      rw [e] at this
      exact lt_irr _ this
    · refine ⟨List.mem_of_mem_drop hx, fun e => ?_⟩
      have := h4 x hx
      rw [e] at this
      exact lt_irr _ this
  · rintro ⟨hx, hne⟩
    obtain ⟨j, hj, rfl⟩ := List.getElem_of_mem hx
    rcases Nat.lt_trichotomy j p with c | c | c
    · have hj2 : j < (l.take p).length := by rw [List.length_take]; omega
      have e : (l.take p)[j] = l[j] := List.getElem_take
      exact List.mem_append.2 (.inl (by rw [← e]; exact List.getElem_mem hj2))
    · subst c
      exact absurd rfl hne
    · have hj2 : j - (p + 1) < (l.drop (p + 1)).length := by rw [List.length_drop]; omega
      have e : (l.drop (p + 1))[j - (p + 1)] = l[p + 1 + (j - (p + 1))]'(by omega) := List.getElem_drop
      have e2 : l[p + 1 + (j - (p + 1))]'(by omega) = l[j] := by congr 1; omega
      exact List.mem_append.2 (.inr (by rw [← e2, ← e]; exact List.getElem_mem hj2))
theorem gone_rise {l : List ZZ} (hr : Rises pk l) (p : Nat) : Rises pk (goneAt l p) := by
  unfold goneAt
  rcases Nat.lt_or_ge p l.length with hp | hp
  · have hs : l = l.take p ++ l[p] :: l.drop (p + 1) := by rw [← drop_at hp, List.take_append_drop]
    have hp2 := hr
    rw [hs] at hp2
    obtain ⟨h1, h2, h3⟩ := List.pairwise_append.1 hp2
    exact List.pairwise_append.2 ⟨h1, (List.pairwise_cons.1 h2).2, fun x hx y hy => h3 x hx y (List.mem_cons_of_mem _ hy)⟩
  · rw [List.take_of_length_le hp, drop_end (by omega), List.append_nil]
    exact hr
theorem gone_good {n : Nat} {l : List ZZ} (h : GoodT n l) {p : Nat} (hp : p < l.length) (ht : ¬ pk l[p] = [47]) : GoodT n (goneAt l p) := by
  refine ⟨by rw [gone_len hp]; have := h.few; omega, fun x hx => h.good x ((mem_gone h.rise hp x).1 hx).1, gone_rise h.rise p, ?_⟩
  obtain ⟨t, htm, e⟩ := h.top
  exact ⟨t, (mem_gone h.rise hp t).2 ⟨htm, fun c => ht (by rw [← c]; exact e)⟩, e⟩
theorem ins_len {l : List ZZ} {p : Nat} (hp : p ≤ l.length) (z : ZZ) : (insAt l p z).length = l.length + 1 := by
  unfold insAt
  rw [List.length_append, List.length_append, List.length_take, List.length_drop, List.length_singleton]
  omega
theorem mem_ins {l : List ZZ} {p : Nat} (z x : ZZ) : x ∈ insAt l p z ↔ x = z ∨ x ∈ l := by
  unfold insAt
  constructor
  · intro hx
    rcases List.mem_append.1 hx with hx | hx
    · rcases List.mem_append.1 hx with hx | hx
      · exact .inr (List.mem_of_mem_take hx)
      · exact .inl (List.mem_singleton.1 hx)
    · exact .inr (List.mem_of_mem_drop hx)
  · rintro (rfl | hx)
    · simp
    · rw [← List.take_append_drop p l] at hx
      rcases List.mem_append.1 hx with hx | hx
      · exact List.mem_append.2 (.inl (List.mem_append.2 (.inl hx)))
      · exact List.mem_append.2 (.inr hx)
theorem ins_rise {l : List ZZ} (hr : Rises pk l) (z : ZZ) (hz : ¬ hereK pk l (pk z) = true) : Rises pk (insAt l (posK pk l (pk z)) z) := by
  have hne : ∀ y ∈ l, pk y ≠ pk z := fun y hy e => hz (by rw [← e]; exact hereK_mem hr hy)
  have lo : ∀ y ∈ l.take (posK pk l (pk z)), pk y < pk z := by
    intro y hy
    obtain ⟨j, hj, rfl⟩ := List.getElem_of_mem hy
    rw [List.length_take] at hj
    rw [List.getElem_take]
    exact (posK_iff hr (pk z) j (by omega)).2 (by omega)
  have hi : ∀ y ∈ l.drop (posK pk l (pk z)), pk z < pk y := by
    intro y hy
    have hn := hne y (List.mem_of_mem_drop hy)
    obtain ⟨j, hj, rfl⟩ := List.getElem_of_mem hy
    rw [List.length_drop] at hj
    rw [List.getElem_drop] at hn ⊢
    exact lt_tri (fun c => by have := (posK_iff hr (pk z) _ (by omega)).1 c; omega) hn
  unfold insAt
  refine List.pairwise_append.2 ⟨List.pairwise_append.2 ⟨hr.sublist (List.take_sublist _ _), List.pairwise_singleton _ _, ?_⟩, hr.sublist (List.drop_sublist _ _), ?_⟩
  · intro x hx y hy
    rw [List.mem_singleton] at hy
    subst hy
    exact lo x hx
  · intro x hx y hy
    rcases List.mem_append.1 hx with hx | hx
    · exact lt_tr (lo x hx) (hi y hy)
    · rw [List.mem_singleton] at hx
      subst hx
      exact hi y hy
theorem ins_good {n : Nat} {l : List ZZ} (h : GoodT n l) {z : ZZ} (hz : ¬ hereK pk l (pk z) = true) (ho : zOwn z = 0) : GoodT (n + 1) (insAt l (posK pk l (pk z)) z) := by
  refine ⟨by rw [ins_len (posK_le _ _ _)]; have := h.few; omega, fun x hx => ?_, ins_rise h.rise z hz, ?_⟩
  · rcases (mem_ins z x).1 hx with rfl | hx
    · exact ho
    · exact h.good x hx
  · obtain ⟨t, ht, e⟩ := h.top
    exact ⟨t, (mem_ins z t).2 (.inr ht), e⟩
theorem setIn_good {n : Nat} {l : List ZZ} (h : GoodT n l) {q : ByteArray} {d v : Int} (h0 : (setIn l q d v).1 = 0) : GoodT n (setIn l q d v).2.2 := by
  unfold setIn at h0 ⊢
  by_cases hd : 0 ≤ d ∧ d ≤ 9999
  · rw [if_pos hd] at h0 ⊢
    by_cases hh : hereK pk l q.data.toList = true
    · rw [if_pos hh] at h0 ⊢
      have hp := hereK_lt hh
      unfold setAt at h0 ⊢
      rw [rd_T32_at hp] at h0 ⊢
      by_cases hv : v = -1 ∨ v = (l[posK pk l q.data.toList]).f2
      · rw [if_pos hv] at h0 ⊢
        by_cases h9 : (l[posK pk l q.data.toList]).f2 = 999
        · rw [if_pos h9] at h0; cases h0
        · rw [if_neg h9]
          show GoodT n (putV (putD l _ d) _)
          rw [putVD hp]
          exact set_good h hp rfl (setV_ok (h.good _ (List.getElem_mem hp)) h9 hd)
      · rw [if_neg hv] at h0; cases h0
    · rw [if_neg hh] at h0; cases h0
  · rw [if_neg hd] at h0; cases h0
theorem deleteIn_good {n : Nat} {l : List ZZ} (h : GoodT n l) {q : ByteArray} {v : Int} (h0 : (deleteIn l q v).1 = 0) : GoodT n (deleteIn l q v).2.2 := by
  by_cases ht : q.data.toList = [47]
  · rw [del_top ht] at h0; cases h0
  · by_cases hh : hereK pk l q.data.toList = true
    · have hp := hereK_lt hh
      by_cases hv : v = -1 ∨ v = (rd_T32 l (posK pk l q.data.toList : Int)).f2
      · by_cases hk : kidsL q l = []
        · rw [del_ok ht hh hv hk]
          exact gone_good h hp (by rw [hereK_eq hh]; exact ht)
        · rw [del_kids ht hh hv hk] at h0; cases h0
      · rw [del_ver ht hh hv] at h0; cases h0
    · rw [del_none ht hh] at h0; cases h0
theorem makeR_good {n : Nat} {l : List ZZ} (h : GoodT n l) {q : ByteArray} (hq : faultR q = 0) {d o : Int} (hd : 0 ≤ d ∧ d ≤ 9999) (ho : 0 ≤ o ∧ o ≤ 9) (h0 : (makeR l q d o).1 = 0) : GoodT (n + 1) (makeR l q d o).2.2 := by
  unfold makeR at h0 ⊢
  by_cases hh : hereK pk l q.data.toList = true
  · rw [if_pos hh] at h0; cases h0
  · rw [if_neg hh] at h0 ⊢
    by_cases h2 : l.length = 20
    · rw [if_pos h2] at h0; cases h0
    · rw [if_neg h2]
      exact ins_good (z := (⟨q, d, 0, o, 0⟩ : ZZ)) h hh (zOwn_of hq (zIn_of hd ⟨Int.le_refl _, by show (0 : Int) ≤ 999; omega⟩ ho ⟨Int.le_refl _, by show (0 : Int) ≤ 100; omega⟩))
theorem createIn_good {n : Nat} {l : List ZZ} (h : GoodT n l) {q : ByteArray} (hq : faultR q = 0) {d o : Int} {b : Bool} (h0 : (createIn l q d o b).1 = 0) : GoodT (n + 1) (createIn l q d o b).2.2 := by
  unfold createIn at h0 ⊢
  by_cases hdo : (0 ≤ d ∧ d ≤ 9999) ∧ (0 ≤ o ∧ o ≤ 9)
  · rw [if_pos hdo] at h0 ⊢
    by_cases ht : q.data.toList = [47]
    · rw [if_pos ht] at h0; cases h0
    · rw [if_neg ht] at h0 ⊢
      by_cases hh : hereK pk l (upR q).data.toList = true
      · rw [if_pos hh] at h0 ⊢
        have hp := hereK_lt hh
        rw [rd_T32_at hp] at h0 ⊢
        by_cases h3 : (l[posK pk l (upR q).data.toList]).f3 = 0
        · rw [if_pos h3] at h0 ⊢
          unfold createUp at h0 ⊢
          rw [rd_T32_at hp] at h0 ⊢
          cases b with
          | false =>
            rw [if_neg (by decide)] at h0 ⊢
            exact makeR_good h hq hdo.1 hdo.2 h0
          | true =>
            rw [if_pos rfl] at h0 ⊢
            by_cases h4 : (l[posK pk l (upR q).data.toList]).f4 = 100
            · rw [if_pos h4] at h0; cases h0
            · rw [if_neg h4] at h0 ⊢
              by_cases h5 : nameB (seqT (nmR q) (l[posK pk l (upR q).data.toList]).f4) = true
              · rw [if_pos h5] at h0 ⊢
                by_cases h6 : faultR (joinR (upR q) (seqT (nmR q) (l[posK pk l (upR q).data.toList]).f4)) = 0
                · rw [if_pos h6] at h0 ⊢
                  rw [nextUpD hp] at h0 ⊢
                  exact makeR_good (by exact set_good h hp rfl (nextV_ok (h.good _ (List.getElem_mem hp)) h4)) h6 hdo.1 hdo.2 h0
                · rw [if_neg h6] at h0; exact absurd h0 h6
              · rw [if_neg h5] at h0; cases h0
        · rw [if_neg h3] at h0; cases h0
      · rw [if_neg hh] at h0; cases h0
  · rw [if_neg hdo] at h0; cases h0
end Go.Proofs.YtegggpipggniaaaDoor.Pure

/- Trees turned: a node taken that has no kids, a node put under one that is there: the tree stays right. -/

namespace Go.Proofs.YtegggpipggniaaaDoor.Pure
open Go.RowKit Go.Proofs.YtegggpipggniaaaDoor.Qa Go.Proofs.YtegggpipggniaaaDoorW.PrintWords Go.Proofs.YtegggpipggniaaaDoorW.PrintLast Go.Proofs.YtegggpipggniaaaDoor.Aid
theorem ins_tree {l : List ZZ} (h : TreeM l) (h20 : ¬ l.length = 20) {z : ZZ} (hz : ¬ hereK pk l (pk z) = true) (ho : zOwn z = 0) (hu : ∃ y ∈ l, pk y = upK z ∧ y.f3 = 0) : TreeM (insAt l (posK pk l (pk z)) z) := by
  have hg := ins_good h.goodT hz ho
  have hf := h.few
  refine ⟨by rw [ins_len (posK_le _ _ _)]; omega, hg.good, hg.rise, hg.top, fun x hx => ?_⟩
  rcases (mem_ins z x).1 hx with rfl | hx
  · obtain ⟨y, hy, e⟩ := hu
    exact ⟨y, (mem_ins _ y).2 (.inr hy), e⟩
  · obtain ⟨y, hy, e⟩ := h.ups x hx
    exact ⟨y, (mem_ins _ y).2 (.inr hy), e⟩
end Go.Proofs.YtegggpipggniaaaDoor.Pure

namespace Go.Proofs.YtegggpipggniaaaDoor.Qa
open Go.RowKit Go.Proofs.YtegggpipggniaaaDoorW.PrintWords Go.Proofs.YtegggpipggniaaaDoorW.PrintLast Go.Proofs.YtegggpipggniaaaDoorW.PrintMore
attribute [local go_sem] max2_int min2_int max_two min_two max_three min_three max_four min_four
set_option linter.unusedVariables false
set_option linter.unusedSimpArgs false
set_option maxHeartbeats 8000000
set_option maxRecDepth 100000
def impl_isVersion.f (a0 : Int) (a1_0 : ByteArray) (a1_1 : Int) (a1_2 : Int) (a1_3 : Int) (a1_4 : Int) : Option (Bool) := if a0 = (-1) then (some true) else (some (a0 == a1_2))
theorem impl_isVersion.calls (a0 : Int) (a1_0 : ByteArray) (a1_1 : Int) (a1_2 : Int) (a1_3 : Int) (a1_4 : Int) (r : Bool) (w : World) (h : impl_isVersion.f a0 a1_0 a1_1 a1_2 a1_3 a1_4 = some r) :
  Calls Tryd.prog 31 #[.int .i64 a0, .agg #[.string a1_0, .int .i64 a1_1, .int .i64 a1_2, .int .i64 a1_3, .int .i64 a1_4]] w fun e w' => e = .returned (.bool r) ∧ Below w.heap.size w w' := by
 have hu32 := Tryd.underlying32
 have HB := aa (Below.refl w.heap.size w)
 have H : (if a0 = (-1) then (some true) else (some (a0 == a1_2))) = some r := h
 clear h
 revert H
 refine itE_ (fun c3b0 c3b1 H => ?_) fun c3b0 c3b1 H => ?_
 ·
  obtain rfl := Option.some.inj H
  go_enter Tryd.func31, Tryd.ntmps31
  go_wp2_with (first | (refine be_ 3 #[.string a1_0, .int .i64 a1_1, .int .i64 a1_2, .int .i64 a1_3, .int .i64 a1_4] 32 ?_; intro gb101 hg w4 hbox hb; have n0_ := aa (below_step zjjbob hb); have n1_ := aa (hbox); have n2_ := aa ((zkpfjp : w.heap.size ≤ gb101)); have n3_ := aa ((zkpfjp : w.heap.size ≤ gb101)); clear HB; have HB := n0_; have BK101 := n1_; have GW101 := n2_; have GE101 := n3_; clear n0_ n1_ n2_ n3_; clear hb hbox hg))
  go_ret
  exact ⟨zlhpib, zkmbdh⟩
 obtain rfl := Option.some.inj H
 go_enter Tryd.func31, Tryd.ntmps31
 go_wp2_with (first | (refine be_ 3 #[.string a1_0, .int .i64 a1_1, .int .i64 a1_2, .int .i64 a1_3, .int .i64 a1_4] 32 ?_; intro gb101 hg w5 hbox hb; have n0_ := aa (below_step zjjbob hb); have n1_ := aa (hbox); have n2_ := aa ((zkpfjp : w.heap.size ≤ gb101)); have n3_ := aa ((zkpfjp : w.heap.size ≤ gb101)); clear HB; have HB := n0_; have BK101 := n1_; have GW101 := n2_; have GE101 := n3_; clear n0_ n1_ n2_ n3_; clear hb hbox hg; obtain ⟨hcz6_0, hcz6_1, hcz6_2, hcz6_3, hcz6_4, hfz6_0, hfz6_1, hfz6_2, hfz6_3, hfz6_4⟩ := blk5_ BK101.out))
 go_ret
 exact ⟨zlhpib, zkmbdh⟩
section
open Go.Lib Go.Proofs.YtegggpipggniaaaDoor.Raw
def slices_Delete_impl_Znode_impl_Znode.f (l0 : List S32) (a1 : Int) (a2 : Int) : Option (List S32) := if 0 ≤ a1 then (if a1 < (l0.length : Int) then (if a2 = a1 + 1 then (if l0.length < 1048576000 then (some (l0.take a1.toNat ++ l0.drop (a1.toNat + 1))) else none) else none) else none) else none
theorem slices_Delete_impl_Znode_impl_Znode.kM (w w1 : World) (base : Nat) (ok : Nat → Prop) (x : S32) (cs : List Value) (h : k32.K w x cs) : k32.M w1 base ok x cs := h
theorem slices_Delete_impl_Znode_impl_Znode.raw (g cap : Nat) (cur : Array Value) (n : Nat) (i : Nat) (w : World) (hi : i < n) (hnc : n ≤ cap) (hcm : cap ≤ 9223372036854775807)
  (hg : w.heap[g]? = some (.cells cur 32 (0, 0))) (hcs : cur.size = cap * 5) (h1 : ∀ v ∈ cur.toList.take (n * 5), v.oneCell' = true) :
  Calls Tryd.prog 40 #[.slice (some ⟨g, 0, none⟩) n cap, .int .i64 i, .int .i64 ((i : Int) + 1)] w fun e w' =>
   ∃ arr2 : Array Value, e = .returned (.slice (some ⟨g, 0, none⟩) (n - 1) cap) ∧ w' = w.drew.setRow g arr2 ∧ arr2.size = cur.size ∧ arr2.toList.take ((n - 1) * 5) = (cur.toList.take (n * 5)).take (i * 5) ++ (cur.toList.take (n * 5)).drop ((i + 1) * 5) := by
 obtain ⟨i0, hi0, hzz⟩ := Option.map_eq_some_iff.1 info32
 simp only [Prod.mk.injEq] at hzz
 obtain ⟨hz0, hzs, hzb⟩ := hzz
 have hLl : cur.toList.length = cap * 5 := by rw [Array.length_toList]; exact hcs
 obtain ⟨TAIL, hTAIL⟩ : ∃ TAIL, TAIL = (cur.toList.take (n * 5)).drop ((i + 1) * 5) := ⟨_, rfl⟩
 have hTl : TAIL.length = (n - (i + 1)) * 5 := by rw [hTAIL, List.length_drop, List.length_take, hLl]; omega
 have ho1 : ∀ v ∈ TAIL, v.oneCell' = true := fun v hv => h1 v (by rw [hTAIL] at hv; exact List.mem_of_mem_drop hv)
 have hTc : ∀ j v, TAIL[j]? = some v → w.cell? ⟨g, (i + 1) * 5 + j, none⟩ = some v := fun j v hj => by
  rw [hTAIL, List.getElem?_drop, List.getElem?_take] at hj
  split at hj
  ·
   rw [cell_row w g cur 32 (0, 0) hg, ← Array.getElem?_toList]
   exact hj
  ·
   cases hj
 obtain ⟨L1, hL1⟩ : ∃ L1, L1 = cur.toList.take (i * 5) ++ TAIL ++ cur.toList.drop (i * 5 + TAIL.length) := ⟨_, rfl⟩
 have hL1l : L1.length = cap * 5 := by rw [hL1, List.length_append, List.length_append, List.length_take, List.length_drop, hTl, hLl]; omega
 have hL1t : L1.take ((n - 1) * 5) = cur.toList.take (i * 5) ++ TAIL := by
  rw [hL1]
  exact List.take_left' (by rw [List.length_append, List.length_take, hTl, hLl]; omega)
 obtain ⟨W1, hW1⟩ : ∃ W1, W1 = w.drew.setRow g L1.toArray := ⟨_, rfl⟩
 have hst0 := run_storeCells_at Tryd.prog g (i * 5) 32 TAIL 0 cur w.drew hg (by rw [hTl, hcs]; omega) ho1
 have hst : (storeCells ⟨g, i * 5, none⟩ TAIL).run Tryd.prog w.drew = .ok () W1 := by
  rw [hW1, hL1]
  exact hst0
 clear hst0
 have hlen : i + (n - (i + 1)) = n - 1 := by omega
 have hroom : n - 1 ≤ cap := by omega
 have hg1 : W1.heap[g]? = some (.cells L1.toArray 32 (0, 0)) := by rw [hW1]; exact row_of w.drew g cur _ 32 (0, 0) hg
 obtain ⟨ZS, hZS⟩ : ∃ ZS : List Value, ZS = (Builtin.zeroCells ((.agg #[(.string ⟨#[]⟩), (.int .i64 0), (.int .i64 0), (.int .i64 0), (.int .i64 0)]) : Value).cells (0 + 1)).toList := ⟨_, rfl⟩
 have hZl : ZS.length = 5 := by rw [hZS]; kernel_rfl
 have hZa : ZS.all (fun v => v.oneCell') = true := by rw [hZS]; kernel_rfl
 have hZ1 : ∀ v ∈ ZS, v.oneCell' = true := List.all_eq_true.1 hZa
 obtain ⟨L2, hL2⟩ : ∃ L2, L2 = L1.take ((n - 1) * 5) ++ ZS ++ L1.drop ((n - 1) * 5 + ZS.length) := ⟨_, rfl⟩
 have hL2l : L2.length = cap * 5 := by rw [hL2, List.length_append, List.length_append, List.length_take, List.length_drop, hZl, hL1l]; omega
 have hL2t : L2.take ((n - 1) * 5) = L1.take ((n - 1) * 5) := by
  rw [hL2, List.append_assoc]
  exact List.take_left' (by rw [List.length_take, hL1l]; omega)
 have hcl : ∀ ty c, (Builtin.clear_ #[24] ty #[.slice (some ⟨g, (n - 1) * 5, none⟩) 1 c]).run Tryd.prog W1 = .ok (.tuple #[]) (W1.setRow g L2.toArray) := fun ty c => by
  have h := run_clear_wide (P := Tryd.prog) W1 24 32 ty _ ZS Tryd.underlying24 Tryd.zeroValue32 g ((n - 1) * 5) 0 c L1.toArray 32 hZS.symm hg1 (by rw [hZl, List.size_toArray, hL1l]; omega) hZ1
  rw [hL2]
  exact h
 have hz2 : ¬ ((i : Int) = (i : Int) + 1) := by omega
 have hw1 : IntKind.i64.wrap ((i : Int) + 1) = (i : Int) + 1 := by rw [IntKind.wrap_i64]; omega
 have hb1 : (0 : Int) ≤ (i : Int) + 1 := by omega
 have hin : i ≤ n := by omega
 have hin1 : (i : Int) + 1 ≤ (n : Int) := by omega
 have htn : ((i : Int) + 1).toNat = i + 1 := by omega
 have hci : ¬ (cap = i) := by omega
 have hnn : n - (n - 1) = 1 := by omega
 have hn1 : n - 1 ≤ n := by omega
 have hcn : ¬ (cap = n - 1) := by omega
 have AW1 := aa hW1
 have AL1 := aa hL1
 have AL2 := aa hL2
 have AT := aa hTAIL
 have AZ := aa hZS
 clear hW1 hL1 hL2 hTAIL hZS
 have mixed : Tryd.prog.follows .mixedOrders = true := by kernel_rfl
 clear hZa
 have hic : i ≤ cap := by omega
 have hic2 : (i : Int) ≤ (cap : Int) := by omega
 by_cases hc1 : cap = i + 1
 ·
  have e0 : n - (i + 1) = 0 := by omega
  have hld : (loadCellsFrom ⟨g, 0, none⟩ 0 ((n - (i + 1)) * 5) #[]).run Tryd.prog w.drew = .ok TAIL.toArray w.drew := by
   have hT0 : TAIL = [] := List.eq_nil_of_length_eq_zero (by rw [hTl, e0])
   rw [e0, hT0]
   exact run_loadCells_list (P := Tryd.prog) w.drew ⟨g, 0, none⟩ [] (by simp)
  have hc1' := eq_true hc1
  clear hc1 e0
  go_enter Tryd.func40, Tryd.ntmps40
  go_wp2
  go_region_law_o (fail)
  go_wp2_with (at_builtin; refine ev_clear rfl _ 24 rfl _ rfl (hcl _ _) ?_)
  go_ret
  refine ⟨L2.toArray, rfl, by rw [AW1.out, setRow_setRow], ?_, ?_⟩
  ·
   rw [List.size_toArray, hL2l, hcs]
  show List.take ((n - 1) * 5) L2 = _
  rw [hL2t, hL1t, AT.out, List.take_take, Nat.min_eq_left (by omega)]
 have hld : (loadCellsFrom ⟨g, (i + 1) * 5, none⟩ 0 ((n - (i + 1)) * 5) #[]).run Tryd.prog w.drew = .ok TAIL.toArray w.drew := by
  rw [← hTl]
  exact run_loadCells_list (P := Tryd.prog) w.drew ⟨g, (i + 1) * 5, none⟩ TAIL (fun j v hj => by rw [Addr.add_lit]; exact hTc j v hj)
 go_enter Tryd.func40, Tryd.ntmps40
 go_wp2
 go_region_law_o (fail)
 go_wp2_with (at_builtin; refine ev_clear rfl _ 24 rfl _ rfl (hcl _ _) ?_)
 go_ret
 refine ⟨L2.toArray, rfl, by rw [AW1.out, setRow_setRow], ?_, ?_⟩
 ·
  rw [List.size_toArray, hL2l, hcs]
 show List.take ((n - 1) * 5) L2 = _
 rw [hL2t, hL1t, AT.out, List.take_take, Nat.min_eq_left (by omega)]
theorem slices_Delete_impl_Znode_impl_Znode.calls (P0_ : Nat → Prop) (u9000_ : Value) (l0 : List S32) (a1 : Int) (a2 : Int) (r : List S32) (w0 w : World) (hB : Below w0.heap.size w0 w) (ho0 : Kd.R k32 32 w w0.heap.size P0_ u9000_ l0) (h : slices_Delete_impl_Znode_impl_Znode.f l0 a1 a2 = some r) :
  Calls Tryd.prog 40 #[u9000_, .int .i64 a1, .int .i64 a2] w fun e w' => ∃ v0_ : Value, e = .returned (v0_) ∧ Kd.R k32 32 w' w0.heap.size (fun k_ => (P0_ k_ ∨ w.heap.size ≤ k_)) v0_ r ∧ Below w0.heap.size w0 w' ∧ Kept w w' (fun k_ => P0_ k_) := by
 unfold slices_Delete_impl_Znode_impl_Znode.f at h
 have q0 : 0 ≤ a1 := Decidable.byContradiction fun c => by rw [if_neg c] at h; cases h
 rw [if_pos q0] at h
 have q1 : a1 < (l0.length : Int) := Decidable.byContradiction fun c => by rw [if_neg c] at h; cases h
 rw [if_pos q1] at h
 have q2 : a2 = a1 + 1 := Decidable.byContradiction fun c => by rw [if_neg c] at h; cases h
 rw [if_pos q2] at h
 have q3 : l0.length < 1048576000 := Decidable.byContradiction fun c => by rw [if_neg c] at h; cases h
 rw [if_pos q3] at h
 obtain rfl := Option.some.inj h
 clear h
 subst q2
 obtain ⟨i, rfl⟩ := Int.eq_ofNat_of_zero_le q0
 rw [Int.toNat_natCast]
 have hi : i < l0.length := by omega
 have hok : ∀ k, u9000_.ownBlock = some k → P0_ k := ho0.1
 obtain ⟨h0, inner, hown, hrp⟩ := ho0
 have hrK := reps_K hrp
 rcases hown with ⟨hil, ⟨rfl, hn⟩ | ⟨g, cap, cur, rfl, hbg, hg, hnc, hcm, hcs, hti⟩⟩
 ·
  omega
 have hcs' : cur.size = cap * 5 := hcs
 have hti' : cur.toList.take (l0.length * 5) = inner := hti
 have hil' : inner.length = l0.length * 5 := hil
 have hPg : P0_ g := hok g rfl
 have h1 : ∀ v ∈ cur.toList.take (l0.length * 5), v.oneCell' = true := by
  rw [hti']
  intro v hv
  obtain ⟨j, hj, rfl⟩ := List.getElem_of_mem hv
  have hjl : j / 5 < l0.length := by omega
  have hK := k32.K_one (hrK.2 (j / 5) _ (List.getElem?_eq_getElem hjl))
  refine hK _ (List.mem_iff_getElem?.2 ⟨j % 5, ?_⟩)
  have e5 : k32.sz = 5 := rfl
  rw [e5, List.getElem?_take, if_pos (Nat.mod_lt _ (by omega)), List.getElem?_drop, show j / 5 * 5 + j % 5 = j by omega]
  exact List.getElem?_eq_getElem hj
 have hput : Reps (k32.K w) k32.sz (l0.take i ++ l0.drop (i + 1)) (inner.take (i * 5) ++ inner.drop ((i + 1) * 5)) := Kd.reps_append (Kd.reps_take hrK (Nat.le_of_lt hi)) (Kd.reps_drop hrK)
 have hpl : (l0.take i ++ l0.drop (i + 1)).length = l0.length - 1 := by
  rw [List.length_append, List.length_take, List.length_drop]
  omega
 have hil2 : (inner.take (i * 5) ++ inner.drop ((i + 1) * 5)).length = (l0.length - 1) * 5 := by
  rw [List.length_append, List.length_take, List.length_drop, hil']
  omega
 refine (slices_Delete_impl_Znode_impl_Znode.raw g cap cur l0.length i w hi hnc (by unfold maxLen at hcm; omega) hg hcs' h1).mono ?_
 rintro e w' ⟨arr2, rfl, rfl, hs2, ht2⟩
 have hgr : w.grownBy (w.drew.setRow g arr2) (some g) := let z := grown_row w.drew g arr2; ⟨z.os, z.tape, z.output, z.size, z.block⟩
 have ho : (w.drew.setRow g arr2).ownsRow w0.heap.size 32 5 (.slice (some ⟨g, 0, none⟩) (l0.length - 1) cap) (l0.take i ++ l0.drop (i + 1)).length (inner.take (i * 5) ++ inner.drop ((i + 1) * 5)) := by
  rw [hpl]
  exact ⟨hil2, .inr ⟨g, cap, arr2, rfl, hbg, row_of w.drew g cur arr2 32 (0, 0) hg, by omega, hcm, by rw [hs2]; exact hcs', by rw [ht2, hti']⟩⟩
 refine ⟨_, rfl, R_flat k32 slices_Delete_impl_Znode_impl_Znode.kM (fun k hk => ?_) ho hput, pw_below_grown hB (some g) hB.size hgr (fun k hk => by injection hk with hk; omega), Kept.of_grown hgr (Kept.refl _ _) (fun k hk => .inl (by injection hk with hk; rw [← hk]; exact hPg))⟩
 have : g = k := by simpa [Value.ownBlock] using hk
 exact .inl (this ▸ hPg)
end
def impl_DeleteZ.f (k : Nat) (l0 : List (S32)) (a1 : ByteArray) (a2 : Int) : Option (Int × ByteArray × (List (S32))) := (impl_zCode.f k l0 a1).bind fun t102 => (if t102 = 0 then ((impl_find.f k l0 a1).bind fun bt103 => (if a1.toList = ([47] : List UInt8) then (some (1, (⟨#[]⟩ : ByteArray), ([] : List (S32)))) else (if bt103.2 = true then (if 0 ≤ bt103.1 then (if bt103.1 < (l0.length : Int) then ((impl_isVersion.f a2 ((rd_T32 l0 bt103.1).f0) ((rd_T32 l0 bt103.1).f1) ((rd_T32 l0 bt103.1).f2) ((rd_T32 l0 bt103.1).f3) ((rd_T32 l0 bt103.1).f4)).bind fun t106 => (if t106 = true then ((impl_kids.f k l0 a1).bind fun t107 => (if (t107.length : Int) > 0 then (some (8, (⟨#[]⟩ : ByteArray), ([] : List (S32)))) else ((slices_Clone_impl_Znode_impl_Znode.f l0).bind fun t110 => ((slices_Delete_impl_Znode_impl_Znode.f t110 bt103.1 (wrap64 (bt103.1 + 1))).bind fun t113 => (some (0, (⟨#[]⟩ : ByteArray), t113)))))) else (some (7, (⟨#[]⟩ : ByteArray), ([] : List (S32)))))) else (none)) else (none)) else (some (4, (⟨#[]⟩ : ByteArray), ([] : List (S32))))))) else (some (t102, (⟨#[]⟩ : ByteArray), ([] : List (S32)))))
theorem impl_DeleteZ.mono : ∀ a0 a1 a2 k, LeO (impl_DeleteZ.f k a0 a1 a2) (impl_DeleteZ.f (k + 1) a0 a1 a2) := by
 intro a0 a1 a2 k
 unfold impl_DeleteZ.f
 with_reducible repeat' first | exact impl_find.mono _ _ _ | exact impl_kids.mono _ _ _ | exact impl_zCode.mono _ _ _ | exact LeO.refl _ | exact LeO.none _ | refine LeO.ite ?_ ?_ | refine LeO.bind ?_ (fun _ => ?_)
theorem impl_DeleteZ.calls (k : Nat) (A0 : Option Addr) (c0 : Nat) (l0 : List (S32)) (a1 : ByteArray) (a2 : Int) (r1 : Int) (r2 : ByteArray) (r3 : List (S32)) (w : World) (hr0 : Kd.C k32 w A0 l0.length l0) (hc0 : l0.length ≤ c0) (h : impl_DeleteZ.f k l0 a1 a2 = some (r1, r2, r3)) :
  Calls Tryd.prog 14 #[.slice A0 l0.length c0, .string a1, .int .i64 a2] w fun e w' => ∃ v2_ : Value, e = .returned (.agg #[.int .i64 r1, .string r2, v2_]) ∧ Kd.R k32 32 w' w.heap.size (fun _ => True) v2_ r3 ∧ Below w.heap.size w w' := by
 have hu28 := Tryd.underlying28
 have hu32 := Tryd.underlying32
 have HR0 := aa hr0
 have HC0 := aa hc0
 clear hr0 hc0
 have HB := aa (Below.refl w.heap.size w)
 have H : ((impl_zCode.f k l0 a1).bind fun t102 => (if t102 = 0 then ((impl_find.f k l0 a1).bind fun bt103 => (if a1.toList = ([47] : List UInt8) then (some (1, (⟨#[]⟩ : ByteArray), ([] : List (S32)))) else (if bt103.2 = true then (if 0 ≤ bt103.1 then (if bt103.1 < (l0.length : Int) then ((impl_isVersion.f a2 ((rd_T32 l0 bt103.1).f0) ((rd_T32 l0 bt103.1).f1) ((rd_T32 l0 bt103.1).f2) ((rd_T32 l0 bt103.1).f3) ((rd_T32 l0 bt103.1).f4)).bind fun t106 => (if t106 = true then ((impl_kids.f k l0 a1).bind fun t107 => (if (t107.length : Int) > 0 then (some (8, (⟨#[]⟩ : ByteArray), ([] : List (S32)))) else ((slices_Clone_impl_Znode_impl_Znode.f l0).bind fun t110 => ((slices_Delete_impl_Znode_impl_Znode.f t110 bt103.1 (wrap64 (bt103.1 + 1))).bind fun t113 => (some (0, (⟨#[]⟩ : ByteArray), t113)))))) else (some (7, (⟨#[]⟩ : ByteArray), ([] : List (S32)))))) else (none)) else (none)) else (some (4, (⟨#[]⟩ : ByteArray), ([] : List (S32))))))) else (some (t102, (⟨#[]⟩ : ByteArray), ([] : List (S32)))))) = some (r1, r2, r3) := h
 clear h
 revert H
 refine obs_ fun t102 A4 H => ?_
 revert H
 refine itE_ (fun c5b0 c5b1 H => ?_) fun c5b0 c5b1 H => ?_
 ·
  revert H
  refine ob2_ fun t103 t104 A6 H => ?_
  (try dsimp only at H)
  revert H
  refine itE_ (fun c7b0 c7b1 H => ?_) fun c7b0 c7b1 H => ?_
  ·
   simp only [Option.some.injEq, Prod.mk.injEq] at H
   obtain ⟨rfl, rfl, rfl⟩ := H
   go_enter Tryd.func14, Tryd.ntmps14
   go_wp2_with (first | (refine be_ 6 #[.int .i64 0, .string (⟨#[]⟩ : ByteArray), .slice none 0 0] 28 ?_; intro gb101 hg w8 hbox hb; have n0_ := aa (below_step zjjbob hb); have n1_ := aa (hbox); have n2_ := aa ((zkpfjp : w.heap.size ≤ gb101)); have n3_ := aa ((zkpfjp : w.heap.size ≤ gb101)); clear HB; have HB := n0_; have BK101 := n1_; have GW101 := n2_; have GE101 := n3_; clear n0_ n1_ n2_ n3_; clear hb hbox hg) | (refine gc_ Tryd.func28 (some 12) #[.slice A0 l0.length c0, .string a1] ?_; (with_reducible refine (impl_zCode.calls k _ _ l0 a1 t102 _ zfmbgg HC0.out A4.out).mono ?_); rintro e w9 ⟨rfl, hb⟩; refine ⟨_, rfl, ?_⟩; replace BK101 := aa (bb_ BK101.out hb); replace HB := aa (below_step zkmbdh hb); (try clear hb hk hi)) | (refine gc_ Tryd.func29 (some 20) #[.slice A0 l0.length c0, .string a1] ?_; (with_reducible refine (impl_find.calls k _ _ l0 a1 t103 t104 _ zfmbgg HC0.out A6.out).mono ?_); rintro e w10 ⟨rfl, hb⟩; refine ⟨_, rfl, ?_⟩; replace BK101 := aa (bb_ BK101.out hb); replace HB := aa (below_step zkmbdh hb); (try clear hb hk hi); obtain ⟨hcz11_0, hcz11_1, hcz11_2, hfz11_0, hfz11_1, hfz11_2⟩ := blk3_ BK101.out))
   refine bodyPost_ret (results_cell_row rfl _ _ gb101 28 #[.int .i64 1, .string (⟨#[]⟩ : ByteArray), .slice none 0 0] (0, 0) _ rfl zapacm Tryd.underlying28 rfl (by kernel_rfl)) rfl ?_
   exact ⟨_, zlhpib, zhijhk, zkmbdh⟩
  by_cases c12 : t104 = true
  ·
   subst c12
   rw [if_pos rfl] at H
   revert H
   refine itH_ fun c13b0 H => ?_
   revert H
   refine itH_ fun c14b0 H => ?_
   revert H
   refine obs_ fun t106 A15 H => ?_
   by_cases c16 : t106 = true
   ·
    subst c16
    rw [if_pos rfl] at H
    revert H
    refine obs_ fun t107 A17 H => ?_
    revert H
    refine itC_ (fun c18 H => ?_) fun c18 H => ?_
    ·
     have c18b0 : decide (0 < (t107.length : Int)) = true := decide_eq_true c18
     have c18b1 : decide (0 < t107.length) = true := decide_eq_true (by omega)
     clear c18
     simp only [Option.some.injEq, Prod.mk.injEq] at H
     obtain ⟨rfl, rfl, rfl⟩ := H
     go_enter Tryd.func14, Tryd.ntmps14
     go_wp2_with (first | (refine be_ 6 #[.int .i64 0, .string (⟨#[]⟩ : ByteArray), .slice none 0 0] 28 ?_; intro gb101 hg w19 hbox hb; have n0_ := aa (below_step zjjbob hb); have n1_ := aa (hbox); have n2_ := aa ((zkpfjp : w.heap.size ≤ gb101)); have n3_ := aa ((zkpfjp : w.heap.size ≤ gb101)); clear HB; have HB := n0_; have BK101 := n1_; have GW101 := n2_; have GE101 := n3_; clear n0_ n1_ n2_ n3_; clear hb hbox hg) | (refine gc_ Tryd.func28 (some 12) #[.slice A0 l0.length c0, .string a1] ?_; (with_reducible refine (impl_zCode.calls k _ _ l0 a1 t102 _ zfmbgg HC0.out A4.out).mono ?_); rintro e w20 ⟨rfl, hb⟩; refine ⟨_, rfl, ?_⟩; replace BK101 := aa (bb_ BK101.out hb); replace HB := aa (below_step zkmbdh hb); (try clear hb hk hi)) | (refine gc_ Tryd.func29 (some 20) #[.slice A0 l0.length c0, .string a1] ?_; (with_reducible refine (impl_find.calls k _ _ l0 a1 t103 true _ zfmbgg HC0.out A6.out).mono ?_); rintro e w21 ⟨rfl, hb⟩; refine ⟨_, rfl, ?_⟩; replace BK101 := aa (bb_ BK101.out hb); replace HB := aa (below_step zkmbdh hb); (try clear hb hk hi); have p105 : 0 ≤ (t103 : Int) := of_decide_eq_true zgglam; have q105 : t103 < (l0.length : Int) := of_decide_eq_true zgglam; obtain ⟨ad105, e105, hx105_0, hx105_1, hx105_2, hx105_3, hx105_4⟩ := at_T32 HR0.out t103 p105 q105; cases e105; replace hx105_0 := pb HB.out hx105_0; replace hx105_1 := pb HB.out hx105_1; replace hx105_2 := pb HB.out hx105_2; replace hx105_3 := pb HB.out hx105_3; replace hx105_4 := pb HB.out hx105_4; replace p105 := eq_true p105; replace q105 := eq_true q105) | (refine gc_ Tryd.func31 (some 37) #[.int .i64 a2, .agg #[.string ((rd_T32 l0 t103).f0), .int .i64 ((rd_T32 l0 t103).f1), .int .i64 ((rd_T32 l0 t103).f2), .int .i64 ((rd_T32 l0 t103).f3), .int .i64 ((rd_T32 l0 t103).f4)]] ?_; (with_reducible refine (impl_isVersion.calls a2 ((rd_T32 l0 t103).f0) ((rd_T32 l0 t103).f1) ((rd_T32 l0 t103).f2) ((rd_T32 l0 t103).f3) ((rd_T32 l0 t103).f4) true _ A15.out).mono ?_); rintro e w22 ⟨rfl, hb⟩; refine ⟨_, rfl, ?_⟩; replace BK101 := aa (bb_ BK101.out hb); replace HB := aa (below_step zkmbdh hb); (try clear hb hk hi)) | (refine gc_ Tryd.func39 (some 43) #[.slice (some ad105) l0.length c0, .string a1] ?_; (with_reducible refine (impl_kids.calls k _ _ l0 a1 t107 _ zfmbgg HC0.out A17.out).mono ?_); rintro e w23 ⟨v108, rfl, ho0, hb⟩; refine ⟨_, rfl, ?_⟩; have HO109 := aa (Kd.R_lower ho0 (below_size zkmbdh)); replace BK101 := aa (bb_ BK101.out hb); replace HB := aa (below_step zkmbdh hb); (try clear hb hk hi ho0); obtain ⟨Ao24, co24, eo24⟩ := Kd.R_slice HO109.out; subst eo24; obtain ⟨hcz25_0, hcz25_1, hcz25_2, hfz25_0, hfz25_1, hfz25_2⟩ := blk3_ BK101.out))
     refine bodyPost_ret (results_cell_row rfl _ _ gb101 28 #[.int .i64 8, .string (⟨#[]⟩ : ByteArray), .slice none 0 0] (0, 0) _ rfl zeoiik Tryd.underlying28 rfl (by kernel_rfl)) rfl ?_
     exact ⟨_, zlhpib, zhijhk, zkmbdh⟩
    have c18b0 : decide (0 < (t107.length : Int)) = false := decide_eq_false c18
    have c18b1 : decide (0 < t107.length) = false := decide_eq_false (by omega)
    clear c18
    revert H
    refine obs_ fun t110 A26 H => ?_
    revert H
    refine obs_ fun t113 A27 H => ?_
    simp only [Option.some.injEq, Prod.mk.injEq] at H
    obtain ⟨rfl, rfl, rfl⟩ := H
    go_enter Tryd.func14, Tryd.ntmps14
    go_wp2_with (first | (refine be_ 6 #[.int .i64 0, .string (⟨#[]⟩ : ByteArray), .slice none 0 0] 28 ?_; intro gb101 hg w28 hbox hb; have n0_ := aa (below_step zjjbob hb); have n1_ := aa (hbox); have n2_ := aa ((zkpfjp : w.heap.size ≤ gb101)); have n3_ := aa ((zkpfjp : w.heap.size ≤ gb101)); clear HB; have HB := n0_; have BK101 := n1_; have GW101 := n2_; have GE101 := n3_; clear n0_ n1_ n2_ n3_; clear hb hbox hg) | (refine gc_ Tryd.func28 (some 12) #[.slice A0 l0.length c0, .string a1] ?_; (with_reducible refine (impl_zCode.calls k _ _ l0 a1 t102 _ zfmbgg HC0.out A4.out).mono ?_); rintro e w29 ⟨rfl, hb⟩; refine ⟨_, rfl, ?_⟩; replace BK101 := aa (bb_ BK101.out hb); replace HB := aa (below_step zkmbdh hb); (try clear hb hk hi)) | (refine gc_ Tryd.func29 (some 20) #[.slice A0 l0.length c0, .string a1] ?_; (with_reducible refine (impl_find.calls k _ _ l0 a1 t103 true _ zfmbgg HC0.out A6.out).mono ?_); rintro e w30 ⟨rfl, hb⟩; refine ⟨_, rfl, ?_⟩; replace BK101 := aa (bb_ BK101.out hb); replace HB := aa (below_step zkmbdh hb); (try clear hb hk hi); have p105 : 0 ≤ (t103 : Int) := of_decide_eq_true zgglam; have q105 : t103 < (l0.length : Int) := of_decide_eq_true zgglam; obtain ⟨ad105, e105, hx105_0, hx105_1, hx105_2, hx105_3, hx105_4⟩ := at_T32 HR0.out t103 p105 q105; cases e105; replace hx105_0 := pb HB.out hx105_0; replace hx105_1 := pb HB.out hx105_1; replace hx105_2 := pb HB.out hx105_2; replace hx105_3 := pb HB.out hx105_3; replace hx105_4 := pb HB.out hx105_4; replace p105 := eq_true p105; replace q105 := eq_true q105) | (refine gc_ Tryd.func31 (some 37) #[.int .i64 a2, .agg #[.string ((rd_T32 l0 t103).f0), .int .i64 ((rd_T32 l0 t103).f1), .int .i64 ((rd_T32 l0 t103).f2), .int .i64 ((rd_T32 l0 t103).f3), .int .i64 ((rd_T32 l0 t103).f4)]] ?_; (with_reducible refine (impl_isVersion.calls a2 ((rd_T32 l0 t103).f0) ((rd_T32 l0 t103).f1) ((rd_T32 l0 t103).f2) ((rd_T32 l0 t103).f3) ((rd_T32 l0 t103).f4) true _ A15.out).mono ?_); rintro e w31 ⟨rfl, hb⟩; refine ⟨_, rfl, ?_⟩; replace BK101 := aa (bb_ BK101.out hb); replace HB := aa (below_step zkmbdh hb); (try clear hb hk hi)) | (refine gc_ Tryd.func39 (some 43) #[.slice (some ad105) l0.length c0, .string a1] ?_; (with_reducible refine (impl_kids.calls k _ _ l0 a1 t107 _ zfmbgg HC0.out A17.out).mono ?_); rintro e w32 ⟨v108, rfl, ho0, hb⟩; refine ⟨_, rfl, ?_⟩; have HO109 := aa (Kd.R_lower ho0 (below_size zkmbdh)); replace BK101 := aa (bb_ BK101.out hb); replace HB := aa (below_step zkmbdh hb); (try clear hb hk hi ho0); obtain ⟨Ao33, co33, eo33⟩ := Kd.R_slice HO109.out; subst eo33) | (refine gc_ Tryd.func32 (some 48) #[.slice (some ad105) l0.length c0] ?_; (with_reducible refine (slices_Clone_impl_Znode_impl_Znode.calls _ _ l0 t110 _ zfmbgg HC0.out A26.out).mono ?_); rintro e w34 ⟨v111, rfl, ho0, hb⟩; refine ⟨_, rfl, ?_⟩; replace HO109 := aa (Kd.R_below (zcaken HO109.out) hb); have HO112 := aa (Kd.R_lower ho0 (below_size zkmbdh)); replace BK101 := aa (bb_ BK101.out hb); replace HB := aa (below_step zkmbdh hb); (try clear hb hk hi ho0); obtain ⟨Ao35, co35, eo35⟩ := Kd.R_slice HO112.out; subst eo35) | (refine gc_ Tryd.func40 (some 52) #[.slice Ao35 t110.length co35, .int .i64 t103, .int .i64 (wrap64 (t103 + 1))] ?_; (with_reducible refine (slices_Delete_impl_Znode_impl_Znode.calls (fun k_ => some k_ = (.slice Ao35 t110.length co35 : Value).ownBlock) (.slice Ao35 t110.length co35) t110 t103 (wrap64 (t103 + 1)) t113 w _ ?side1 ?side2 A27.out).mono ?_); (case side1 => exact zkmbdh); (case side2 => exact Kd.R_tight rfl HO112.out); rintro e w36 ⟨v114, rfl, ho0, hb, hkp⟩; refine ⟨_, rfl, ?_⟩; replace BK101 := aa (blk_kept (zkjhpm BK101.out) hkp (fun hs_ => (fun e_ => (Kd.R_ne HO112.out BK101.out (by decide)) e_) hs_)); replace HO109 := aa (Kd.R_mono (ok' := fun k_ => True) (Kd.R_keptB ((Kd.R_apart' HO109.out (Kd.R_typed HO112.out) (by decide))) hkp (fun k_ hk_ hs_ => (hk_.2) hs_)) (fun k_ hk_ => trivial)); have HO115 := aa (Kd.R_mono (ok' := fun k_ => True) ho0 (fun k_ hk_ => trivial)); replace HB := aa (hb); clear HO112; (try clear hb hkp ho0); obtain ⟨Ao37, co37, eo37⟩ := Kd.R_slice HO115.out; subst eo37; obtain ⟨hcz38_0, hcz38_1, hcz38_2, hfz38_0, hfz38_1, hfz38_2⟩ := blk3_ BK101.out))
    refine bodyPost_ret (results_cell_row rfl _ _ gb101 28 #[.int .i64 0, .string (⟨#[]⟩ : ByteArray), .slice Ao37 t113.length co37] (0, 0) _ rfl zkhiid Tryd.underlying28 rfl (by kernel_rfl)) rfl ?_
    exact ⟨_, zlhpib, by (with_reducible repeat (first | apply Kd.R_alloc | apply Kd.R_drewN | apply Kd.R_drew)); exact Kd.R_mono (Kd.R_far (p := ⟨gb101, 2, none⟩) (Kd.R_far (p := ⟨gb101, 1, none⟩) (Kd.R_far (p := ⟨gb101, 0, none⟩) (Kd.R_types HO115.out BK101.out (by decide)) (fun _ hk => hk.2) (.int .i64 0)) (fun _ hk => hk.2) (.string (⟨#[]⟩ : ByteArray))) (fun _ hk => hk.2) (.slice Ao37 t113.length co37)) (fun _ hk => trivial), zkmbdh⟩
   replace c16 := Bool.eq_false_iff.mpr c16
   subst c16
   rw [if_neg fT_] at H
   simp only [Option.some.injEq, Prod.mk.injEq] at H
   obtain ⟨rfl, rfl, rfl⟩ := H
   go_enter Tryd.func14, Tryd.ntmps14
   go_wp2_with (first | (refine be_ 6 #[.int .i64 0, .string (⟨#[]⟩ : ByteArray), .slice none 0 0] 28 ?_; intro gb101 hg w39 hbox hb; have n0_ := aa (below_step zjjbob hb); have n1_ := aa (hbox); have n2_ := aa ((zkpfjp : w.heap.size ≤ gb101)); have n3_ := aa ((zkpfjp : w.heap.size ≤ gb101)); clear HB; have HB := n0_; have BK101 := n1_; have GW101 := n2_; have GE101 := n3_; clear n0_ n1_ n2_ n3_; clear hb hbox hg) | (refine gc_ Tryd.func28 (some 12) #[.slice A0 l0.length c0, .string a1] ?_; (with_reducible refine (impl_zCode.calls k _ _ l0 a1 t102 _ zfmbgg HC0.out A4.out).mono ?_); rintro e w40 ⟨rfl, hb⟩; refine ⟨_, rfl, ?_⟩; replace BK101 := aa (bb_ BK101.out hb); replace HB := aa (below_step zkmbdh hb); (try clear hb hk hi)) | (refine gc_ Tryd.func29 (some 20) #[.slice A0 l0.length c0, .string a1] ?_; (with_reducible refine (impl_find.calls k _ _ l0 a1 t103 true _ zfmbgg HC0.out A6.out).mono ?_); rintro e w41 ⟨rfl, hb⟩; refine ⟨_, rfl, ?_⟩; replace BK101 := aa (bb_ BK101.out hb); replace HB := aa (below_step zkmbdh hb); (try clear hb hk hi); have p105 : 0 ≤ (t103 : Int) := of_decide_eq_true zgglam; have q105 : t103 < (l0.length : Int) := of_decide_eq_true zgglam; obtain ⟨ad105, e105, hx105_0, hx105_1, hx105_2, hx105_3, hx105_4⟩ := at_T32 HR0.out t103 p105 q105; cases e105; replace hx105_0 := pb HB.out hx105_0; replace hx105_1 := pb HB.out hx105_1; replace hx105_2 := pb HB.out hx105_2; replace hx105_3 := pb HB.out hx105_3; replace hx105_4 := pb HB.out hx105_4; replace p105 := eq_true p105; replace q105 := eq_true q105) | (refine gc_ Tryd.func31 (some 37) #[.int .i64 a2, .agg #[.string ((rd_T32 l0 t103).f0), .int .i64 ((rd_T32 l0 t103).f1), .int .i64 ((rd_T32 l0 t103).f2), .int .i64 ((rd_T32 l0 t103).f3), .int .i64 ((rd_T32 l0 t103).f4)]] ?_; (with_reducible refine (impl_isVersion.calls a2 ((rd_T32 l0 t103).f0) ((rd_T32 l0 t103).f1) ((rd_T32 l0 t103).f2) ((rd_T32 l0 t103).f3) ((rd_T32 l0 t103).f4) false _ A15.out).mono ?_); rintro e w42 ⟨rfl, hb⟩; refine ⟨_, rfl, ?_⟩; replace BK101 := aa (bb_ BK101.out hb); replace HB := aa (below_step zkmbdh hb); (try clear hb hk hi); obtain ⟨hcz43_0, hcz43_1, hcz43_2, hfz43_0, hfz43_1, hfz43_2⟩ := blk3_ BK101.out))
   refine bodyPost_ret (results_cell_row rfl _ _ gb101 28 #[.int .i64 7, .string (⟨#[]⟩ : ByteArray), .slice none 0 0] (0, 0) _ rfl zmhibk Tryd.underlying28 rfl (by kernel_rfl)) rfl ?_
   exact ⟨_, zlhpib, zhijhk, zkmbdh⟩
  replace c12 := Bool.eq_false_iff.mpr c12
  subst c12
  rw [if_neg fT_] at H
  simp only [Option.some.injEq, Prod.mk.injEq] at H
  obtain ⟨rfl, rfl, rfl⟩ := H
  go_enter Tryd.func14, Tryd.ntmps14
  go_wp2_with (first | (refine be_ 6 #[.int .i64 0, .string (⟨#[]⟩ : ByteArray), .slice none 0 0] 28 ?_; intro gb101 hg w44 hbox hb; have n0_ := aa (below_step zjjbob hb); have n1_ := aa (hbox); have n2_ := aa ((zkpfjp : w.heap.size ≤ gb101)); have n3_ := aa ((zkpfjp : w.heap.size ≤ gb101)); clear HB; have HB := n0_; have BK101 := n1_; have GW101 := n2_; have GE101 := n3_; clear n0_ n1_ n2_ n3_; clear hb hbox hg) | (refine gc_ Tryd.func28 (some 12) #[.slice A0 l0.length c0, .string a1] ?_; (with_reducible refine (impl_zCode.calls k _ _ l0 a1 t102 _ zfmbgg HC0.out A4.out).mono ?_); rintro e w45 ⟨rfl, hb⟩; refine ⟨_, rfl, ?_⟩; replace BK101 := aa (bb_ BK101.out hb); replace HB := aa (below_step zkmbdh hb); (try clear hb hk hi)) | (refine gc_ Tryd.func29 (some 20) #[.slice A0 l0.length c0, .string a1] ?_; (with_reducible refine (impl_find.calls k _ _ l0 a1 t103 false _ zfmbgg HC0.out A6.out).mono ?_); rintro e w46 ⟨rfl, hb⟩; refine ⟨_, rfl, ?_⟩; replace BK101 := aa (bb_ BK101.out hb); replace HB := aa (below_step zkmbdh hb); (try clear hb hk hi); obtain ⟨hcz47_0, hcz47_1, hcz47_2, hfz47_0, hfz47_1, hfz47_2⟩ := blk3_ BK101.out))
  refine bodyPost_ret (results_cell_row rfl _ _ gb101 28 #[.int .i64 4, .string (⟨#[]⟩ : ByteArray), .slice none 0 0] (0, 0) _ rfl zcgheb Tryd.underlying28 rfl (by kernel_rfl)) rfl ?_
  exact ⟨_, zlhpib, zhijhk, zkmbdh⟩
 simp only [Option.some.injEq, Prod.mk.injEq] at H
 obtain ⟨rfl, rfl, rfl⟩ := H
 go_enter Tryd.func14, Tryd.ntmps14
 go_wp2_with (first | (refine be_ 6 #[.int .i64 0, .string (⟨#[]⟩ : ByteArray), .slice none 0 0] 28 ?_; intro gb101 hg w48 hbox hb; have n0_ := aa (below_step zjjbob hb); have n1_ := aa (hbox); have n2_ := aa ((zkpfjp : w.heap.size ≤ gb101)); have n3_ := aa ((zkpfjp : w.heap.size ≤ gb101)); clear HB; have HB := n0_; have BK101 := n1_; have GW101 := n2_; have GE101 := n3_; clear n0_ n1_ n2_ n3_; clear hb hbox hg) | (refine gc_ Tryd.func28 (some 12) #[.slice A0 l0.length c0, .string a1] ?_; (with_reducible refine (impl_zCode.calls k _ _ l0 a1 t102 _ zfmbgg HC0.out A4.out).mono ?_); rintro e w49 ⟨rfl, hb⟩; refine ⟨_, rfl, ?_⟩; replace BK101 := aa (bb_ BK101.out hb); replace HB := aa (below_step zkmbdh hb); (try clear hb hk hi); obtain ⟨hcz50_0, hcz50_1, hcz50_2, hfz50_0, hfz50_1, hfz50_2⟩ := blk3_ BK101.out))
 refine bodyPost_ret (results_cell_row rfl _ _ gb101 28 #[.int .i64 t102, .string (⟨#[]⟩ : ByteArray), .slice none 0 0] (0, 0) _ rfl zpdnbb Tryd.underlying28 rfl (by kernel_rfl)) rfl ?_
 exact ⟨_, zlhpib, zhijhk, zkmbdh⟩
def spec_DeleteZ.f (k : Nat) (l0 : List (S32)) (a1 : ByteArray) (a2 : Int) : Option (Int × ByteArray × (List (S32))) := (spec_l2Asked.f k l0 a1).bind fun t102 => (if t102 = 0 then ((spec_l2Delete.f k l0 a1 a2).bind fun bt103 => (some (bt103.1, bt103.2.1, bt103.2.2))) else ((spec_l2Bad.f t102).bind fun bt108 => (some (bt108.1, bt108.2.1, bt108.2.2))))
theorem spec_DeleteZ.mono : ∀ a0 a1 a2 k, LeO (spec_DeleteZ.f k a0 a1 a2) (spec_DeleteZ.f (k + 1) a0 a1 a2) := by
 intro a0 a1 a2 k
 unfold spec_DeleteZ.f
 with_reducible repeat' first | exact spec_l2Asked.mono _ _ _ | exact spec_l2Delete.mono _ _ _ _ | exact LeO.refl _ | exact LeO.none _ | refine LeO.ite ?_ ?_ | refine LeO.bind ?_ (fun _ => ?_)
theorem spec_DeleteZ.calls (k : Nat) (A0 : Option Addr) (c0 : Nat) (l0 : List (S32)) (a1 : ByteArray) (a2 : Int) (r1 : Int) (r2 : ByteArray) (r3 : List (S32)) (w : World) (hr0 : Kd.C k32 w A0 l0.length l0) (hc0 : l0.length ≤ c0) (h : spec_DeleteZ.f k l0 a1 a2 = some (r1, r2, r3)) :
  Calls Tryd.prog 15 #[.slice A0 l0.length c0, .string a1, .int .i64 a2] w fun e w' => ∃ v2_ : Value, e = .returned (.agg #[.int .i64 r1, .string r2, v2_]) ∧ Kd.R k32 32 w' w.heap.size (fun _ => True) v2_ r3 ∧ Below w.heap.size w w' := by
 have hu28 := Tryd.underlying28
 have HR0 := aa hr0
 have HC0 := aa hc0
 clear hr0 hc0
 have HB := aa (Below.refl w.heap.size w)
 have H : ((spec_l2Asked.f k l0 a1).bind fun t102 => (if t102 = 0 then ((spec_l2Delete.f k l0 a1 a2).bind fun bt103 => (some (bt103.1, bt103.2.1, bt103.2.2))) else ((spec_l2Bad.f t102).bind fun bt108 => (some (bt108.1, bt108.2.1, bt108.2.2))))) = some (r1, r2, r3) := h
 clear h
 revert H
 refine obs_ fun t102 A4 H => ?_
 revert H
 refine itE_ (fun c5b0 c5b1 H => ?_) fun c5b0 c5b1 H => ?_
 ·
  revert H
  refine ob3_ fun t103 t104 t105 A6 H => ?_
  (try dsimp only at H)
  simp only [Option.some.injEq, Prod.mk.injEq] at H
  obtain ⟨rfl, rfl, rfl⟩ := H
  go_enter Tryd.func15, Tryd.ntmps15
  go_wp2_with (first | (refine be_ 6 #[.int .i64 0, .string (⟨#[]⟩ : ByteArray), .slice none 0 0] 28 ?_; intro gb101 hg w7 hbox hb; have n0_ := aa (below_step zjjbob hb); have n1_ := aa (hbox); have n2_ := aa ((zkpfjp : w.heap.size ≤ gb101)); have n3_ := aa ((zkpfjp : w.heap.size ≤ gb101)); clear HB; have HB := n0_; have BK101 := n1_; have GW101 := n2_; have GE101 := n3_; clear n0_ n1_ n2_ n3_; clear hb hbox hg) | (refine gc_ Tryd.func33 (some 10) #[.slice A0 l0.length c0, .string a1] ?_; (with_reducible refine (spec_l2Asked.calls k _ _ l0 a1 t102 _ zfmbgg HC0.out A4.out).mono ?_); rintro e w8 ⟨rfl, hb⟩; refine ⟨_, rfl, ?_⟩; replace BK101 := aa (bb_ BK101.out hb); replace HB := aa (below_step zkmbdh hb); (try clear hb hk hi)) | (refine gc_ Tryd.func41 (some 18) #[.slice A0 l0.length c0, .string a1, .int .i64 a2] ?_; (with_reducible refine (spec_l2Delete.calls k _ _ l0 a1 a2 t103 t104 t105 _ zfmbgg HC0.out A6.out).mono ?_); rintro e w9 ⟨v106, rfl, ho0, hb⟩; refine ⟨_, rfl, ?_⟩; have HO107 := aa (Kd.R_lower ho0 (below_size zkmbdh)); replace BK101 := aa (bb_ BK101.out hb); replace HB := aa (below_step zkmbdh hb); (try clear hb hk hi ho0); obtain ⟨hcz10_0, hcz10_1, hcz10_2, hfz10_0, hfz10_1, hfz10_2⟩ := blk3_ BK101.out; obtain ⟨Ao11, co11, eo11⟩ := Kd.R_slice HO107.out; subst eo11))
  refine bodyPost_ret (results_cell_row rfl _ _ gb101 28 #[.int .i64 t103, .string t104, .slice Ao11 t105.length co11] (0, 0) _ rfl zdmkil Tryd.underlying28 rfl (by kernel_rfl)) rfl ?_
  exact ⟨_, zlhpib, by (with_reducible repeat (first | apply Kd.R_alloc | apply Kd.R_drewN | apply Kd.R_drew)); exact Kd.R_mono (Kd.R_far (p := ⟨gb101, 2, none⟩) (Kd.R_far (p := ⟨gb101, 1, none⟩) (Kd.R_far (p := ⟨gb101, 0, none⟩) (Kd.R_types HO107.out BK101.out (by decide)) (fun _ hk => hk.2) (.int .i64 t103)) (fun _ hk => hk.2) (.string t104)) (fun _ hk => hk.2) (.slice Ao11 t105.length co11)) (fun _ hk => trivial), zkmbdh⟩
 revert H
 refine ob3_ fun t108 t109 t110 A12 H => ?_
 (try dsimp only at H)
 simp only [Option.some.injEq, Prod.mk.injEq] at H
 obtain ⟨rfl, rfl, rfl⟩ := H
 go_enter Tryd.func15, Tryd.ntmps15
 go_wp2_with (first | (refine be_ 6 #[.int .i64 0, .string (⟨#[]⟩ : ByteArray), .slice none 0 0] 28 ?_; intro gb101 hg w13 hbox hb; have n0_ := aa (below_step zjjbob hb); have n1_ := aa (hbox); have n2_ := aa ((zkpfjp : w.heap.size ≤ gb101)); have n3_ := aa ((zkpfjp : w.heap.size ≤ gb101)); clear HB; have HB := n0_; have BK101 := n1_; have GW101 := n2_; have GE101 := n3_; clear n0_ n1_ n2_ n3_; clear hb hbox hg) | (refine gc_ Tryd.func33 (some 10) #[.slice A0 l0.length c0, .string a1] ?_; (with_reducible refine (spec_l2Asked.calls k _ _ l0 a1 t102 _ zfmbgg HC0.out A4.out).mono ?_); rintro e w14 ⟨rfl, hb⟩; refine ⟨_, rfl, ?_⟩; replace BK101 := aa (bb_ BK101.out hb); replace HB := aa (below_step zkmbdh hb); (try clear hb hk hi)) | (refine gc_ Tryd.func34 (some 14) #[.int .i64 t102] ?_; (with_reducible refine (spec_l2Bad.calls t102 t108 t109 t110 _ A12.out).mono ?_); rintro e w15 ⟨v111, rfl, ho0, hb⟩; refine ⟨_, rfl, ?_⟩; have HO112 := aa (Kd.R_lower ho0 (below_size zkmbdh)); replace BK101 := aa (bb_ BK101.out hb); replace HB := aa (below_step zkmbdh hb); (try clear hb hk hi ho0); obtain ⟨hcz16_0, hcz16_1, hcz16_2, hfz16_0, hfz16_1, hfz16_2⟩ := blk3_ BK101.out; obtain ⟨Ao17, co17, eo17⟩ := Kd.R_slice HO112.out; subst eo17))
 refine bodyPost_ret (results_cell_row rfl _ _ gb101 28 #[.int .i64 t108, .string t109, .slice Ao17 t110.length co17] (0, 0) _ rfl zmdafi Tryd.underlying28 rfl (by kernel_rfl)) rfl ?_
 exact ⟨_, zlhpib, by (with_reducible repeat (first | apply Kd.R_alloc | apply Kd.R_drewN | apply Kd.R_drew)); exact Kd.R_mono (Kd.R_far (p := ⟨gb101, 2, none⟩) (Kd.R_far (p := ⟨gb101, 1, none⟩) (Kd.R_far (p := ⟨gb101, 0, none⟩) (Kd.R_types HO112.out BK101.out (by decide)) (fun _ hk => hk.2) (.int .i64 t108)) (fun _ hk => hk.2) (.string t109)) (fun _ hk => hk.2) (.slice Ao17 t110.length co17)) (fun _ hk => trivial), zkmbdh⟩
end Go.Proofs.YtegggpipggniaaaDoor.Qa
/- The names of kids, by the program. -/
namespace Go.Proofs.YtegggpipggniaaaDoor.Pure
open Go.RowKit Go.Proofs.YtegggpipggniaaaDoor.Qa Go.Proofs.YtegggpipggniaaaDoorW.PrintWords Go.Proofs.YtegggpipggniaaaDoorW.PrintLast Go.Proofs.YtegggpipggniaaaDoor.Aid
theorem kids_impl_l0 {l : List ZZ} (hg : ∀ z ∈ l, zOwn z = 0) (hl : l.length ≤ 20) (q : ByteArray) (d : Nat) : ∀ (i : Nat) (out : List ByteArray), i + d = l.length → out.length ≤ i → Ev (fun k => impl_kids.l0 k q out l (l.length : Int) (i : Int)) (out ++ kidsL q (l.drop i)) := by
  induction d with
  | zero =>
    intro i out h ho
    rw [drop_end (by omega)]
    exact ev_done fun k => by simp only [impl_kids.l0]; rw [if_neg (by omega)]; simp [kidsL]
  | succ d ih =>
    intro i out h ho
    have hi : i < l.length := by omega
    have hrd := rd_T32_at hi
    have wi := wrap_up hi (by omega)
    obtain ⟨hf, _⟩ := zOwn_ok (hg _ (List.getElem_mem hi))
    rw [drop_at hi, kidsL_cons]
    refine ev_step (fun k => (impl_parted.f k (l[i]).f0).bind fun bt106 => (if (l[i]).f0.toList = ([47] : List UInt8) then (impl_kids.l0 k q out l (l.length : Int) ((i + 1 : Nat) : Int)) else (if bt106.1.toList = q.toList then (if out.length < 8796093022208 then (impl_kids.l0 k q (out ++ [bt106.2]) l (l.length : Int) ((i + 1 : Nat) : Int)) else (none)) else (impl_kids.l0 k q out l (l.length : Int) ((i + 1 : Nat) : Int))))) (fun k => ?_) (ev_call (parted_is hf) ?_)
    · simp only [impl_kids.l0]; rw [if_pos (by omega), if_pos (by omega), if_pos (by omega), hrd, wi]
    · by_cases c : pk l[i] = [47]
      · rw [if_pos c]
        exact ev_cong (fun k => if_pos (by rw [tl]; exact c)) (ih (i + 1) out (by omega) (by omega))
      · rw [if_neg c]
        refine ev_cong (fun k => if_neg (by rw [tl]; exact c)) ?_
        by_cases c2 : (upR (l[i]).f0).data.toList = q.data.toList
        · rw [if_pos c2]
          have IH := ih (i + 1) (out ++ [nmR (l[i]).f0]) (by omega) (by rw [List.length_append]; simp; omega)
          rw [List.append_assoc] at IH
          exact ev_cong (fun k => (if_pos (by rw [tl, tl]; exact c2)).trans (if_pos (by omega))) IH
        · rw [if_neg c2]
          exact ev_cong (fun k => if_neg (by rw [tl, tl]; exact c2)) (ih (i + 1) out (by omega) (by omega))
theorem kids_impl {l : List ZZ} (hg : ∀ z ∈ l, zOwn z = 0) (hl : l.length ≤ 20) (q : ByteArray) : Ev (fun k => impl_kids.f k l q) (kidsL q l) := by
  have := kids_impl_l0 hg hl q l.length 0 [] (by omega) (Nat.le_refl _)
  rw [List.nil_append, List.drop_zero] at this
  exact this
end Go.Proofs.YtegggpipggniaaaDoor.Pure

/- A row of nodes cloned, by the program. -/
namespace Go.Proofs.YtegggpipggniaaaDoor.Pure
open Go.RowKit Go.Proofs.YtegggpipggniaaaDoor.Qa Go.Proofs.YtegggpipggniaaaDoorW.PrintWords Go.Proofs.YtegggpipggniaaaDoorW.PrintLast Go.Proofs.YtegggpipggniaaaDoor.Aid
theorem clone_impl (l : List ZZ) (hl : l.length ≤ 1048576000) : slices_Clone_impl_Znode_impl_Znode.f l = some l := by
  unfold slices_Clone_impl_Znode_impl_Znode.f
  simp only [Option.bind_some, List.nil_append, List.length_nil, Nat.zero_add]
  rw [if_pos (by omega)]
end Go.Proofs.YtegggpipggniaaaDoor.Pure

/- The code of a tree and a path, by the program. -/
namespace Go.Proofs.YtegggpipggniaaaDoor.Pure
open Go.RowKit Go.Proofs.YtegggpipggniaaaDoor.Qa Go.Proofs.YtegggpipggniaaaDoorW.PrintWords Go.Proofs.YtegggpipggniaaaDoorW.PrintLast Go.Proofs.YtegggpipggniaaaDoor.Aid
noncomputable def askT (l : List ZZ) (q : ByteArray) : Int := if treeR l = 0 then faultR q else treeR l
theorem askT_impl (l : List ZZ) (q : ByteArray) : Ev (fun k => impl_zCode.f k l q) (askT l q) := by
  unfold impl_zCode.f askT
  refine ev_call (treeR_impl l) ?_
  by_cases h : treeR l = 0
  · rw [if_pos h]
    exact ev_cong (fun k => if_pos h) (ev_call (fault_impl q) (Ev.now _))
  · rw [if_neg h]
    exact ev_is fun k => if_neg h
theorem askT_ok {l : List ZZ} {q : ByteArray} (h : askT l q = 0) : RightT l ∧ faultR q = 0 ∧ treeR l = 0 := by
  unfold askT at h
  by_cases h1 : treeR l = 0
  · rw [if_pos h1] at h
    exact ⟨right_of h1, h, h1⟩
  · rw [if_neg h1] at h; exact absurd h h1
end Go.Proofs.YtegggpipggniaaaDoor.Pure

/- The code of a tree and a path, by the reference. -/
namespace Go.Proofs.YtegggpipggniaaaDoor.Pure
open Go.RowKit Go.Proofs.YtegggpipggniaaaDoor.Qa Go.Proofs.YtegggpipggniaaaDoorW.PrintWords Go.Proofs.YtegggpipggniaaaDoorW.PrintLast Go.Proofs.YtegggpipggniaaaDoor.Aid
theorem askT_spec (l : List ZZ) (q : ByteArray) : Ev (fun k => spec_l2Asked.f k l q) (askT l q) := by
  unfold spec_l2Asked.f askT
  refine ev_call (treeR_spec l) ?_
  by_cases h : treeR l = 0
  · rw [if_pos h]
    exact ev_cong (fun k => if_pos h) (ev_call (fault_spec q) (Ev.now _))
  · rw [if_neg h]
    exact ev_is fun k => if_neg h
end Go.Proofs.YtegggpipggniaaaDoor.Pure

/- A node taken: the program and the reference answer alike. -/
namespace Go.Proofs.YtegggpipggniaaaDoor.Pure
open Go.RowKit Go.Proofs.YtegggpipggniaaaDoor.Qa Go.Proofs.YtegggpipggniaaaDoorW.PrintWords Go.Proofs.YtegggpipggniaaaDoorW.PrintLast Go.Proofs.YtegggpipggniaaaDoor.Aid
end Go.Proofs.YtegggpipggniaaaDoor.Pure

/- A name with a number behind it, by the program. -/
namespace Go.Proofs.YtegggpipggniaaaDoor.Pure
open Go.RowKit Go.Proofs.YtegggpipggniaaaDoor.Qa Go.Proofs.YtegggpipggniaaaDoorW.PrintWords Go.Proofs.YtegggpipggniaaaDoorW.PrintLast Go.Proofs.YtegggpipggniaaaDoor.Aid
theorem SeqName_impl (s : ByteArray) (n : Int) (hs : s.size ≤ 1048576) : Ev (fun k => impl_SeqName.f k s n) (seqR s n) := by
  unfold impl_SeqName.f seqR
  refine ev_call (name_impl s (by omega)) ?_
  cases h1 : nameB s with
  | false => exact ev_is fun k => by simp
  | true =>
    refine ev_cong (fun k => if_pos rfl) (ev_call (ev_is fun _ => impl_within_is n 0 99) ?_)
    by_cases h2 : 0 ≤ n ∧ n ≤ 99
    · have z := seqT_size s n
      refine ev_cong (fun k => if_pos (decide_eq_true h2)) ?_
      refine ev_call (a := twoN n) (ev_is fun k => rfl) (ev_cong (fun k => if_pos (by rw [size_strOfNums]; simp [twoN]; omega)) ?_)
      refine ev_call (name_impl (seqT s n) (by omega)) (ev_is fun k => ?_)
      rw [if_pos rfl, if_pos h2]
      show (if nameB (seqT s n) = true then some (0, seqT s n) else _) = _
      cases nameB (seqT s n) <;> simp
    · exact ev_is fun k => by simp [h2]
end Go.Proofs.YtegggpipggniaaaDoor.Pure

/- A path joined, by the program. -/
namespace Go.Proofs.YtegggpipggniaaaDoor.Pure
open Go.RowKit Go.Proofs.YtegggpipggniaaaDoor.Qa Go.Proofs.YtegggpipggniaaaDoorW.PrintWords Go.Proofs.YtegggpipggniaaaDoorW.PrintLast Go.Proofs.YtegggpipggniaaaDoor.Aid
theorem join_impl (s n : ByteArray) (hs : s.size ≤ 24) (hn : n.size ≤ 1048576) : impl_joined.f s n = some (joinR s n) := by
  unfold impl_joined.f joinR
  rw [tl, cat_size]
  have e1 : (⟨#[47]⟩ : ByteArray).size = 1 := rfl
  by_cases h : s.data.toList = [47]
  · rw [if_pos h, if_pos h, if_pos (by omega)]
  · rw [if_neg h, if_neg h, if_pos (by omega), if_pos (by omega)]
end Go.Proofs.YtegggpipggniaaaDoor.Pure

/- A node put, by the program. -/
namespace Go.Proofs.YtegggpipggniaaaDoor.Pure
open Go.RowKit Go.Proofs.YtegggpipggniaaaDoor.Qa Go.Proofs.YtegggpipggniaaaDoorW.PrintWords Go.Proofs.YtegggpipggniaaaDoorW.PrintLast Go.Proofs.YtegggpipggniaaaDoor.Aid
theorem insert_is {l : List ZZ} (hl : l.length ≤ 20) (p : Nat) (hp : p ≤ l.length) (z : ZZ) : slices_Insert_impl_Znode_impl_Znode.f l (p : Int) [z] = some (insAt l p z) := by
  unfold slices_Insert_impl_Znode_impl_Znode.f
  rw [if_pos (by omega), if_pos (by omega), if_pos (show [z].length = 1 from rfl), if_pos (by omega), Int.toNat_natCast]
  rfl
theorem make_impl {m : List ZZ} (hr : Rises pk m) (hl : m.length ≤ 20) (q : ByteArray) (d o : Int) : Ev (fun k => impl_CreateZ.j1 k q d o m) (makeR m q d o) := by
  refine ev_step _ (fun k => by simp only [impl_CreateZ.j1]; rfl) (ev_call (find_is hr (by omega) q) ?_)
  by_cases c : hereK pk m q.data.toList = true
  · have e : makeR m q d o = badZ 6 := by unfold makeR; exact if_pos c
    rw [e]
    exact ev_is fun k => if_pos c
  · by_cases c2 : m.length = 20
    · have e : makeR m q d o = badZ 2 := by unfold makeR; exact (if_neg c).trans (if_pos c2)
      rw [e]
      exact ev_is fun k => (if_neg c).trans (if_pos (by omega))
    · have e : makeR m q d o = (0, q, insAt m (posK pk m q.data.toList) ⟨q, d, 0, o, 0⟩) := by unfold makeR; exact (if_neg c).trans (if_neg c2)
      rw [e]
      refine ev_is fun k => (if_neg c).trans ((if_neg (by omega)).trans ?_)
      show (slices_Insert_impl_Znode_impl_Znode.f m (posK pk m q.data.toList : Int) [(⟨q, d, 0, o, 0⟩ : ZZ)]).bind _ = _
      rw [insert_is hl _ (posK_le pk m _)]
      rfl
noncomputable def createR (l : List ZZ) (q : ByteArray) (d o : Int) (b : Bool) : ZR := if askT l q = 0 then createIn l q d o b else badZ (askT l q)
set_option maxHeartbeats 1000000 in
theorem create_j0_impl {l : List ZZ} (hg : ∀ z ∈ l, zOwn z = 0) (hr : Rises pk l) (hl : l.length ≤ 20) {q : ByteArray} (hq : faultR q = 0) (d o : Int) (b : Bool) (hdo : (0 ≤ d ∧ d ≤ 9999) ∧ (0 ≤ o ∧ o ≤ 9)) : Ev (fun k => impl_CreateZ.j0 k l q d o b false) (createIn l q d o b) := by
  have hsz := upR_size hq
  unfold createIn
  rw [if_pos hdo]
  by_cases h1 : q.data.toList = [47]
  · rw [if_pos h1]
    exact ev_done fun k => by simp only [impl_CreateZ.j0]; rw [if_neg (by simp), if_pos (by rw [tl]; exact h1)]; rfl
  · rw [if_neg h1]
    refine ev_step _ (fun k => by simp only [impl_CreateZ.j0]; rw [if_neg (by simp), if_neg (by rw [tl]; exact h1)]) (ev_call (parted_is hq) (ev_call (find_is hr (by omega) (upR q)) ?_))
    cases c : hereK pk l (upR q).data.toList with
    | false =>
      rw [if_neg (by simp)]
      exact ev_is fun k => if_neg (by simp)
    | true =>
      have hp := hereK_lt c
      rw [if_pos rfl]
      generalize posK pk l (upR q).data.toList = p at hp
      refine ev_cong (fun k => (if_pos rfl).trans ((if_pos (by show 0 ≤ (p : Int); omega)).trans (if_pos (by show (p : Int) < (l.length : Int); omega)))) ?_
      by_cases c2 : (rd_T32 l (p : Int)).f3 = 0
      · rw [if_pos c2]
        refine ev_cong (fun k => if_pos c2) (ev_call (ev_is fun _ => clone_impl l (by omega)) ?_)
        unfold createUp
        cases b with
        | false =>
          rw [if_neg (by simp)]
          exact ev_cong (fun k => if_neg (by simp)) (make_impl hr hl q d o)
        | true =>
          rw [if_pos rfl]
          refine ev_cong (fun k => (if_pos rfl).trans (if_pos (by show (p : Int) < (l.length : Int); omega))) ?_
          have hn := next_le hg hp
          by_cases c3 : (rd_T32 l (p : Int)).f4 = 100
          · rw [if_pos c3]
            exact ev_is fun k => if_pos c3
          · rw [if_neg c3]
            have hseq := SeqName_impl (nmR q) (rd_T32 l (p : Int)).f4 (by omega)
            have hsl := seqT_size (nmR q) (rd_T32 l (p : Int)).f4
            unfold seqR at hseq
            rw [if_pos (nm_name hq h1), if_pos (show 0 ≤ (rd_T32 l (p : Int)).f4 ∧ (rd_T32 l (p : Int)).f4 ≤ 99 by omega)] at hseq
            generalize hS : seqT (nmR q) (rd_T32 l (p : Int)).f4 = S at hseq hsl
            refine ev_cong (fun k => if_neg c3) (ev_call hseq ?_)
            by_cases c4 : nameB S = true
            · rw [if_pos c4, if_pos c4]
              refine ev_cong (fun k => if_pos rfl) (ev_call (ev_is fun _ => join_impl (upR q) S hsz.1 (by omega)) (ev_call (fault_impl _) ?_))
              by_cases c5 : faultR (joinR (upR q) S) = 0
              · rw [if_pos c5]
                exact ev_cong (fun k => if_pos c5) (make_impl (same_rise (nextUp_keys l p hp).symm hr) (by rw [nextUp_len]; exact hl) _ d o)
              · rw [if_neg c5]
                exact ev_is fun k => if_neg c5
            · rw [if_neg c4, if_neg c4]
              exact ev_is fun k => if_neg (by show ¬ (5 : Int) = 0; omega)
      · rw [if_neg c2]
        exact ev_is fun k => if_neg c2
theorem CreateZ_impl (l : List ZZ) (q : ByteArray) (d o : Int) (b : Bool) : Ev (fun k => impl_CreateZ.f k l q d o b) (createR l q d o b) := by
  unfold impl_CreateZ.f createR
  refine ev_call (askT_impl l q) ?_
  by_cases h : askT l q = 0
  · rw [if_pos h]
    obtain ⟨hR, hq, _⟩ := askT_ok h
    refine ev_cong (fun k => if_pos h) ?_
    unfold impl_isData.f impl_isOwner.f
    rw [impl_within_is, impl_within_is]
    simp only [Option.bind_some]
    by_cases h1 : 0 ≤ d ∧ d ≤ 9999
    · refine ev_cong (fun k => if_pos (decide_eq_true h1)) ?_
      by_cases h2 : 0 ≤ o ∧ o ≤ 9
      · rw [decide_eq_true h2]
        exact create_j0_impl hR.good hR.rise hR.few hq d o b ⟨h1, h2⟩
      · rw [decide_eq_false h2]
        unfold createIn
        rw [if_neg (fun h => h2 h.2)]
        exact ev_done fun k => by simp only [impl_CreateZ.j0]; rw [if_pos (by simp)]; rfl
    · refine ev_cong (fun k => if_neg (by simpa using h1)) ?_
      unfold createIn
      rw [if_neg (fun h => h1 h.1)]
      exact ev_done fun k => by simp only [impl_CreateZ.j0]; rw [if_pos trivial]; rfl
  · rw [if_neg h]
    exact ev_is fun k => if_neg h
end Go.Proofs.YtegggpipggniaaaDoor.Pure

/- A node told, by the program. -/
namespace Go.Proofs.YtegggpipggniaaaDoor.Pure
open Go.RowKit Go.Proofs.YtegggpipggniaaaDoor.Qa Go.Proofs.YtegggpipggniaaaDoorW.PrintWords Go.Proofs.YtegggpipggniaaaDoorW.PrintLast Go.Proofs.YtegggpipggniaaaDoor.Aid
noncomputable def getR (l : List ZZ) (q : ByteArray) : ZR := if askT l q = 0 then (if hereK pk l q.data.toList = true then (0, (⟨#[]⟩ : ByteArray), [rd_T32 l (posK pk l q.data.toList : Int)]) else badZ 4) else badZ (askT l q)
theorem GetZ_impl (l : List ZZ) (q : ByteArray) : Ev (fun k => impl_GetZ.f k l q) (getR l q) := by
  unfold impl_GetZ.f getR
  refine ev_call (askT_impl l q) ?_
  by_cases h : askT l q = 0
  · rw [if_pos h]
    obtain ⟨hR, _, _⟩ := askT_ok h
    have hf := hR.few
    refine ev_cong (fun k => if_pos h) (ev_call (find_is hR.rise (by omega) q) (ev_is fun k => ?_))
    cases c : hereK pk l q.data.toList with
    | true =>
      have hp := hereK_lt c
      rw [if_pos rfl, if_pos rfl, if_pos (by show 0 ≤ (posK pk l q.data.toList : Int); omega), if_pos (by show (posK pk l q.data.toList : Int) < (l.length : Int); omega)]
    | false => rw [if_neg (by simp), if_neg (by simp)]; rfl
  · rw [if_neg h]
    exact ev_is fun k => if_neg h
end Go.Proofs.YtegggpipggniaaaDoor.Pure

/- The names of a node's kids, asked for, by the program. -/
namespace Go.Proofs.YtegggpipggniaaaDoor.Pure
open Go.RowKit Go.Proofs.YtegggpipggniaaaDoor.Qa Go.Proofs.YtegggpipggniaaaDoorW.PrintWords Go.Proofs.YtegggpipggniaaaDoorW.PrintLast Go.Proofs.YtegggpipggniaaaDoor.Aid
noncomputable def kidsR (l : List ZZ) (q : ByteArray) : Int × List ByteArray := if askT l q = 0 then (if hereK pk l q.data.toList = true then (0, kidsL q l) else (4, [])) else (askT l q, [])
theorem KidsZ_impl (l : List ZZ) (q : ByteArray) : Ev (fun k => impl_KidsZ.f k l q) (kidsR l q) := by
  unfold impl_KidsZ.f kidsR
  refine ev_call (askT_impl l q) ?_
  by_cases h : askT l q = 0
  · rw [if_pos h]
    obtain ⟨hR, _, _⟩ := askT_ok h
    have hf := hR.few
    refine ev_cong (fun k => if_pos h) (ev_call (find_is hR.rise (by omega) q) ?_)
    cases c : hereK pk l q.data.toList with
    | true =>
      rw [if_pos rfl]
      exact ev_cong (fun k => if_pos rfl) (ev_call (kids_impl hR.good hR.few q) (Ev.now _))
    | false =>
      rw [if_neg (by simp)]
      exact ev_is fun k => if_neg (by simp)
  · rw [if_neg h]
    exact ev_is fun k => if_neg h
end Go.Proofs.YtegggpipggniaaaDoor.Pure

/- A node taken, put again and taken again. -/
namespace Go.Proofs.YtegggpipggniaaaDoor.Pure
open Go.RowKit Go.Proofs.YtegggpipggniaaaDoor.Qa Go.Proofs.YtegggpipggniaaaDoorW.PrintWords Go.Proofs.YtegggpipggniaaaDoorW.PrintLast Go.Proofs.YtegggpipggniaaaDoor.Aid
theorem ask_of {l : List ZZ} (h : TreeM l) {q : ByteArray} (hq : faultR q = 0) : askT l q = 0 := by unfold askT; rw [if_pos h.code]; exact hq
theorem f0_at {l : List ZZ} {q : ByteArray} (hh : hereK pk l q.data.toList = true) : (l[posK pk l q.data.toList]'(hereK_lt hh)).f0 = q := (eq_mk (hereK_eq hh)).trans (eq_mk rfl).symm
end Go.Proofs.YtegggpipggniaaaDoor.Pure

/- A joined path: its parent is what it was joined to. -/
namespace Go.Proofs.YtegggpipggniaaaDoor.Pure
open Go.RowKit Go.Proofs.YtegggpipggniaaaDoor.Qa Go.Proofs.YtegggpipggniaaaDoorW.PrintWords Go.Proofs.YtegggpipggniaaaDoorW.PrintLast Go.Proofs.YtegggpipggniaaaDoor.Aid
theorem cat_list (t : ByteArray) : (t ++ (⟨#[47]⟩ : ByteArray)).data.toList = t.data.toList ++ [47] := by
  rw [ByteArray.data_append, Array.toList_append]
theorem parted_at (s : ByteArray) (hs : s.size ≤ 24) (p : Nat) (hp : p < s.data.toList.length) (h1 : s.data.toList[p] = 47) (h2 : ∀ (j : Nat) (hj : j < s.data.toList.length), p < j → s.data.toList[j] ≠ 47) : Ev (fun k => impl_parted.f k s) (if p = 0 then (⟨#[47]⟩ : ByteArray) else s.extract 0 p, s.extract (p + 1) s.size) := by
  have hl := size_list s
  have h3 : Ev (fun k => strings_LastIndex.f k s (⟨#[47]⟩ : ByteArray)) (p : Int) := by
    have hd := last_impl_l0 s hs p hp h1 h2 (s.data.toList.length - 1 - p) (by omega)
    have e : wrap64 ((s.size : Int) - 1) = ((p + (s.data.toList.length - 1 - p) : Nat) : Int) := by rw [wrap_id (by omega) (by omega)]; omega
    have e1 : ((⟨#[47]⟩ : ByteArray).size : Int) = 1 := rfl
    have e2 : bt (⟨#[47]⟩ : ByteArray) 0 = 47 := rfl
    unfold strings_LastIndex.f
    rw [e1, e2]
    refine ev_cong (fun k => (if_neg (by omega)).trans ((if_pos rfl).trans (if_pos (by omega)))) (ev_call (a := (p : Int)) ?_ (Ev.now _))
    unfold bytealg_LastIndexByteString.f
    rw [e]
    exact hd
  have hz : s.extract 0 1 = mkB [s.data.toList[0]] := by
    rw [ext_mk]
    congr 1
    rw [show (1 : Nat) - 0 = 0 + 1 from rfl, List.drop_zero, List.take_succ_eq_append_getElem (by omega)]
    rfl
  unfold impl_parted.f
  refine ev_call h3 (ev_is fun k => ?_)
  have q3 : (0 : Int) ≤ ((p + 1 : Nat) : Int) := by omega
  have q4 : ((p + 1 : Nat) : Int) ≤ (s.size : Int) := by omega
  by_cases c : p = 0
  · subst c
    have m : mx ((0 : Nat) : Int) 1 = 1 := rfl
    have q5 : (1 : Int) ≤ (s.size : Int) := by omega
    have wi := w_up 0 (by omega)
    rw [m, if_pos (by omega), if_pos q5, wi, if_pos q3, if_pos q4, if_pos rfl, show ((1 : Int).toNat) = 1 from rfl, hz, h1, Int.toNat_natCast]
    rfl
  · have m : mx (p : Int) 1 = (p : Int) := by unfold mx; rw [if_neg (by omega)]
    have q5 : (p : Int) ≤ (s.size : Int) := by omega
    have wi := w_up p (by omega)
    rw [m, if_pos (by omega), if_pos q5, wi, if_pos q3, if_pos q4, if_neg c, Int.toNat_natCast, Int.toNat_natCast]
theorem ok_ne {c : UInt8} (h : okU c = true) : c ≠ 47 := fun e => by
  subst e
  have : okU 47 = false := by decide
  rw [this] at h
  cases h
def frontL (s : ByteArray) : List UInt8 := if s.data.toList = [47] then [] else s.data.toList
theorem join_list (s n : ByteArray) : (joinR s n).data.toList = frontL s ++ 47 :: n.data.toList := by
  unfold joinR frontL
  by_cases h : s.data.toList = [47]
  · rw [if_pos h, if_pos h, ByteArray.data_append, Array.toList_append, h]
    rfl
  · rw [if_neg h, if_neg h, ByteArray.data_append, Array.toList_append, cat_list, List.append_assoc]
    rfl
theorem joined_up {p n : ByteArray} (hf : faultR p = 0) (hnm : nameB n = true) (hfo : faultR (joinR p n) = 0) : upR (joinR p n) = p ∧ ¬ (joinR p n).data.toList = [47] ∧ (joinR p n).size = (frontL p).length + 1 + n.size := by
  have hj := join_list p n
  have hso := (fault_zero hfo).1
  have hzo := size_list (joinR p n)
  have hzn := size_list n
  have hzp := size_list p
  have hnb := hnm
  unfold nameB at hnb
  rw [Bool.and_eq_true, decide_eq_true_eq, List.all_eq_true] at hnb
  obtain ⟨hall, hn1, hn8⟩ := hnb
  have hlen : (joinR p n).data.toList.length = (frontL p).length + 1 + n.data.toList.length := by rw [hj]; simp; omega
  have hne : (joinR p n).data.toList ≠ [47] := fun e => by
    have := congrArg List.length e
    rw [hlen] at this
    simp at this
    omega
  have hcn : n.data.toList.count 47 = 0 := List.count_eq_zero.2 (fun hm => ok_ne (hall _ hm) rfl)
  have hco : (joinR p n).data.toList.count 47 = (frontL p).count 47 + 1 := by rw [hj, List.count_append, List.count_cons_self, hcn]
  have hpos : (frontL p).length < (joinR p n).data.toList.length := by omega
  have hat : (joinR p n).data.toList[(frontL p).length] = 47 := by simp [hj]
  have hbe : ∀ (j : Nat) (hj : j < (joinR p n).data.toList.length), (frontL p).length < j → (joinR p n).data.toList[j] ≠ 47 := by
    intro j hjl hlt
    have e : (joinR p n).data.toList[j] = n.data.toList[j - (frontL p).length - 1]'(by omega) := by
      simp only [hj]
      rw [List.getElem_append_right (by omega), List.getElem_cons]
      rw [dif_neg (by omega)]
    rw [e]
    exact ok_ne (hall _ (List.getElem_mem _))
  have hpt := parted_at (joinR p n) hso (frontL p).length hpos hat hbe
  have hnx : (joinR p n).extract ((frontL p).length + 1) (joinR p n).size = n := by
    rw [ext_mk, hj, List.take_of_length_le (by rw [List.length_drop, ← hj]; omega)]
    have : (frontL p ++ 47 :: n.data.toList).drop ((frontL p).length + 1) = n.data.toList := by simp
    rw [this]
    rfl
  have hux : (if (frontL p).length = 0 then (⟨#[47]⟩ : ByteArray) else (joinR p n).extract 0 (frontL p).length) = p := by
    by_cases h47 : p.data.toList = [47]
    · rw [if_pos (by unfold frontL; rw [if_pos h47]; rfl)]
      exact (eq_mk h47).symm
    · have hfr : frontL p = p.data.toList := if_neg h47
      have hp0 : 0 < p.data.toList.length := by
        rcases (fault_zero hf).2 with h2 | ⟨_, _, h4⟩
        · exact absurd h2 h47
        · exact Nat.lt_of_lt_of_le h4 List.count_le_length
      rw [if_neg (by rw [hfr]; omega), ext_mk, hj, hfr]
      have : ((p.data.toList ++ 47 :: n.data.toList).drop 0).take (p.data.toList.length - 0) = p.data.toList := by simp
      rw [this]
      rfl
  rw [hnx, hux] at hpt
  have e := ev_one (parted_is hfo) hpt
  exact ⟨congrArg Prod.fst e, hne, by omega⟩
end Go.Proofs.YtegggpipggniaaaDoor.Pure

/- A node put: what is there behind it. -/
namespace Go.Proofs.YtegggpipggniaaaDoor.Pure
open Go.RowKit Go.Proofs.YtegggpipggniaaaDoor.Qa Go.Proofs.YtegggpipggniaaaDoorW.PrintWords Go.Proofs.YtegggpipggniaaaDoorW.PrintLast Go.Proofs.YtegggpipggniaaaDoor.Aid
theorem kids_same {q : ByteArray} : ∀ {l m : List ZZ}, l.map (·.f0) = m.map (·.f0) → kidsL q l = kidsL q m
  | [], [], _ => rfl
  | [], _ :: _, h => by cases h
  | _ :: _, [], h => by cases h
  | x :: l, y :: m, h => by
    rw [List.map_cons, List.map_cons] at h
    injection h with h1 h2
    have h1 : x.f0 = y.f0 := h1
    have ih := kids_same (q := q) (l := l) (m := m) h2
    rw [kidsL_cons, kidsL_cons]
    unfold pk
    rw [h1, ih]
theorem kids_cat {q : ByteArray} : ∀ (l m : List ZZ), kidsL q (l ++ m) = kidsL q l ++ kidsL q m
  | [], _ => rfl
  | x :: l, m => by
    rw [List.cons_append, kidsL_cons, kidsL_cons, kids_cat l m]
    split
    · rfl
    · split
      · rfl
      · rfl
theorem kids_ins {q : ByteArray} (l : List ZZ) (p : Nat) {z : ZZ} (ht : ¬ pk z = [47]) (hu : upR z.f0 = q) : (kidsL q (insAt l p z)).length = (kidsL q l).length + 1 := by
  have e : kidsL q [z] = [nmR z.f0] := by
    rw [kidsL_cons, if_neg ht, if_pos (by rw [hu])]
    rfl
  unfold insAt
  rw [kids_cat, kids_cat, e]
  have e2 : (kidsL q l).length = (kidsL q (l.take p)).length + (kidsL q (l.drop p)).length := by
    rw [← List.length_append, ← kids_cat, List.take_append_drop]
  rw [e2, List.length_append, List.length_append]
  simp
  omega
theorem set_f0 {l : List ZZ} {p : Nat} (hp : p < l.length) {z : ZZ} (h : z.f0 = l[p].f0) : (l.set p z).map (·.f0) = l.map (·.f0) := by
  rw [List.map_set, h]
  have : l[p].f0 = (l.map (·.f0))[p]'(by rw [List.length_map]; exact hp) := by rw [List.getElem_map]
  rw [this, List.set_getElem_self]
structure Made (l : List ZZ) (q : ByteArray) (d o : Int) (b : Bool) (l' : List ZZ) (q' : ByteArray) : Prop where
  tree : TreeM l
  tree' : TreeM l'
  f0s : l'.map (·.f0) = l.map (·.f0)
  olds : ∀ x ∈ l, ∃ y ∈ l', y.f0 = x.f0 ∧ y.f1 = x.f1 ∧ y.f2 = x.f2 ∧ y.f3 = x.f3
  fq : faultR q = 0
  topq : ¬ q.data.toList = [47]
  fault : faultR q' = 0
  top : ¬ q'.data.toList = [47]
  plain : b = false → q' = q
  up : upR q' = upR q
  new : ¬ hereK pk l' q'.data.toList = true
  under : ∃ y ∈ l', pk y = (upR q').data.toList ∧ y.f3 = 0
  few : ¬ l'.length = 20
  data : 0 ≤ d ∧ d ≤ 9999
  own : 0 ≤ o ∧ o ≤ 9
  is : createR l q d o b = (0, q', insAt l' (posK pk l' q'.data.toList) ⟨q', d, 0, o, 0⟩)
  num : b = true → ∃ hp : posK pk l (upR q).data.toList < l.length, ¬ (l[posK pk l (upR q).data.toList]).f4 = 100 ∧ q' = joinR (upR q) (seqT (nmR q) (l[posK pk l (upR q).data.toList]).f4) ∧ nameB (seqT (nmR q) (l[posK pk l (upR q).data.toList]).f4) = true ∧ l' = l.set (posK pk l (upR q).data.toList) (⟨(l[posK pk l (upR q).data.toList]).f0, (l[posK pk l (upR q).data.toList]).f1, (l[posK pk l (upR q).data.toList]).f2, (l[posK pk l (upR q).data.toList]).f3, wrap64 ((l[posK pk l (upR q).data.toList]).f4 + 1)⟩ : ZZ)
theorem makeR_ok {l : List ZZ} {q : ByteArray} {d o : Int} (h : (makeR l q d o).1 = 0) : ¬ hereK pk l q.data.toList = true ∧ ¬ l.length = 20 ∧ makeR l q d o = (0, q, insAt l (posK pk l q.data.toList) ⟨q, d, 0, o, 0⟩) := by
  unfold makeR at h ⊢
  by_cases hh : hereK pk l q.data.toList = true
  · rw [if_pos hh] at h; cases h
  · rw [if_neg hh] at h ⊢
    by_cases h2 : l.length = 20
    · rw [if_pos h2] at h; cases h
    · rw [if_neg h2]
      exact ⟨hh, h2, rfl⟩
theorem createR_ok {l : List ZZ} {q : ByteArray} {d o : Int} {b : Bool} (h : (createR l q d o b).1 = 0) : ∃ (l' : List ZZ) (q' : ByteArray), Made l q d o b l' q' := by
  have h' := h
  unfold createR at h
  by_cases ha : askT l q = 0
  · rw [if_pos ha] at h
    have eR : createR l q d o b = createIn l q d o b := by unfold createR; exact if_pos ha
    obtain ⟨hR, hq, _⟩ := askT_ok ha
    have hT := TreeM.of hR
    unfold createIn at h eR
    by_cases hdo : (0 ≤ d ∧ d ≤ 9999) ∧ (0 ≤ o ∧ o ≤ 9)
    · rw [if_pos hdo] at h eR
      by_cases ht : q.data.toList = [47]
      · rw [if_pos ht] at h; cases h
      · rw [if_neg ht] at h eR
        by_cases hh : hereK pk l (upR q).data.toList = true
        · rw [if_pos hh] at h eR
          have hp := hereK_lt hh
          have hpe := hereK_eq hh
          have hz := List.getElem_mem hp
          rw [rd_T32_at hp] at h eR
          by_cases h3 : (l[posK pk l (upR q).data.toList]).f3 = 0
          · rw [if_pos h3] at h eR
            have hup0 : l[posK pk l (upR q).data.toList].f0 = upR q := f0_at hh
            have huf : faultR (upR q) = 0 := by rw [← hup0]; exact (zOwn_ok (hT.good _ hz)).1
            unfold createUp at h eR
            rw [rd_T32_at hp] at h eR
            cases b with
            | false =>
              rw [if_neg (by decide)] at h eR
              obtain ⟨m1, m2, m3⟩ := makeR_ok h
              exact ⟨l, q, hT, hT, rfl, fun x hx => ⟨x, hx, rfl, rfl, rfl, rfl⟩, hq, ht, hq, ht, fun _ => rfl, rfl, m1, ⟨_, hz, hpe, h3⟩, m2, hdo.1, hdo.2, eR.trans m3, fun e => by cases e⟩
            | true =>
              rw [if_pos rfl] at h eR
              by_cases h4 : (l[posK pk l (upR q).data.toList]).f4 = 100
              · rw [if_pos h4] at h; cases h
              · rw [if_neg h4] at h eR
                by_cases h5 : nameB (seqT (nmR q) (l[posK pk l (upR q).data.toList]).f4) = true
                · rw [if_pos h5] at h eR
                  by_cases h6 : faultR (joinR (upR q) (seqT (nmR q) (l[posK pk l (upR q).data.toList]).f4)) = 0
                  · rw [if_pos h6] at h eR
                    rw [nextUpD hp] at h eR
                    obtain ⟨m1, m2, m3⟩ := makeR_ok h
                    obtain ⟨j1, j2, _⟩ := joined_up huf h5 h6
                    have ho := nextV_ok (hT.good _ hz) h4
                    have hT2 := set_tree hT hp (z := (⟨(l[posK pk l (upR q).data.toList]).f0, (l[posK pk l (upR q).data.toList]).f1, (l[posK pk l (upR q).data.toList]).f2, (l[posK pk l (upR q).data.toList]).f3, wrap64 ((l[posK pk l (upR q).data.toList]).f4 + 1)⟩ : ZZ)) rfl rfl rfl ho
                    refine ⟨_, _, hT, hT2, set_f0 hp rfl, fun x hx => ?_, hq, ht, h6, j2, fun e => (by cases e), j1, m1, ?_, m2, hdo.1, hdo.2, eR.trans m3, fun _ => ⟨hp, h4, rfl, h5, rfl⟩⟩
                    · by_cases c : x = l[posK pk l (upR q).data.toList]
                      · exact ⟨_, (mem_set hT.rise hp _ _).2 (.inl rfl), by rw [c], by rw [c], by rw [c], by rw [c]⟩
                      · exact ⟨x, (mem_set hT.rise hp _ _).2 (.inr ⟨hx, c⟩), rfl, rfl, rfl, rfl⟩
                    · exact ⟨_, (mem_set hT.rise hp _ _).2 (.inl rfl), by rw [j1]; exact hpe, h3⟩
                  · rw [if_neg h6] at h; exact absurd h h6
                · rw [if_neg h5] at h; cases h
          · rw [if_neg h3] at h; cases h
        · rw [if_neg hh] at h; cases h
    · rw [if_neg hdo] at h; cases h
  · rw [if_neg ha] at h
    exact absurd h ha
theorem keys_of {l m : List ZZ} (h : l.map (·.f0) = m.map (·.f0)) : l.map pk = m.map pk := by
  have e : ∀ l : List ZZ, l.map pk = (l.map (·.f0)).map (fun t => t.data.toList) := fun l => by rw [List.map_map]; rfl
  rw [e, e, h]
theorem getR_mem {l : List ZZ} (h : TreeM l) {x : ZZ} (hx : x ∈ l) : getR l x.f0 = (0, (⟨#[]⟩ : ByteArray), [x]) := by
  unfold getR
  rw [if_pos (ask_of h (zOwn_ok (h.good x hx)).1), if_pos (show hereK pk l x.f0.data.toList = true from hereK_mem h.rise hx)]
  have := at_of h.rise hx
  unfold pk at this ⊢
  rw [this]
section
variable {l l' : List ZZ} {q q' : ByteArray} {d o : Int} {b : Bool} (M : Made l q d o b l' q')
def madeZ (q' : ByteArray) (d o : Int) : ZZ := ⟨q', d, 0, o, 0⟩
def madeL (l' : List ZZ) (q' : ByteArray) (d o : Int) : List ZZ := insAt l' (posK pk l' (pk (madeZ q' d o))) (madeZ q' d o)
include M
theorem Made.ok : zOwn (madeZ q' d o) = 0 := zOwn_of M.fault (zIn_of M.data ⟨Int.le_refl _, by show (0 : Int) ≤ 999; omega⟩ M.own ⟨Int.le_refl _, by show (0 : Int) ≤ 100; omega⟩)
theorem Made.made : TreeM (madeL l' q' d o) := ins_tree M.tree' M.few M.new M.ok M.under
theorem Made.len' : l'.length = l.length := by have := congrArg List.length M.f0s; rwa [List.length_map, List.length_map] at this
theorem Made.len : (madeL l' q' d o).length = l.length + 1 := (ins_len (posK_le _ _ _) _).trans (by rw [M.len'])
theorem Made.get : getR (madeL l' q' d o) q' = (0, (⟨#[]⟩ : ByteArray), [madeZ q' d o]) := getR_mem M.made (x := madeZ q' d o) ((mem_ins _ _).2 (.inl rfl))
theorem Made.old {x : ZZ} (hx : x ∈ l) : ∃ y : ZZ, getR (madeL l' q' d o) x.f0 = (0, (⟨#[]⟩ : ByteArray), [y]) ∧ y.f1 = x.f1 ∧ y.f2 = x.f2 ∧ y.f3 = x.f3 := by
  obtain ⟨y, hy, e0, e1, e2, e3⟩ := M.olds x hx
  have := getR_mem M.made (x := y) ((mem_ins _ _).2 (.inr hy))
  rw [e0] at this
  exact ⟨y, this, e1, e2, e3⟩
theorem Made.not : getR l q' = badZ 4 := by
  unfold getR
  rw [if_pos (ask_of M.tree M.fault), if_neg (by rw [(same_keys (keys_of M.f0s) _).2.symm]; exact M.new)]
theorem Made.upFault : faultR (upR q') = 0 := by
  obtain ⟨y, hy, e, _⟩ := M.under
  have : y.f0 = upR q' := (eq_mk e).trans (eq_mk rfl).symm
  rw [← this]
  exact (zOwn_ok (M.tree'.good y hy)).1
theorem Made.kids : (kidsR (madeL l' q' d o) (upR q')).2.length = (kidsR l (upR q')).2.length + 1 := by
  obtain ⟨y, hy, e, _⟩ := M.under
  have h1 : hereK pk (madeL l' q' d o) (upR q').data.toList = true := (here_iff M.made.rise _).2 ⟨y, (mem_ins _ _).2 (.inr hy), e⟩
  have h2 : hereK pk l (upR q').data.toList = true := by
    rw [(same_keys (keys_of M.f0s) _).2.symm]
    exact (here_iff M.tree'.rise _).2 ⟨y, hy, e⟩
  unfold kidsR
  rw [if_pos (ask_of M.made M.upFault), if_pos (ask_of M.tree M.upFault), if_pos h1, if_pos h2]
  show (kidsL (upR q') (madeL l' q' d o)).length = (kidsL (upR q') l).length + 1
  rw [← kids_same (q := upR q') M.f0s]
  exact kids_ins l' _ (z := madeZ q' d o) M.top rfl
theorem Made.kids_few : (kidsR l (upR q')).2.length ≤ 20 := by
  have h1 := kidsL_len (upR q') l
  have h2 := M.tree.few
  unfold kidsR
  split
  · split
    · exact Nat.le_trans h1 h2
    · simp
  · simp
end
end Go.Proofs.YtegggpipggniaaaDoor.Pure

/- A node put, asked for, by the reference. -/
namespace Go.Proofs.YtegggpipggniaaaDoor.Pure
open Go.RowKit Go.Proofs.YtegggpipggniaaaDoor.Qa Go.Proofs.YtegggpipggniaaaDoorW.PrintWords Go.Proofs.YtegggpipggniaaaDoorW.PrintLast Go.Proofs.YtegggpipggniaaaDoor.Aid
theorem CreateZ_spec (l : List ZZ) (q : ByteArray) (d o : Int) (b : Bool) : Ev (fun k => spec_CreateZ.f k l q d o b) (createR l q d o b) := by
  unfold spec_CreateZ.f createR
  refine ev_call (askT_spec l q) ?_
  by_cases h : askT l q = 0
  · rw [if_pos h]
    obtain ⟨hR, hq, _⟩ := askT_ok h
    exact ev_cong (fun k => if_pos h) (ev_call (create_in_spec hR.good hR.rise hR.few hq d o b) (Ev.now _))
  · rw [if_neg h]
    exact ev_is fun k => if_neg h
end Go.Proofs.YtegggpipggniaaaDoor.Pure

namespace Go.Proofs.YtegggpipggniaaaDoor.Qa
open Go.RowKit Go.Proofs.YtegggpipggniaaaDoorW.PrintWords Go.Proofs.YtegggpipggniaaaDoorW.PrintLast Go.Proofs.YtegggpipggniaaaDoorW.PrintMore
attribute [local go_sem] max2_int min2_int max_two min_two max_three min_three max_four min_four
set_option linter.unusedVariables false
set_option linter.unusedSimpArgs false
set_option maxHeartbeats 8000000
set_option maxRecDepth 100000
def spec_l2With.j0 : Nat → List (S32) → Bool → List Int → Int → Option ((List (S32)) × ByteArray)
 | 0, _, _, _, _ => none
 | k + 1, x5, x16, x104000, x104001 => if x16 = true then ((spec_l1Next.f x104000 x104001 (x5.length : Int)).bind fun bt110 => (if 0 ≤ bt110.1 then (if bt110.1 < (x5.length : Int) then (some (x5, (rd_T32 x5 bt110.1).f0)) else (none)) else (none))) else ((spec_l1Bent.f k x104000 x104001).bind fun bt113 => (some (x5, bt113.1)))
def spec_l2With.f (k : Nat) (l0 : List Int) : Option ((List (S32)) × ByteArray) := (spec_l1Source.f l0).bind fun bt101 => ((spec_l2Bent.f k bt101.1 bt101.2).bind fun bt104 => (if (bt104.1.length : Int) > 0 then ((spec_l1Chance.f bt101.1 bt104.2 2).bind fun bt108 => (spec_l2With.j0 k bt104.1 bt108.1 bt101.1 bt108.2)) else (spec_l2With.j0 k bt104.1 false bt101.1 bt104.2)))
theorem spec_l2With.mono_l : ∀ k, (∀ y0 y1 y2 y3, LeO (spec_l2With.j0 k y0 y1 y2 y3) (spec_l2With.j0 (k + 1) y0 y1 y2 y3))
 | 0 => fun _ _ _ _ r h => by simp [spec_l2With.j0] at h
 | k + 1 => by
  have ih0 := spec_l2With.mono_l k
  ·
   intro y0 y1 y2 y3
   unfold spec_l2With.j0
   with_reducible repeat' first | exact ih0 _ _ _ _ | exact spec_l1Bent.mono _ _ _ | exact spec_l2Bent.mono _ _ _ | exact LeO.refl _ | exact LeO.none _ | refine LeO.ite ?_ ?_ | refine LeO.bind ?_ (fun _ => ?_)
theorem spec_l2With.mono : ∀ a0 k, LeO (spec_l2With.f k a0) (spec_l2With.f (k + 1) a0) := by
 intro a0 k
 have ih0 := spec_l2With.mono_l k
 unfold spec_l2With.f
 with_reducible repeat' first | exact ih0 _ _ _ _ | exact spec_l1Bent.mono _ _ _ | exact spec_l2Bent.mono _ _ _ | exact LeO.refl _ | exact LeO.none _ | refine LeO.ite ?_ ?_ | refine LeO.bind ?_ (fun _ => ?_)
def spec_l2With.T4 : Bool × List (List Nat × List Nat) := (true, [([], []), ([], []), ([], []), ([], []), ([3], [3]), ([2, 4], [2, 4]), ([1, 5], [1, 5]), ([6], [6]), ([7], [7]), ([0, 5, 0], [0]), ([8, 9, 0, 1, 2, 3, 4, 5, 6, 7, 8, 9], [8])])
def spec_l2With.B4 : List Nat := [0, 0, 0, 0, 8, 28, 62, 126, 254, 61, 1023]
theorem spec_l2With.tab4 : rtab .any (opsOf Tryd.f38 4) = spec_l2With.T4 := by kernel_rfl
theorem spec_l2With.bits4 : waitsOk spec_l2With.T4.2 spec_l2With.B4 = true := by kernel_rfl
theorem spec_l2With.calls (k : Nat) (A0 : Option Addr) (c0 : Nat) (l0 : List Int) (r1 : List (S32)) (r2 : ByteArray) (w : World) (hr0 : Kd.C (Kd.int .u8) w A0 l0.length l0) (hc0 : l0.length ≤ c0) (h : spec_l2With.f k l0 = some (r1, r2)) :
  Calls Tryd.prog 38 #[.slice A0 l0.length c0] w fun e w' => ∃ v0_ : Value, e = .returned (.tuple #[v0_, .string r2]) ∧ Kd.R k32 32 w' w.heap.size (fun _ => True) v0_ r1 ∧ Below w.heap.size w w' := by
 have HR0 := aa hr0
 have HC0 := aa hc0
 clear hr0 hc0
 have HB := aa (Below.refl w.heap.size w)
 have H : ((spec_l1Source.f l0).bind fun bt101 => ((spec_l2Bent.f k bt101.1 bt101.2).bind fun bt104 => (if (bt104.1.length : Int) > 0 then ((spec_l1Chance.f bt101.1 bt104.2 2).bind fun bt108 => (spec_l2With.j0 k bt104.1 bt108.1 bt101.1 bt108.2)) else (spec_l2With.j0 k bt104.1 false bt101.1 bt104.2)))) = some (r1, r2) := h
 clear h
 revert H
 refine ob2_ fun t101 t102 A2 H => ?_
 (try dsimp only at H)
 revert H
 refine ob2_ fun t104 t107 A3 H => ?_
 (try dsimp only at H)
 have HC4 := aa H
 clear H
 go_enter Tryd.func38, Tryd.ntmps38
 go_upto_region 3 with (first | (refine gc_ Tryd.func47 (some 7) #[.slice A0 l0.length c0] ?_; (with_reducible refine (spec_l1Source.calls _ _ l0 t101 t102 w _ zjjbob HR0.out HC0.out A2.out).mono ?_); rintro e w5 ⟨g103, rfl, hi, hb, hb2⟩; refine ⟨_, rfl, ?_⟩; replace HB := aa (hb); have HI103 := aa (hi); (try clear hb hb2 hk hi)) | (refine gc_ Tryd.func48 (some 9) #[.pointer (some ⟨g103, 0, none⟩)] ?_; (with_reducible refine (spec_l2Bent.calls k g103 t101 t102 t104 t107 w _ zciomi zfkoem A3.out).mono ?_); rintro e w6 ⟨v105, rfl, ho0, hi, hb, hk⟩; refine ⟨_, rfl, ?_⟩; have HO106 := aa (Kd.R_lower ho0 (below_size zfkoem)); replace HB := aa (hb); replace HI103 := aa (hi); (try clear hb hb2 hk hi ho0)))
 (try simp only [Act.put, List.setIfInBounds_toArray, List.set_cons_zero, List.set_cons_succ])
 go_cut [16] (fun v16 wc => ∃ (kq : Nat) (x16_3 : Bool) (x104001_3 : Int), v16 = .bool x16_3 ∧ Aside0 (spec_l2With.j0 kq t104 x16_3 t101 x104001_3 = some (r1, r2)) ∧ Aside0 (kq ≤ k) ∧ Aside0 (Kd.R k32 32 wc w.heap.size (fun _ => True) v105 t104) ∧ Aside0 (IsS80 w wc g103 t101 x104001_3) ∧ Aside0 (Below w.heap.size w wc))
 case first =>
  have H := HC4.out
  clear HC4
  revert H
  refine itC_ (fun c7 H => ?_) fun c7 H => ?_
  ·
   have c7b0 : decide (0 < (t104.length : Int)) = true := decide_eq_true c7
   have c7b1 : decide (0 < t104.length) = true := decide_eq_true (by omega)
   clear c7
   (first | rw [c7b0] | (simp only [i64_w, i32_w]; rw [c7b0]) | (simp only [c7b2, Bool.not_false, Bool.not_true]) | skip)
   revert H
   refine ob2_ fun t108 t109 A8 H => ?_
   (try dsimp only at H)
   have H' := aa H
   clear H
   obtain ⟨Ao9, co9, eo9⟩ := Kd.R_slice HO106.out
   subst eo9
   go_wp2_with (first | (go_at_call 50; (with_reducible refine (spec_l1Chance.calls g103 t101 t107 2 t108 t109 w _ zciomi zfkoem A8.out).mono ?_); rintro e w10 ⟨rfl, hi, hb, hk⟩; replace HO106 := aa (Kd.R_mono (Kd.R_keep (IsS80.apart (zciomi : IsS80 w _ g103 t101 t107) (zcaken HO106.out) (by decide)) hk (fun _ h => h.2)) (fun _ h => h.1)); replace HB := aa (hb); replace HI103 := aa (hi); (try clear hb hb2 hk hi)))
   go_meet
   case rel => exact ⟨_, (t108), (t109), zagbkp, H', ⟨zpacfg⟩, ⟨zcaken HO106.out⟩, ⟨zciomi⟩, ⟨zfkoem⟩⟩
  have c7b0 : decide (0 < (t104.length : Int)) = false := decide_eq_false c7
  have c7b1 : decide (0 < t104.length) = false := decide_eq_false (by omega)
  clear c7
  (first | rw [c7b0] | (simp only [i64_w, i32_w]; rw [c7b0]) | (simp only [c7b2, Bool.not_false, Bool.not_true]) | skip)
  have H' := aa H
  clear H
  obtain ⟨Ao11, co11, eo11⟩ := Kd.R_slice HO106.out
  subst eo11
  go_wp2
  go_meet
  case rel => exact ⟨_, (false), (t107), zagbkp, H', ⟨zpacfg⟩, ⟨zcaken HO106.out⟩, ⟨zciomi⟩, ⟨zfkoem⟩⟩
 case rest =>
  clear HC4
  try clear p2
  try clear c7
  try clear c7b0
  try clear c7b1
  try clear c7b2
  obtain ⟨kq, x16_3, x104001_3, rfl, HA, HJ3, HO_5, HI103, HB⟩ := hcut
  cases kq with
  | zero => exact absurd HA.out (by simp [spec_l2With.j0])
  | succ kj3 =>
   have H := HA.out
   clear HA
   simp only [spec_l2With.j0] at H
   by_cases c12 : x16_3 = true
   ·
    subst c12
    rw [if_pos rfl] at H
    revert H
    refine ob2_ fun t110 t111 A13 H => ?_
    (try dsimp only at H)
    revert H
    refine itH_ fun c14b0 H => ?_
    revert H
    refine itH_ fun c15b0 H => ?_
    simp only [Option.some.injEq, Prod.mk.injEq] at H
    obtain ⟨rfl, rfl⟩ := H
    try go_wp2
    replace HO_5 := aa (Kd.R_drew HO_5.out)
    replace HI103 := aa (IsS80.drew HI103.out)
    replace HB := aa (below_drew1 HB.out)
    obtain ⟨Ao17, co17, eo17⟩ := Kd.R_slice HO_5.out
    (first | subst eo17 | (injection eo17 with f1_ f2_ f3_; have f4_ := f1_.symm; have f5_ := f3_.symm; clear f1_ f2_ f3_; subst f4_; subst f5_))
    have p112 : 0 ≤ (t110 : Int) := of_decide_eq_true zgglam
    have q112 : t110 < (t104.length : Int) := of_decide_eq_true zgglam
    obtain ⟨ad112, e112, hx112_0, hx112_1, hx112_2, hx112_3, hx112_4⟩ := at_T32 (Kd.R_reads' HO_5.out).2.2 t110 p112 q112
    cases e112
    replace p112 := eq_true p112
    replace q112 := eq_true q112
    refine start_ (n := 11) (S := fun w' => w'.cell? (ad112.add ((t110).toNat * 5)) = some (.string ((rd_T32 t104 t110).f0)) ∧ w'.cell? ⟨(ad112.add ((t110).toNat * 5)).block, (ad112.add ((t110).toNat * 5)).off + 1, none⟩ = some (.int .i64 ((rd_T32 t104 t110).f1)) ∧ w'.cell? ⟨(ad112.add ((t110).toNat * 5)).block, (ad112.add ((t110).toNat * 5)).off + 2, none⟩ = some (.int .i64 ((rd_T32 t104 t110).f2)) ∧ w'.cell? ⟨(ad112.add ((t110).toNat * 5)).block, (ad112.add ((t110).toNat * 5)).off + 3, none⟩ = some (.int .i64 ((rd_T32 t104 t110).f3)) ∧ w'.cell? ⟨(ad112.add ((t110).toNat * 5)).block, (ad112.add ((t110).toNat * 5)).off + 4, none⟩ = some (.int .i64 ((rd_T32 t104 t110).f4))) (ds := []) #[false, false, false, false, false, false, false, false, false, false, false] (by kernel_rfl) rfl rfl ⟨hx112_0, hx112_1, hx112_2, hx112_3, hx112_4⟩ (fun hHeld => ?_); refine with_tabW spec_l2With.tab4 spec_l2With.bits4 (fun HT_ HW_ => ?_)
    generalize wc.drew = w16 at HO_5 HI103 HB hx112_0 hx112_1 hx112_2 hx112_3 hx112_4 hHeld ⊢
    refine pu0 0 17 ?_
    refine pu0 1 18 ?_
    refine pu0 2 19 ?_
    refine pu0 3 20 ?_
    refine pu0 4 21 ?_
    refine one_ (i := 5) (N := some 22) #[true, true, true, true, true, true, false, false, false, false, false] rfl rfl (one_of HT_.out (by kernel_rfl)) (by decide) (fun K hK => ?_)
    refine goes_ Tryd.func27 (by kernel_rfl) rfl #[.pointer (some ⟨g103, 0, none⟩), .int .i64 (t104.length : Int)] (by rfl) rfl rfl zjnmae ?_
    with_reducible refine (spec_l1Next.calls g103 t101 x104001_3 (t104.length : Int) t110 t111 w _ ?side1 ?side2 A13.out).mono ?_
    (case side1 => exact zciomi)
    (case side2 => exact zfkoem)
    rintro e w18 ⟨rfl, hi, hb, hk⟩
    have HS0_ := keep_cell hk (hHeld.1) (by first | (rw [add_block]; exact Kd.own_blk (IsS80.own_ne HI103.out HO_5.out (by decide))) | (show (Addr.add _ _).block ≠ _; rw [add_block]; exact Kd.own_blk (IsS80.own_ne HI103.out HO_5.out (by decide))) | exact Kd.own_blk (IsS80.own_ne HI103.out HO_5.out (by decide)))
    have HS1_ := keep_cell hk (hHeld.2.1) (by first | (rw [add_block]; exact Kd.own_blk (IsS80.own_ne HI103.out HO_5.out (by decide))) | (show (Addr.add _ _).block ≠ _; rw [add_block]; exact Kd.own_blk (IsS80.own_ne HI103.out HO_5.out (by decide))) | exact Kd.own_blk (IsS80.own_ne HI103.out HO_5.out (by decide)))
    have HS2_ := keep_cell hk (hHeld.2.2.1) (by first | (rw [add_block]; exact Kd.own_blk (IsS80.own_ne HI103.out HO_5.out (by decide))) | (show (Addr.add _ _).block ≠ _; rw [add_block]; exact Kd.own_blk (IsS80.own_ne HI103.out HO_5.out (by decide))) | exact Kd.own_blk (IsS80.own_ne HI103.out HO_5.out (by decide)))
    have HS3_ := keep_cell hk (hHeld.2.2.2.1) (by first | (rw [add_block]; exact Kd.own_blk (IsS80.own_ne HI103.out HO_5.out (by decide))) | (show (Addr.add _ _).block ≠ _; rw [add_block]; exact Kd.own_blk (IsS80.own_ne HI103.out HO_5.out (by decide))) | exact Kd.own_blk (IsS80.own_ne HI103.out HO_5.out (by decide)))
    have HS4_ := keep_cell hk (hHeld.2.2.2.2) (by first | (rw [add_block]; exact Kd.own_blk (IsS80.own_ne HI103.out HO_5.out (by decide))) | (show (Addr.add _ _).block ≠ _; rw [add_block]; exact Kd.own_blk (IsS80.own_ne HI103.out HO_5.out (by decide))) | exact Kd.own_blk (IsS80.own_ne HI103.out HO_5.out (by decide)))
    refine ⟨_, rfl, ?_⟩
    replace HO_5 := aa (Kd.R_mono (Kd.R_keep (IsS80.apart (zciomi : IsS80 w _ g103 t101 x104001_3) (zcaken HO_5.out) (by decide)) hk (fun _ h => h.2)) (fun _ h => h.1))
    replace HB := aa (hb)
    replace HI103 := aa (hi)
    (try clear hb)
    (try clear hb2)
    (try clear hk)
    (try clear hi)
    refine hK.out _ _ ⟨HS0_, HS1_, HS2_, HS3_, HS4_⟩ (fun hHeld => ?_)
    clear hK K
    refine norm_ (a' := ?_) ?_ ?_
    rotate_left
    ·
     show Act.put _ (some 22) _ = _
     simp only [Act.put, List.setIfInBounds_toArray, List.set_cons_zero, List.set_cons_succ, i64_w, i32_w]
     rfl
    refine pu0 6 23 ?_
    refine pu0 7 24 ?_
    refine pu0 9 2 ?_
    refine tk5_0 8 25 ?_
    refine pu0 10 3 ?_
    refine done_ (done_of HT_.out (by kernel_rfl)) ?_
    try go_wp2
    go_ret2
    exact ⟨_, zlhpib, zcaken HO_5.out, zfkoem⟩
   ·
    replace c12 := Bool.eq_false_iff.mpr c12
    subst c12
    rw [if_neg fT_] at H
    revert H
    refine ob2_ fun t113 t114 A19 H => ?_
    (try dsimp only at H)
    simp only [Option.some.injEq, Prod.mk.injEq] at H
    obtain ⟨rfl, rfl⟩ := H
    go_wp2_with (first | (refine gc_ Tryd.func49 (some 28) #[.pointer (some ⟨g103, 0, none⟩)] ?_; (with_reducible refine (spec_l1Bent.calls kj3 g103 t101 x104001_3 t113 t114 w _ zciomi zfkoem A19.out).mono ?_); rintro e w20 ⟨rfl, hi, hb, hk⟩; refine ⟨_, rfl, ?_⟩; replace HO_5 := aa (Kd.R_mono (Kd.R_keep (IsS80.apart (zciomi : IsS80 w _ g103 t101 x104001_3) (zcaken HO_5.out) (by decide)) hk (fun _ h => h.2)) (fun _ h => h.1)); replace HB := aa (hb); replace HI103 := aa (hi); (try clear hb hb2 hk hi)))
    go_ret2
    exact ⟨_, zlhpib, zcaken HO_5.out, zfkoem⟩
def spec_DrawDeleteZ.f (k : Nat) (l0 : List Int) : Option ((List (S32)) × ByteArray × Int) := (spec_l2With.f k l0).bind fun bt101 => ((spec_l1Later.f l0 4).bind fun bt105 => ((spec_l1Pick.f bt105.1 bt105.2 (([(-1), 0, 1, (-2)] : List Int))).bind fun bt111 => (some (bt101.1, bt101.2, bt111.1))))
theorem spec_DrawDeleteZ.mono : ∀ a0 k, LeO (spec_DrawDeleteZ.f k a0) (spec_DrawDeleteZ.f (k + 1) a0) := by
 intro a0 k
 unfold spec_DrawDeleteZ.f
 with_reducible repeat' first | exact spec_l2With.mono _ _ | exact LeO.refl _ | exact LeO.none _ | refine LeO.ite ?_ ?_ | refine LeO.bind ?_ (fun _ => ?_)
theorem spec_DrawDeleteZ.calls (k : Nat) (A0 : Option Addr) (c0 : Nat) (l0 : List Int) (r1 : List (S32)) (r2 : ByteArray) (r3 : Int) (w : World) (hr0 : Kd.C (Kd.int .u8) w A0 l0.length l0) (hc0 : l0.length ≤ c0) (h : spec_DrawDeleteZ.f k l0 = some (r1, r2, r3)) :
  Calls Tryd.prog 13 #[.slice A0 l0.length c0] w fun e w' => ∃ v0_ : Value, e = .returned (.tuple #[v0_, .string r2, .int .i64 r3]) ∧ Kd.R k32 32 w' w.heap.size (fun _ => True) v0_ r1 ∧ Below w.heap.size w w' := by
 have HR0 := aa hr0
 have HC0 := aa hc0
 clear hr0 hc0
 have HB := aa (Below.refl w.heap.size w)
 have H : ((spec_l2With.f k l0).bind fun bt101 => ((spec_l1Later.f l0 4).bind fun bt105 => ((spec_l1Pick.f bt105.1 bt105.2 (([(-1), 0, 1, (-2)] : List Int))).bind fun bt111 => (some (bt101.1, bt101.2, bt111.1))))) = some (r1, r2, r3) := h
 clear h
 revert H
 refine ob2_ fun t101 t102 A2 H => ?_
 (try dsimp only at H)
 revert H
 refine ob2_ fun t105 t106 A3 H => ?_
 (try dsimp only at H)
 obtain ⟨y108, hy108⟩ : ∃ y_ : List Int, y_ = (([(-1), 0, 1, (-2)] : List Int)) := ⟨_, rfl⟩
 replace H : ((spec_l1Pick.f t105 t106 y108).bind fun bt111 => (some (t101, t102, bt111.1))) = some (r1, r2, r3) := by cases hy108; exact H
 have Ny108 := aa hy108
 clear hy108
 revert H
 refine ob2_ fun t111 t112 A4 H => ?_
 (try dsimp only at H)
 simp only [Option.some.injEq, Prod.mk.injEq] at H
 obtain ⟨rfl, rfl, rfl⟩ := H
 go_enter Tryd.func13, Tryd.ntmps13
 go_wp2_with (first | (refine gc_ Tryd.func38 (some 10) #[.slice A0 l0.length c0] ?_; (with_reducible refine (spec_l2With.calls k _ _ l0 t101 t102 _ zebgon HC0.out A2.out).mono ?_); rintro e w5 ⟨v103, rfl, ho0, hb⟩; refine ⟨_, rfl, ?_⟩; have HO104 := aa (Kd.R_lower ho0 (below_size zjjbob)); replace HB := aa (below_step zjjbob hb); (try clear hb hb2 hk hi ho0)) | (refine gc_ Tryd.func25 (some 14) #[.slice A0 l0.length c0, .int .i64 4] ?_; (with_reducible refine (spec_l1Later.calls _ _ l0 4 t105 t106 w _ zjjbob HR0.out HC0.out A3.out).mono ?_); rintro e w6 ⟨g107, rfl, hi, hb, hb2⟩; refine ⟨_, rfl, ?_⟩; replace HO104 := aa (Kd.R_below (zcaken HO104.out) hb2); replace HB := aa (hb); have HI107 := aa (hi); (try clear hb hb2 hk hi)) | ((with_reducible refine gate_dst (N := 18) rfl ?_); refine Kd.R_lit (Kd.int .i64) _ 2 ?hg (N := 18) ?hd (xs := ([(-1), 0, 1, (-2)] : List Int)) (inner := [.int .i64 (-1), .int .i64 0, .int .i64 1, .int .i64 (-2)]) (ok := fun _ => True) (okp := fun _ => True) ?hr ?hp (fun _ hk => hk) trivial (Below.refl _ _) (Nat.le_refl _) (by simp) ?_; (case hd => rfl); (case hg => rfl); (case hr => exact zhlgcp); (case hp => exact (Reps.one (show Kd.M (Kd.int .i64) _ _ _ (-1) [.int .i64 (-1)] from rfl) (Reps.one (show Kd.M (Kd.int .i64) _ _ _ 0 [.int .i64 0] from rfl) (Reps.one (show Kd.M (Kd.int .i64) _ _ _ 1 [.int .i64 1] from rfl) (Reps.one (show Kd.M (Kd.int .i64) _ _ _ (-2) [.int .i64 (-2)] from rfl) (Reps.none _ _)))))); intro v109 w7 ho8 hb hg_ hnew_; clear hg_ hnew_; (first | rw [← Ny108.out] at ho8 | (simp only [Int.reduceToNat] at ho8; rw [← Ny108.out] at ho8)); have n0_ := aa (Kd.R_below (zcaken HO104.out) hb); have n1_ := aa (Kd.R_lower ho8 (below_size zbpdkp)); have n2_ := aa (IsS80.below zjfifh hb); have n3_ := aa (below_step zbpdkp hb); clear HO104; clear HI107; clear HB; have HO104 := n0_; have HO110 := n1_; have HI107 := n2_; have HB := n3_; clear n0_ n1_ n2_ n3_; clear hb ho8; obtain ⟨Ao9, co9, eo9⟩ := Kd.R_slice HO110.out; subst eo9) | (refine gc_ Tryd.func26 (some 19) #[.pointer (some ⟨g107, 0, none⟩), .slice Ao9 y108.length co9] ?_; (with_reducible refine (spec_l1Pick.calls g107 t105 t106 _ _ y108 t111 t112 w _ ?side1 ?side2 ?side3 ?side4 ?side5 A4.out).mono ?_); (case side1 => exact zjfifh); (case side2 => exact zbpdkp); (case side3 => repeat (first | exact (Kd.R_reads' HO110.out).2.2 | (with_reducible refine Kd.C_alloc ?_ _) | (with_reducible refine Kd.C_drewN ?_ _) | (with_reducible refine Kd.C_drew ?_))); (case side4 => exact (Kd.R_reads' HO110.out).2.1); (case side5 => exact far_slice (IsS80.own_ne HI107.out HO110.out (by decide))); rintro e w10 ⟨rfl, hi, hb, hk⟩; refine ⟨_, rfl, ?_⟩; replace HO104 := aa (Kd.R_mono (Kd.R_keep (IsS80.apart (zjfifh : IsS80 w _ g107 t105 t106) (zcaken HO104.out) (by decide)) hk (fun _ h => h.2)) (fun _ h => h.1)); replace HO110 := aa (Kd.R_mono (Kd.R_keep (IsS80.apart (zjfifh : IsS80 w _ g107 t105 t106) (zcaken HO110.out) (by decide)) hk (fun _ h => h.2)) (fun _ h => h.1)); replace HB := aa (hb); replace HI107 := aa (hi); (try clear hb hb2 hk hi)))
 go_ret3
 exact ⟨_, zlhpib, zcaken HO104.out, zbpdkp⟩
end Go.Proofs.YtegggpipggniaaaDoor.Qa
/- The draws' numbers: they answer, whatever the code, within what is asked. -/
namespace Go.Proofs.YtegggpipggniaaaDoor.Pure
open Go.RowKit Go.Proofs.YtegggpipggniaaaDoor.Qa Go.Proofs.YtegggpipggniaaaDoorW.PrintWords Go.Proofs.YtegggpipggniaaaDoorW.PrintLast Go.Proofs.YtegggpipggniaaaDoor.Aid
structure CodeT (c : List Int) : Prop where
  byte : ∀ y ∈ c, 0 ≤ y ∧ y ≤ 255
  len : c.length ≤ 1048576
theorem next_is {c : List Int} (hc : CodeT c) (a n : Int) (h0 : 0 ≤ a) (h1 : a ≤ 1000000) (n0 : 1 ≤ n) (n1 : n ≤ 1000000) : ∃ r : Int, spec_l1Next.f c a n = some (r, a + 1) ∧ 0 ≤ r ∧ r < n := by
  have w1 : wrap64 (a + 1) = a + 1 := wrap_id (by omega) (by omega)
  have w2 : wrap64 (a + 1 - 1) = a := by rw [wrap_id (by omega) (by omega)]; omega
  have a1 : ¬ n < 1 := by omega
  have a2 : ¬ n = 0 := by omega
  have hl := hc.len
  unfold spec_l1Next.f
  rw [if_neg a1, w1, w2]
  by_cases hk : (c.length : Int) = 0
  · have w3 : wrap64 (a * 7) = a * 7 := wrap_id (by omega) (by omega)
    rw [if_pos hk, if_neg a2, w3]
    exact ⟨_, rfl, Int.tmod_nonneg _ (by omega), Int.tmod_lt_of_pos _ (by omega)⟩
  · have hp : (0 : Int) < (c.length : Int) := by omega
    have t0 : 0 ≤ Int.tmod a (c.length : Int) := Int.tmod_nonneg _ h0
    have t1 : Int.tmod a (c.length : Int) < (c.length : Int) := Int.tmod_lt_of_pos _ hp
    have u0 : 0 ≤ Int.tmod (a + 1) (c.length : Int) := Int.tmod_nonneg _ (by omega)
    have u1 : Int.tmod (a + 1) (c.length : Int) < (c.length : Int) := Int.tmod_lt_of_pos _ hp
    have t2 : Int.tdiv a (c.length : Int) = a / (c.length : Int) := Int.tdiv_eq_ediv_of_nonneg h0
    have t3 : 0 ≤ a / (c.length : Int) := Int.ediv_nonneg h0 (by omega)
    have t4 : a / (c.length : Int) ≤ a := Int.ediv_le_self _ h0
    rw [if_neg hk, if_pos t0, if_pos t1, t2]
    obtain ⟨j, hj⟩ : ∃ j : Nat, Int.tmod a (c.length : Int) = (j : Int) := ⟨(Int.tmod a (c.length : Int)).toNat, by omega⟩
    obtain ⟨j2, hj2⟩ : ∃ j2 : Nat, Int.tmod (a + 1) (c.length : Int) = (j2 : Int) := ⟨(Int.tmod (a + 1) (c.length : Int)).toNat, by omega⟩
    rw [hj2] at u0 u1
    rw [hj] at t1
    rw [w1, hj2, hj]
    have hjl : j < c.length := by omega
    have hjl2 : j2 < c.length := by omega
    rw [rd_at hjl, rd_at hjl2, if_pos u0, if_pos u1, if_neg a2, if_neg a2]
    obtain ⟨b0, b1⟩ := hc.byte c[j] (List.getElem_mem hjl)
    obtain ⟨d0, d1⟩ := hc.byte c[j2] (List.getElem_mem hjl2)
    generalize c[j] = v at b0 b1 ⊢
    generalize c[j2] = x at d0 d1 ⊢
    generalize a / (c.length : Int) = q at t3 t4 ⊢
    have w3 : wrap64 q = q := wrap_id (by omega) (by omega)
    have w4 : wrap64 (q * 37) = q * 37 := wrap_id (by omega) (by omega)
    have w5 : wrap64 v = v := wrap_id (by omega) (by omega)
    have w6 : wrap64 (v + q * 37) = v + q * 37 := wrap_id (by omega) (by omega)
    have w7 : wrap64 ((v + q * 37) * 251) = (v + q * 37) * 251 := wrap_id (by omega) (by omega)
    have w8 : wrap64 x = x := wrap_id (by omega) (by omega)
    have w9 : wrap64 (x * 13) = x * 13 := wrap_id (by omega) (by omega)
    have w10 : wrap64 ((v + q * 37) * 251 + x * 13) = (v + q * 37) * 251 + x * 13 := wrap_id (by omega) (by omega)
    have w11 : wrap64 ((v + q * 37) * 251 + x * 13 + a) = (v + q * 37) * 251 + x * 13 + a := wrap_id (by omega) (by omega)
    rw [w3, w4, w5, w6, w7, w8, w9, w10, w11]
    by_cases a3 : n > 200
    · rw [if_pos a3]
      exact ⟨_, rfl, Int.tmod_nonneg _ (by omega), Int.tmod_lt_of_pos _ (by omega)⟩
    · rw [if_neg a3]
      exact ⟨_, rfl, Int.tmod_nonneg _ (by omega), Int.tmod_lt_of_pos _ (by omega)⟩
theorem pick_is {c : List Int} (hc : CodeT c) (a : Int) (l : List Int) (h0 : 0 ≤ a) (h1 : a ≤ 1000000) (n0 : 1 ≤ l.length) (n1 : l.length ≤ 1000) : ∃ r : Int, spec_l1Pick.f c a l = some (r, a + 1) ∧ r ∈ l := by
  obtain ⟨r, hr, r0, r1⟩ := next_is hc a (l.length : Int) h0 h1 (by omega) (by omega)
  obtain ⟨j, rfl⟩ : ∃ j : Nat, r = (j : Int) := ⟨r.toNat, by omega⟩
  have hj : j < l.length := by omega
  refine ⟨l[j], ?_, List.getElem_mem hj⟩
  unfold spec_l1Pick.f
  rw [hr, Option.bind_some, if_pos r0, if_pos r1, rd_at hj]
theorem code_of {c : List Int} (h : c.length ≤ 9223372036854775807 ∧ ∀ y_ ∈ c, (Lit.int .u8 y_).wf = true) (hb : ¬ (c.length : Int) > 1048576) : CodeT c := by
  refine ⟨fun y hy => ?_, by omega⟩
  have h' : (decide (IntKind.u8.min ≤ y) && decide (y ≤ IntKind.u8.max)) = true := h.2 y hy
  simp only [Bool.and_eq_true, decide_eq_true_eq] at h'
  exact h'
end Go.Proofs.YtegggpipggniaaaDoor.Pure

/- The draws' chances. -/
namespace Go.Proofs.YtegggpipggniaaaDoor.Pure
open Go.RowKit Go.Proofs.YtegggpipggniaaaDoor.Qa Go.Proofs.YtegggpipggniaaaDoorW.PrintWords Go.Proofs.YtegggpipggniaaaDoorW.PrintLast Go.Proofs.YtegggpipggniaaaDoor.Aid
theorem chance_is {c : List Int} (hc : CodeT c) (a n : Int) (h0 : 0 ≤ a) (h1 : a ≤ 1000000) (n0 : 1 ≤ n) (n1 : n ≤ 1000000) : ∃ b : Bool, spec_l1Chance.f c a n = some (b, a + 1) := by
  obtain ⟨r, hr, _⟩ := next_is hc a n h0 h1 n0 n1
  exact ⟨_, by unfold spec_l1Chance.f; rw [hr, Option.bind_some]⟩
end Go.Proofs.YtegggpipggniaaaDoor.Pure

/- The draws of paths and trees: they answer, whatever the code. -/
namespace Go.Proofs.YtegggpipggniaaaDoor.Pure
open Go.RowKit Go.Proofs.YtegggpipggniaaaDoor.Qa Go.Proofs.YtegggpipggniaaaDoorW.PrintWords Go.Proofs.YtegggpipggniaaaDoorW.PrintLast Go.Proofs.YtegggpipggniaaaDoor.Aid
def abcL : List ByteArray := [(⟨#[97]⟩ : ByteArray), (⟨#[98]⟩ : ByteArray), (⟨#[99]⟩ : ByteArray)]
def drawP : Nat → List ByteArray
  | 0 => [(⟨#[47]⟩ : ByteArray)]
  | d + 1 => (drawP d).flatMap fun p => abcL.map fun n => joinR p n
theorem drawP_ok : (drawP 0 ++ drawP 1 ++ drawP 2 ++ drawP 3).all (fun p => decide (faultR p = 0) && decide (p.size ≤ 7)) = true := by decide +kernel
theorem drawP_good {d : Nat} (hd : d ≤ 3) {p : ByteArray} (hp : p ∈ drawP d) : faultR p = 0 ∧ p.size ≤ 7 := by
  have h := List.all_eq_true.1 drawP_ok p (by
    match d, hd with
    | 0, _ => simp [hp]
    | 1, _ => simp [hp]
    | 2, _ => simp [hp]
    | 3, _ => simp [hp])
  rw [Bool.and_eq_true, decide_eq_true_eq, decide_eq_true_eq] at h
  exact h
theorem drawT_l0 {c : List Int} (hc : CodeT c) (d : Nat) : ∀ (j : Nat) (p : ByteArray) (a : Int), j + d ≤ 3 → p ∈ drawP j → 0 ≤ a → a + d ≤ 900000 → ∃ (p' : ByteArray) (b : Int), Ev (fun k => spec_l1Draw.l0 k p (d : Int) c a) (p', b) ∧ p' ∈ drawP (j + d) ∧ a ≤ b ∧ b ≤ a + d := by
  induction d with
  | zero => exact fun j p a _ hp h0 h1 => ⟨p, a, ev_done fun k => by simp only [spec_l1Draw.l0]; rw [if_neg (by omega)], hp, by omega, by omega⟩
  | succ d ih =>
    intro j p a hj hp h0 h1
    obtain ⟨hf, hs⟩ := drawP_good (show j ≤ 3 by omega) hp
    obtain ⟨r, hr, r0, r1⟩ := next_is hc a 3 h0 (by omega) (by omega) (by omega)
    obtain ⟨i, rfl⟩ : ∃ i : Nat, r = (i : Int) := ⟨r.toNat, by omega⟩
    have hi : i < abcL.length := by show i < 3; omega
    have hn : abcL[i] ∈ abcL := List.getElem_mem hi
    have hns : (abcL[i]).size ≤ 1048576 := by
      have : abcL.all (fun n => decide (n.size ≤ 1048576)) = true := by decide
      exact of_decide_eq_true (List.all_eq_true.1 this _ hn)
    have hm : joinR p abcL[i] ∈ drawP (j + 1) := List.mem_flatMap.2 ⟨p, hp, List.mem_map.2 ⟨_, hn, rfl⟩⟩
    obtain ⟨p', b, h2, h3, h4, h5⟩ := ih (j + 1) _ (a + 1) (by omega) hm (by omega) (by omega)
    refine ⟨p', b, ev_step _ (fun k => ?_) h2, by rw [show j + (d + 1) = j + 1 + d by omega]; exact h3, by omega, by omega⟩
    have wd : wrap64 (((d + 1 : Nat) : Int) - 1) = (d : Int) := by rw [wrap_id (by omega) (by omega)]; omega
    have hj2 := join_spec p abcL[i] (by omega) hns
    have hrd : rdOf ByteArray.empty abcL (i : Int) = abcL[i] := rdOf_at hi
    simp only [spec_l1Draw.l0]
    rw [if_pos (by omega), Option.bind_some, hr, Option.bind_some]
    dsimp only
    rw [if_pos r0]
    show (if (i : Int) < (abcL.length : Int) then ((spec_l1Join.f p (rdOf ByteArray.empty abcL (i : Int))).bind fun t109 => spec_l1Draw.l0 k t109 (wrap64 (((d + 1 : Nat) : Int) - 1)) c (a + 1)) else none) = _
    rw [if_pos (show (i : Int) < (abcL.length : Int) by omega), hrd, hj2, Option.bind_some, wd]
theorem drawPath_ev {c : List Int} (hc : CodeT c) (a : Int) (h0 : 0 ≤ a) (h1 : a ≤ 800000) : ∃ (p : ByteArray) (b : Int), Ev (fun k => spec_l1Draw.f k c a) (p, b) ∧ faultR p = 0 ∧ p.size ≤ 7 ∧ a ≤ b ∧ b ≤ a + 4 := by
  obtain ⟨r, hr, r0, r1⟩ := next_is hc a 4 h0 (by omega) (by omega) (by omega)
  obtain ⟨d, rfl⟩ : ∃ d : Nat, r = (d : Int) := ⟨r.toNat, by omega⟩
  obtain ⟨p, b, h2, h3, h4, h5⟩ := drawT_l0 hc d 0 _ (a + 1) (by omega) (List.mem_singleton.2 rfl) (by omega) (by omega)
  obtain ⟨hf, hs⟩ := drawP_good (show 0 + d ≤ 3 by omega) h3
  refine ⟨p, b, ?_, hf, hs, by omega, by omega⟩
  unfold spec_l1Draw.f
  exact ev_cong (fun k => by rw [hr, Option.bind_some]) h2
theorem pick_text (l : List ByteArray) (b : Nat) (hl : ∀ x ∈ l, x.size ≤ b) (r : Int) (h0 : 0 ≤ r) (h1 : r < (l.length : Int)) : (rdOf ByteArray.empty l r).size ≤ b := by
  obtain ⟨j, rfl⟩ : ∃ j : Nat, r = (j : Int) := ⟨r.toNat, by omega⟩
  rw [rdOf_at (by omega)]
  exact hl _ (List.getElem_mem _)
theorem bentPath_ev {c : List Int} (hc : CodeT c) (a : Int) (h0 : 0 ≤ a) (h1 : a ≤ 700000) : ∃ (p : ByteArray) (b : Int), Ev (fun k => spec_l1Bent.f k c a) (p, b) ∧ p.size ≤ 25 ∧ a ≤ b ∧ b ≤ a + 6 := by
  obtain ⟨p, b, h2, h3, h4, h5, h6⟩ := drawPath_ev hc a h0 (by omega)
  obtain ⟨r2, hr2, s0, s1⟩ := next_is hc b 10 (by omega) (by omega) (by omega) (by omega)
  obtain ⟨r3, hr3, u0, u1⟩ := next_is hc (b + 1) 7 (by omega) (by omega) (by omega) (by omega)
  have e1 : (⟨#[47]⟩ : ByteArray).size = 1 := rfl
  unfold spec_l1Bent.f
  by_cases c0 : r2 = 0
  · refine ⟨p ++ (⟨#[47]⟩ : ByteArray), b + 1, ev_call h2 (ev_is fun k => ?_), by rw [cat_size]; omega, by omega, by omega⟩
    dsimp only
    rw [hr2, Option.bind_some, if_pos c0, if_pos (by omega)]
  · by_cases c1 : r2 = 1
    · refine ⟨rdOf ByteArray.empty [(⟨#[]⟩ : ByteArray), (⟨#[97]⟩ : ByteArray), (⟨#[47, 47]⟩ : ByteArray), (⟨#[47, 65]⟩ : ByteArray), (⟨#[47, 97, 47, 98, 47, 99, 47, 100, 47, 101]⟩ : ByteArray), (⟨#[47, 97, 98, 99, 100, 101, 102, 103, 104, 105]⟩ : ByteArray), (⟨#[47, 97, 97, 97, 97, 97, 97, 97, 97, 47, 97, 97, 97, 97, 97, 97, 97, 97, 47, 97, 97, 97, 97, 97, 97]⟩ : ByteArray)] r3, b + 1 + 1, ev_call h2 (ev_is fun k => ?_), pick_text _ 25 (by decide) r3 u0 ?_, by omega, by omega⟩
      · dsimp only
        rw [hr2, Option.bind_some, if_neg c0, if_pos c1, Option.bind_some, hr3, Option.bind_some, if_pos u0, if_pos (by simpa using u1)]
      · simpa using u1
    · refine ⟨p, b + 1, ev_call h2 (ev_is fun k => ?_), by omega, by omega, by omega⟩
      dsimp only
      rw [hr2, Option.bind_some, if_neg c0, if_neg c1]
theorem tRight_l0 {c : List Int} (hc : CodeT c) (d : Nat) : ∀ (n : Nat) (out : List ZZ) (a : Int), GoodT n out → n + d ≤ 20 → 0 ≤ a → a + 12 * d ≤ 600000 → ∃ (x : List ZZ) (b : Int), Ev (fun k => spec_l2Right.l0 k out (d : Int) c a) (x, b) ∧ GoodT (n + d) x ∧ a ≤ b ∧ b ≤ a + 12 * d := by
  induction d with
  | zero => exact fun n out a ho _ h0 h1 => ⟨out, a, ev_done fun k => by simp only [spec_l2Right.l0]; rw [if_neg (by omega)], ho, by omega, by omega⟩
  | succ d ih =>
    intro n out a ho hd h0 h1
    have hlen := ho.few
    have wd : wrap64 (((d + 1 : Nat) : Int) - 1) = (d : Int) := by rw [wrap_id (by omega) (by omega)]; omega
    obtain ⟨p, b, hp, hf, hs, hb0, hb1⟩ := drawPath_ev hc a h0 (by omega)
    obtain ⟨r1, e1, _, _⟩ := next_is hc b 99 (by omega) (by omega) (by omega) (by omega)
    obtain ⟨r2, e2, _⟩ := pick_is hc (b + 1) [0, 0, 1, 2] (by omega) (by omega) (by simp) (by simp)
    obtain ⟨r3, e3⟩ := chance_is hc (b + 1 + 1) 5 (by omega) (by omega) (by omega) (by omega)
    have hC := create_in_spec ho.good ho.rise (by omega) hf r1 r2 r3
    obtain ⟨r4, e4, _, _⟩ := next_is hc (b + 1 + 1 + 1) 6 (by omega) (by omega) (by omega) (by omega)
    obtain ⟨r5, e5, _, _⟩ := next_is hc (b + 1 + 1 + 1 + 1) 99 (by omega) (by omega) (by omega) (by omega)
    have hS := set_in_spec ho.good (by omega) ho.rise p r5 (-1)
    have hD := delete_in_spec ho.good ho.rise (by omega) p (-1)
    have fin : ∀ (l : List ZZ) (e : Int), GoodT (n + 1) l → a ≤ e → e ≤ a + 12 → ∃ (x : List ZZ) (y : Int), Ev (fun k => spec_l2Right.l0 k l (d : Int) c e) (x, y) ∧ GoodT (n + (d + 1)) x ∧ a ≤ y ∧ y ≤ a + 12 * ((d + 1 : Nat) : Int) := by
      intro l e hl he0 he1
      obtain ⟨x, y, q1, q2, q3, q4⟩ := ih (n + 1) l e hl (by omega) (by omega) (by omega)
      exact ⟨x, y, q1, by rw [show n + (d + 1) = n + 1 + d by omega]; exact q2, by omega, by omega⟩
    have up : GoodT (n + 1) out := ho.mono (by omega)
    have first : ∀ R : List ZZ × Int, Ev (fun k => (if r4 = 0 then ((spec_l1Next.f c (b + 1 + 1 + 1 + 1) 99).bind fun bt129 => ((spec_l2Set.f k out p bt129.1 (-1)).bind fun bt131 => (if bt131.1 = 0 then (spec_l2Right.l0 k bt131.2.2 (d : Int) c bt129.2) else (spec_l2Right.l0 k out (d : Int) c bt129.2)))) else (if r4 = 1 then ((spec_l2Delete.f k out p (-1)).bind fun bt136 => (if bt136.1 = 0 then (spec_l2Right.l0 k bt136.2.2 (d : Int) c (b + 1 + 1 + 1 + 1)) else (spec_l2Right.l0 k out (d : Int) c (b + 1 + 1 + 1 + 1)))) else (if (createIn out p r1 r2 r3).1 = 0 then (spec_l2Right.l0 k (createIn out p r1 r2 r3).2.2 (d : Int) c (b + 1 + 1 + 1 + 1)) else (spec_l2Right.l0 k out (d : Int) c (b + 1 + 1 + 1 + 1)))))) R → Ev (fun k => spec_l2Right.l0 k out ((d + 1 : Nat) : Int) c a) R := by
      intro R h
      refine ev_step _ (fun k => by simp only [spec_l2Right.l0]; exact if_pos (by omega)) (ev_call hp ?_)
      refine ev_cong (fun k => by dsimp only; rw [e1, Option.bind_some, e2, Option.bind_some, e3, Option.bind_some]) (ev_call hC ?_)
      refine ev_cong (fun k => by dsimp only; rw [e4, Option.bind_some, wd]) h
    by_cases c0 : r4 = 0
    · by_cases g : (setIn out p r5 (-1)).1 = 0
      · obtain ⟨x, y, q1, q2⟩ := fin (setIn out p r5 (-1)).2.2 (b + 1 + 1 + 1 + 1 + 1) ((setIn_good ho g).mono (by omega)) (by omega) (by omega)
        exact ⟨x, y, first _ (ev_cong (fun k => if_pos c0) (ev_cong (fun k => by rw [e5, Option.bind_some]) (ev_call hS (ev_cong (fun k => if_pos g) q1)))), q2⟩
      · obtain ⟨x, y, q1, q2⟩ := fin out (b + 1 + 1 + 1 + 1 + 1) up (by omega) (by omega)
        exact ⟨x, y, first _ (ev_cong (fun k => if_pos c0) (ev_cong (fun k => by rw [e5, Option.bind_some]) (ev_call hS (ev_cong (fun k => if_neg g) q1)))), q2⟩
    · by_cases c1 : r4 = 1
      · by_cases g : (deleteIn out p (-1)).1 = 0
        · obtain ⟨x, y, q1, q2⟩ := fin (deleteIn out p (-1)).2.2 (b + 1 + 1 + 1 + 1) ((deleteIn_good ho g).mono (by omega)) (by omega) (by omega)
          exact ⟨x, y, first _ (ev_cong (fun k => (if_neg c0).trans (if_pos c1)) (ev_call hD (ev_cong (fun k => if_pos g) q1))), q2⟩
        · obtain ⟨x, y, q1, q2⟩ := fin out (b + 1 + 1 + 1 + 1) up (by omega) (by omega)
          exact ⟨x, y, first _ (ev_cong (fun k => (if_neg c0).trans (if_pos c1)) (ev_call hD (ev_cong (fun k => if_neg g) q1))), q2⟩
      · by_cases g : (createIn out p r1 r2 r3).1 = 0
        · obtain ⟨x, y, q1, q2⟩ := fin (createIn out p r1 r2 r3).2.2 (b + 1 + 1 + 1 + 1) (createIn_good ho hf g) (by omega) (by omega)
          exact ⟨x, y, first _ (ev_cong (fun k => (if_neg c0).trans ((if_neg c1).trans (if_pos g))) q1), q2⟩
        · obtain ⟨x, y, q1, q2⟩ := fin out (b + 1 + 1 + 1 + 1) up (by omega) (by omega)
          exact ⟨x, y, first _ (ev_cong (fun k => (if_neg c0).trans ((if_neg c1).trans (if_neg g))) q1), q2⟩
theorem new_is {r : Int} (h : 0 ≤ r ∧ r ≤ 9999) : spec_NewTree.f r = some (0, (⟨#[]⟩ : ByteArray), [(⟨(⟨#[47]⟩ : ByteArray), r, 0, 0, 0⟩ : ZZ)]) := by
  unfold spec_NewTree.f spec_l2Data.f
  rw [spec_l1In_is, Option.bind_some, Option.bind_some, if_pos (decide_eq_true h)]
theorem new_good {r : Int} (h : 0 ≤ r ∧ r ≤ 9999) : GoodT 1 [(⟨(⟨#[47]⟩ : ByteArray), r, 0, 0, 0⟩ : ZZ)] := by
  refine ⟨by simp, fun z hz => ?_, List.pairwise_singleton _ _, ⟨_, List.mem_singleton.2 rfl, rfl⟩⟩
  rw [List.mem_singleton] at hz
  subst hz
  exact zOwn_of top_fault (zIn_of h ⟨Int.le_refl _, by show (0 : Int) ≤ 999; omega⟩ ⟨Int.le_refl _, by show (0 : Int) ≤ 9; omega⟩ ⟨Int.le_refl _, by show (0 : Int) ≤ 100; omega⟩)
theorem tRight_ev {c : List Int} (hc : CodeT c) (a : Int) (h0 : 0 ≤ a) (h1 : a ≤ 500000) : ∃ (x : List ZZ) (b : Int), Ev (fun k => spec_l2Right.f k c a) (x, b) ∧ GoodT 12 x ∧ a ≤ b ∧ b ≤ a + 140 := by
  obtain ⟨r, e1, r0, r1⟩ := next_is hc a 9 h0 (by omega) (by omega) (by omega)
  obtain ⟨s, e2, s0, s1⟩ := next_is hc (a + 1) 12 (by omega) (by omega) (by omega) (by omega)
  obtain ⟨d, rfl⟩ : ∃ d : Nat, s = (d : Int) := ⟨s.toNat, by omega⟩
  obtain ⟨x, b, hx, hg, hb0, hb1⟩ := tRight_l0 hc d 1 _ (a + 1 + 1) (new_good (r := r) (by omega)) (by omega) (by omega) (by omega)
  refine ⟨x, b, ?_, hg.mono (by omega), by omega, by omega⟩
  unfold spec_l2Right.f
  exact ev_cong (fun k => by rw [e1, Option.bind_some, new_is (by omega), Option.bind_some, e2, Option.bind_some]) hx
theorem tBent_size {c : List Int} (hc : CodeT c) (a : Int) (h0 : 0 ≤ a) (h1 : a ≤ 500000) : ∃ (x : List ZZ) (b : Int), Ev (fun k => spec_l2Bent.f k c a) (x, b) ∧ 1 ≤ x.length ∧ x.length ≤ 21 ∧ (∀ z ∈ x, z.f0.size ≤ 25) ∧ a ≤ b ∧ b ≤ a + 160 := by
  obtain ⟨x, b, hx, hg, hb0, hb1⟩ := tRight_ev hc a h0 h1
  have hs := hg.some
  have hf := hg.few
  obtain ⟨i, ei, i0, i1⟩ := next_is hc b (x.length : Int) (by omega) (by omega) (by omega) (by omega)
  obtain ⟨r, er, _, _⟩ := next_is hc (b + 1) 14 (by omega) (by omega) (by omega) (by omega)
  obtain ⟨p, b2, hp, hp25, hp0, hp1⟩ := bentPath_ev hc (b + 1 + 1) (by omega) (by omega)
  obtain ⟨r1, e1, _⟩ := pick_is hc (b + 1 + 1) [(-1), 10000] (by omega) (by omega) (by simp) (by simp)
  obtain ⟨r2, e2, _⟩ := pick_is hc (b + 1 + 1) [(-1), 999, 1000] (by omega) (by omega) (by simp) (by simp)
  obtain ⟨r3, e3, _⟩ := pick_is hc (b + 1 + 1) [3, 10] (by omega) (by omega) (by simp) (by simp)
  obtain ⟨r4, e4, _⟩ := pick_is hc (b + 1 + 1) [100, 101] (by omega) (by omega) (by simp) (by simp)
  have h24 : ∀ z ∈ x, z.f0.size ≤ 24 := fun z hz => (fault_zero (zOwn_ok (hg.good z hz)).1).1
  have h25 : ∀ z : ZZ, z.f0.size ≤ 25 → ∀ y ∈ x.set i.toNat z, y.f0.size ≤ 25 := fun z hz y hy => by
    rcases List.mem_or_eq_of_mem_set hy with h | h
    · have := h24 y h; omega
    · rw [h]; exact hz
  have hat : (rd_T32 x i).f0.size ≤ 25 := by
    obtain ⟨j, rfl⟩ : ∃ j : Nat, i = (j : Int) := ⟨i.toNat, by omega⟩
    rw [rd_T32_at (show j < x.length by omega)]
    have := h24 _ (List.getElem_mem (show j < x.length by omega))
    omega
  have ln : ∀ z : ZZ, (x.set i.toNat z).length = x.length := fun z => List.length_set
  unfold spec_l2Bent.f
  by_cases c0 : r = 0
  · refine ⟨_, b2, ev_call hx (ev_cong (fun k => by dsimp only; rw [ei, Option.bind_some, er, Option.bind_some, if_pos c0]) (ev_call hp (ev_is fun k => (if_pos i0).trans (if_pos i1)))), ?_, ?_, ?_, by omega, by omega⟩
    · rw [ln]; exact hs
    · rw [ln]; omega
    · exact h25 _ hp25
  by_cases c1 : r = 1
  · refine ⟨_, _, ev_call hx (ev_is fun k => by dsimp only; rw [ei, Option.bind_some, er, Option.bind_some, if_neg c0, if_pos c1, e1, Option.bind_some, if_pos i0, if_pos i1]), ?_, ?_, ?_, by omega, by omega⟩
    · rw [ln]; exact hs
    · rw [ln]; omega
    · exact h25 _ hat
  by_cases c2 : r = 2
  · refine ⟨_, _, ev_call hx (ev_is fun k => by dsimp only; rw [ei, Option.bind_some, er, Option.bind_some, if_neg c0, if_neg c1, if_pos c2, e2, Option.bind_some, if_pos i0, if_pos i1]), ?_, ?_, ?_, by omega, by omega⟩
    · rw [ln]; exact hs
    · rw [ln]; omega
    · exact h25 _ hat
  by_cases c3 : r = 3
  · refine ⟨_, _, ev_call hx (ev_is fun k => by dsimp only; rw [ei, Option.bind_some, er, Option.bind_some, if_neg c0, if_neg c1, if_neg c2, if_pos c3, e3, Option.bind_some, if_pos i0, if_pos i1]), ?_, ?_, ?_, by omega, by omega⟩
    · rw [ln]; exact hs
    · rw [ln]; omega
    · exact h25 _ hat
  by_cases c4 : r = 4
  · refine ⟨_, _, ev_call hx (ev_is fun k => by dsimp only; rw [ei, Option.bind_some, er, Option.bind_some, if_neg c0, if_neg c1, if_neg c2, if_neg c3, if_pos c4, e4, Option.bind_some, if_pos i0, if_pos i1]), ?_, ?_, ?_, by omega, by omega⟩
    · rw [ln]; exact hs
    · rw [ln]; omega
    · exact h25 _ hat
  by_cases c5 : r = 5
  · refine ⟨List.replicate 21 z32, b + 1 + 1, ev_call hx (ev_is fun k => by dsimp only; rw [ei, Option.bind_some, er, Option.bind_some, if_neg c0, if_neg c1, if_neg c2, if_neg c3, if_neg c4, if_pos c5, if_pos (by omega)]), by simp, by simp, fun z hz => by rw [(List.mem_replicate.1 hz).2]; decide, by omega, by omega⟩
  · exact ⟨x, b + 1 + 1, ev_call hx (ev_is fun k => by dsimp only; rw [ei, Option.bind_some, er, Option.bind_some, if_neg c0, if_neg c1, if_neg c2, if_neg c3, if_neg c4, if_neg c5]), hs, by omega, fun z hz => by have := h24 z hz; omega, by omega, by omega⟩
end Go.Proofs.YtegggpipggniaaaDoor.Pure

/- The draws of a tree with a path: they answer, whatever the code. -/
namespace Go.Proofs.YtegggpipggniaaaDoor.Pure
open Go.RowKit Go.Proofs.YtegggpipggniaaaDoor.Qa Go.Proofs.YtegggpipggniaaaDoorW.PrintWords Go.Proofs.YtegggpipggniaaaDoorW.PrintLast Go.Proofs.YtegggpipggniaaaDoor.Aid
end Go.Proofs.YtegggpipggniaaaDoor.Pure

/- The draw of a node that is to be put: it answers, whatever the code. -/
namespace Go.Proofs.YtegggpipggniaaaDoor.Pure
open Go.RowKit Go.Proofs.YtegggpipggniaaaDoor.Qa Go.Proofs.YtegggpipggniaaaDoorW.PrintWords Go.Proofs.YtegggpipggniaaaDoorW.PrintLast Go.Proofs.YtegggpipggniaaaDoor.Aid
theorem join_wide (s n : ByteArray) (hs : s.size ≤ 1048576) (hn : n.size ≤ 1048576) : spec_l1Join.f s n = some (joinR s n) := by
  unfold spec_l1Join.f joinR
  rw [tl, cat_size]
  have e1 : (⟨#[47]⟩ : ByteArray).size = 1 := rfl
  by_cases h : s.data.toList = [47]
  · have e : s = (⟨#[47]⟩ : ByteArray) := eq_mk h
    rw [if_pos h, if_pos h, if_pos (by omega), e]
  · rw [if_neg h, if_neg h, if_pos (by omega), if_pos (by omega)]
theorem drawName_is {c : List Int} (hc : CodeT c) (a : Int) (h0 : 0 ≤ a) (h1 : a ≤ 1000000) : ∃ n : ByteArray, spec_l1DrawName.f c a = some (n, a + 1) ∧ n.size ≤ 4 := by
  obtain ⟨r, er, r0, r1⟩ := next_is hc a 5 h0 h1 (by omega) (by omega)
  refine ⟨rdOf ByteArray.empty [(⟨#[97]⟩ : ByteArray), (⟨#[98]⟩ : ByteArray), (⟨#[99]⟩ : ByteArray), (⟨#[113, 49]⟩ : ByteArray), (⟨#[108, 111, 99, 107]⟩ : ByteArray)] r, ?_, pick_text _ 4 (by decide) r r0 (by simpa using r1)⟩
  unfold spec_l1DrawName.f
  rw [Option.bind_some, er, Option.bind_some, if_pos r0, if_pos (by simpa using r1)]
theorem create_j1 {c : List Int} (hc : CodeT c) (x : List ZZ) (p : ByteArray) (a : Int) (h0 : 0 ≤ a) (h1 : a ≤ 900000) : ∃ r : List ZZ × ByteArray × Int × Int × Bool, Ev (fun k => spec_DrawCreateZ.j1 k x p c a) r := by
  obtain ⟨n, en, _, _⟩ := next_is hc a 99 h0 (by omega) (by omega) (by omega)
  obtain ⟨d, ed, _⟩ := pick_is hc (a + 1) [n, 10000] (by omega) (by omega) (by simp) (by simp)
  obtain ⟨o, eo, _⟩ := pick_is hc (a + 1 + 1) [0, 0, 1, 10] (by omega) (by omega) (by simp) (by simp)
  obtain ⟨t, et⟩ := chance_is hc (a + 1 + 1 + 1) 3 (by omega) (by omega) (by omega) (by omega)
  exact ⟨(x, p, d, o, t), ev_done fun k => by
    simp only [spec_DrawCreateZ.j1]
    rw [en, Option.bind_some]
    dsimp only
    rw [ed, Option.bind_some]
    dsimp only
    rw [eo, Option.bind_some]
    dsimp only
    rw [et, Option.bind_some]⟩
theorem drawCreate_ev {c : List Int} (hc : CodeT c) : ∃ r : List ZZ × ByteArray × Int × Int × Bool, Ev (fun k => spec_DrawCreateZ.f k c) r := by
  obtain ⟨x, b, hx, hs, hf, hsz, hb0, hb1⟩ := tBent_size hc 0 (by omega) (by omega)
  obtain ⟨p, b2, hp, _, p0, p1⟩ := bentPath_ev hc b (by omega) (by omega)
  obtain ⟨t, ht⟩ := chance_is hc b2 2 (by omega) (by omega) (by omega) (by omega)
  have h2 : ∃ r : List ZZ × ByteArray × Int × Int × Bool, Ev (fun k => spec_DrawCreateZ.j0 k x p t c (b2 + 1)) r := by
    cases t with
    | true =>
      obtain ⟨i, ei, i0, i1⟩ := next_is hc (b2 + 1) (x.length : Int) (by omega) (by omega) (by omega) (by omega)
      obtain ⟨n, en, hn⟩ := drawName_is hc (b2 + 1 + 1) (by omega) (by omega)
      obtain ⟨j, rfl⟩ : ∃ j : Nat, i = (j : Int) := ⟨i.toNat, by omega⟩
      have hj : j < x.length := by omega
      have hrd := rd_T32_at hj
      have hz := hsz _ (List.getElem_mem hj)
      obtain ⟨r, hr⟩ := create_j1 hc x (joinR x[j].f0 n) (b2 + 1 + 1 + 1) (by omega) (by omega)
      refine ⟨r, ev_step _ (fun k => ?_) hr⟩
      simp only [spec_DrawCreateZ.j0]
      rw [if_pos trivial, ei, Option.bind_some]
      dsimp only
      rw [if_pos i0, if_pos i1, en, Option.bind_some, hrd]
      dsimp only
      rw [join_wide _ _ (by omega) (by omega), Option.bind_some]
    | false =>
      obtain ⟨r, hr⟩ := create_j1 hc x p (b2 + 1) (by omega) (by omega)
      exact ⟨r, ev_step _ (fun k => by simp only [spec_DrawCreateZ.j0]; exact if_neg (by simp)) hr⟩
  obtain ⟨r, hr⟩ := h2
  refine ⟨r, ?_⟩
  unfold spec_DrawCreateZ.f spec_l1Source.f
  refine ev_cong (fun k => by rw [Option.bind_some]) (ev_call hx (ev_call hp (ev_cong (fun k => ?_) hr)))
  rw [if_pos (show (x.length : Int) > 0 by omega), ht, Option.bind_some]
end Go.Proofs.YtegggpipggniaaaDoor.Pure

/- FnCreates: what is made is there alone, under its parent, and all others stay: for every code. No condition. -/
namespace Go.Proofs.YtegggpipggniaaaDoor.Pure
open Go.RowKit Go.Proofs.YtegggpipggniaaaDoor.Qa Go.Proofs.YtegggpipggniaaaDoorW.PrintWords Go.Proofs.YtegggpipggniaaaDoorW.PrintLast Go.Proofs.YtegggpipggniaaaDoor.Aid
theorem parentOf_is {s : ByteArray} (h : faultR s = 0) (ht : ¬ s.data.toList = [47]) : Ev (fun k => impl_ParentOf.f k s) (0, upR s) := by
  have hf := fault_impl s
  rw [h] at hf
  unfold impl_ParentOf.f
  exact ev_call hf (ev_cong (fun k => (if_pos rfl).trans (if_neg (by rw [tl]; exact ht))) (ev_call (parted_is h) (Ev.now _)))
theorem creates_l0 {l l' : List ZZ} {q q' : ByteArray} {d o : Int} {b : Bool} (M : Made l q d o b l' q') (n : Nat) : ∀ (i : Nat), i + n = l.length → Ev (fun k => laws_FnCreates.l0 k l q d o b (i : Int) 0 q' (madeL l' q' d o) 0 (⟨#[]⟩ : ByteArray) [madeZ q' d o] (kidsR (madeL l' q' d o) (upR q')).1 (kidsR (madeL l' q' d o) (upR q')).2 (kidsR l (upR q')).1 (kidsR l (upR q')).2) true := by
  have hf := M.tree.few
  have hk := M.kids
  have hk20 := M.kids_few
  have hlen := M.len
  induction n with
  | zero =>
    intro i h
    have hT := treeR_impl (madeL l' q' d o)
    have hG := GetZ_impl l q'
    rw [M.made.code] at hT
    rw [M.not] at hG
    have w1 : wrap64 ((l.length : Int) + 1) = ((madeL l' q' d o).length : Int) := by rw [wrap_id (by omega) (by omega)]; omega
    have w2 : wrap64 (((kidsR l (upR q')).2.length : Int) + 1) = ((kidsR (madeL l' q' d o) (upR q')).2.length : Int) := by rw [wrap_id (by omega) (by omega)]; omega
    refine ev_step _ (fun k => by simp only [laws_FnCreates.l0]; exact if_neg (by omega)) (ev_call hT ?_)
    have z0 : rd_T32 [madeZ q' d o] 0 = madeZ q' d o := rfl
    have q1 : (0 : Int) < (([madeZ q' d o] : List ZZ).length : Int) := by simp
    have f1 : (rd_T32 [madeZ q' d o] 0).f1 = d := rfl
    have f3 : (rd_T32 [madeZ q' d o] 0).f3 = o := rfl
    have q2 : (([madeZ q' d o] : List ZZ).length : Int) = 1 := rfl
    cases b with
    | true =>
      refine ev_cong (fun k => ?_) (ev_call (f := fun _ a => some (a.1 == 4)) hG (ev_is fun k => rfl))
      try dsimp only
      repeat (first | rw [if_pos w1.symm] | rw [if_pos w2.symm] | rw [if_pos q1] | rw [if_pos q2] | rw [if_pos f1] | rw [if_pos f3] | rw [if_pos rfl] | rw [if_pos trivial])
    | false =>
      have e := M.plain rfl
      have e2 : q'.toList = q.toList := by rw [e]
      refine ev_cong (fun k => ?_) (ev_call (f := fun _ a => some (a.1 == 4)) hG (ev_is fun k => rfl))
      try dsimp only
      repeat (first | rw [if_pos w1.symm] | rw [if_pos w2.symm] | rw [if_pos q1] | rw [if_pos q2] | rw [if_pos f1] | rw [if_pos f3] | rw [if_pos e2] | rw [if_pos rfl] | rw [if_pos trivial] | rw [if_neg (show ¬ (false = true) by decide)])
  | succ n ih =>
    intro i h
    have hi : i < l.length := by omega
    have wi := wrap_up hi (by omega)
    have hrd := rd_T32_at hi
    obtain ⟨y, hy, e1, e2, e3⟩ := M.old (List.getElem_mem hi)
    have hG := GetZ_impl (madeL l' q' d o) l[i].f0
    rw [hy] at hG
    refine ev_step _ (fun k => by
      simp only [laws_FnCreates.l0]
      rw [if_pos (by omega), if_pos (by omega), hrd, wi]) (ev_call hG ?_)
    have z0 : rd_T32 [y] 0 = y := rfl
    have q1 : (0 : Int) < (([y] : List ZZ).length : Int) := by simp
    exact ev_cong (fun k => (if_pos rfl).trans ((if_pos rfl).trans ((if_pos q1).trans ((if_pos (by rw [z0]; exact e1)).trans ((if_pos (by rw [z0]; exact e2)).trans (if_pos (by rw [z0]; exact e3))))))) (ih (i + 1) (by omega))
theorem FnCreates (l0 : List Int) (h : l0.length ≤ 9223372036854775807 ∧ ∀ y_ ∈ l0, (Lit.int .u8 y_).wf = true) : ∃ k, laws_FnCreates.f k l0 = some true := by
  refine Ev.rounds ?_
  unfold laws_FnCreates.f laws_lwBig.f
  by_cases hb : (l0.length : Int) > 1048576
  · exact ev_is fun k => by rw [Option.bind_some, if_pos (decide_eq_true hb)]
  · refine ev_cong (fun k => by rw [Option.bind_some, if_neg (by simpa using hb)]) ?_
    obtain ⟨⟨l, q, d, o, b⟩, hd⟩ := drawCreate_ev (code_of h hb)
    refine ev_step _ (fun k => by simp only [laws_FnCreates.j0]; rfl) (ev_call hd (ev_call (CreateZ_impl l q d o b) ?_))
    by_cases g : (createR l q d o b).1 = 0
    · refine ev_cong (fun k => if_pos g) ?_
      obtain ⟨l', q', M⟩ := createR_ok g
      have hG := GetZ_impl (madeL l' q' d o) q'
      rw [M.get] at hG
      have e : createR l q d o b = (0, q', madeL l' q' d o) := M.is
      rw [e]
      refine ev_step _ (fun k => by simp only [laws_FnCreates.j1]; rfl) (ev_call hG ?_)
      refine ev_call (parentOf_is M.fault M.top) (ev_call (KidsZ_impl (madeL l' q' d o) (upR q')) ?_)
      refine ev_call (parentOf_is M.fault M.top) (ev_call (KidsZ_impl l (upR q')) ?_)
      exact creates_l0 M l.length 0 (by omega)
    · exact ev_cong (fun k => if_neg g) (ev_call (CreateZ_spec l q d o b) (ev_is fun k => by simp))
end Go.Proofs.YtegggpipggniaaaDoor.Pure

/- For every input the law loop.example/g00369/laws.FnCreates returns true, and every argument reads behind the call as it read before. No condition. -/
namespace Go.Proofs.YtegggpipggniaaaDoor.fnCreates
open Go.ChangeShapes Go.WideShapes Go.ChangeAt Go.RowKit Go.Proofs.YtegggpipggniaaaDoor.Qa Go.Proofs.YtegggpipggniaaaDoor.Tro Go.Proofs.YtegggpipggniaaaDoorW.PrintWords
open Go.ChangeMaps (open_string shut_string)
set_option linter.unusedVariables false
set_option linter.unusedSimpArgs false
theorem own : ownKnob Tryd.prog.godebug = none := by kernel_rfl
theorem laidOut : laidOutB Tryd.prog = true := by kernel_rfl
set_option maxRecDepth 100000 in
theorem lifted (os : Os) (started : os.Started) (H : Type) (enc : TypeId × Value → H) :
    ReturnsInHanded {} Tryd.checked os 5 .any (fun w args => (Rows.fnCreatesSpec.pre enc Tryd.prog Tryd.f5 [] false w args ∧ laidMetH Tryd.prog Rows.fnCreatesRow.laid w) ∧ sizedMet enc Tryd.prog Tryd.f5 (OpenSpec.ofChange Rows.fnCreatesSpec) false w args) (Rows.fnCreatesSpec.post enc Tryd.prog Tryd.f5 false true false false) := by
  refine returnsInHanded_of_change_and (C := Tryd.checked) (X := fun w _ => laidMetH Tryd.prog Rows.fnCreatesRow.laid w) (fun _ _ _ hh h => h.of_heap hh) own started (by kernel_rfl) Tryd.func5
    (ChangeSpec.witness_shaped (enc := enc) (C := Tryd.checked) (os := os) (X := fun w _ => laidMetH Tryd.prog Rows.fnCreatesRow.laid w) false (World.laidAll Tryd.prog os Rows.fnCreatesRow.laid) #[.slice none 0 0] 8 (World.laidAll_os _ _ _)
      (World.shaped_of_ZipB (by kernel_rfl) (by kernel_rfl)) (by kernel_rfl) (by kernel_rfl) (by kernel_rfl)
      (by rw [MakeChecks.laidMetH_plain _ _ _ (by kernel_rfl)]; exact laidMet_laidAll _ (by kernel_rfl) (by kernel_rfl))) ?_
  intro W base args ds gs before hval0 hW _ _ hL _
  have hval : ∀ (j : Nat) t v, Tryd.f5.params[j]? = some t → args[j]? = some v → Value.okWide Tryd.prog W .any base t v := hval0
  have hW' := hW
  obtain ⟨p, q, hA0, hV, rfl, hfz, hnd⟩ := hW
  have hA : DataW.TrodAll enc Tryd.prog W 0 (fun _ => true) true Tryd.f5.params.toList args.toList ds p := hA0
  rw [Tryd.params5] at hA hval
  obtain ⟨v0, vs0, d0, ds0, p0, q0, hargs, rfl, rfl, h0, r0⟩ := trodAll_cons hA
  obtain ⟨rfl, rfl, rfl⟩ := trodAll_nil r0
  obtain rfl : args = #[v0] := by cases args; simp_all
  obtain ⟨rfl, rfl⟩ := trodVars_none hV
  have k0 := h0
  have lt0 : ∀ x ∈ p0, x.block < W.heap.size := by obtain ⟨m, hm⟩ := k0; exact DataW.trod_lt m _ _ _ hm
  obtain ⟨a0, len0, cap0, rfl⟩ := okWide_slice Tryd.underlying22 (hval 0 22 v0 rfl rfl)
  obtain ⟨fuel0, hf0⟩ := h0
  obtain ⟨l0, hK0, hg0⟩ := (tr_slice Tryd.underlying22 (by kernel_rfl) (tr_int Tryd.underlying5)) enc W _ _ _ hf0
  obtain ⟨A0, c0, hcs0, hl0, hC0⟩ := hK0
  simp only [Value.cells, List.cons.injEq, Value.slice.injEq, and_true] at hcs0
  obtain ⟨rfl, rfl, rfl⟩ := hcs0
  obtain ⟨k, hk⟩ := Pure.FnCreates l0 hg0
  refine (laws_FnCreates.calls k _ _ l0 true W hC0 hl0 hk rfl).mono fun e W' hE => ?_
  obtain ⟨he, hd⟩ := hE
  have bel : Below W.heap.size W W' := hd
  subst he
  exact ⟨_, rfl, _, _, _, [], _, [], hW', trodAll_mk1 (shut_bool Tryd.underlying4 _), (trodAll_cons_mk (Below.trod laidOut (by kernel_rfl) (of_decide_eq_true (by kernel_rfl)) k0 bel lt0) trodAll_mk0), rfl, bel.frame _, fun h => by cases h⟩
theorem over : Rows.fnCreatesRow.holds Tryd.pinned (OpenSpec.ofChange Rows.fnCreatesSpec) :=
  OpenClaim.holds_of_wide 5 Tryd.f5 rfl rfl rfl rfl rfl rfl rfl ⟨rfl, rfl, rfl, rfl, rfl⟩ rfl rfl rfl rfl rfl (by kernel_rfl) Tryd.func5 (by kernel_rfl)
    (of_decide_eq_true (by kernel_rfl)) (by unfold Func.isWrapper; first | (rw [if_pos (by decide +kernel)]; kernel_rfl) | (rw [if_neg (by decide +kernel)]; exact ⟨rfl, rfl⟩))
    (fun os started H enc _ => lifted os started H enc)
theorem proved : Rows.FnCreatesCardSaid :=
  Claim7.holds_tied_plain_at .later [] [.data, .pinned] true (true, "2b81480798c3f0b7d67b11edbf9be1c3fc7cd79846c4b98bf35eb11722974916") false over (fun _ h => by cases h) (by kernel_rfl) (fun _ h => by cases h) fnCreates_row_tie rfl ⟨rfl, rfl⟩ (by kernel_rfl) rfl
    (fun f fn hf hfn => by
      obtain rfl : f = 5 := Option.some.inj ((show Tryd.prog.funcNamed "loop.example/g00369/laws.FnCreates" = some 5 by kernel_rfl).symm.trans hf) |>.symm
      obtain rfl : fn = Tryd.f5 := (Option.some.inj (Tryd.func5.symm.trans hfn)).symm
      exact ⟨by kernel_rfl, fun j t ht => by
        rw [Tryd.params5] at ht
        have hm : t ∈ [22] := by simpa using Array.mem_of_getElem? ht
        have hall : ([22].all fun u => !Tryd.prog.wantsStandIn u) = true := by kernel_rfl
        exact (show Tryd.prog.wantsStandIn t = false by simpa using List.all_eq_true.1 hall t hm)⟩)
    (by kernel_rfl)
#print axioms proved
end Go.Proofs.YtegggpipggniaaaDoor.fnCreates
namespace Go.Proofs.YtegggpipggniaaaDoor
/-- The row, under a short name, for the claim. -/
theorem fnCreates_holds : Rows.FnCreatesCardSaid := fnCreates.proved
end Go.Proofs.YtegggpipggniaaaDoor
